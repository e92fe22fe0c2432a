/-
  Unify of the reference: the type of a node.
-/
import Derived.Test.YtfebhekplhjigaaWSu3
import Derived.Test.YtfebhekplhjigaaWUni6
open List(getElem?_set_ne)
open Nat(reduceEqDiff reduceLeDiff reduceAdd reduceLT reduceMul)
set_option linter.unusedSimpArgs false
set_option linter.unusedVariables false
namespace Go.Proofs.Ab
open Go.Ab
set_option maxRecDepth 100000
set_option maxHeartbeats 4000000
def kh(O O':List ad):Prop:=O.length<=O'.length/\∀n,n<O.length->O'[n]? =O[n]?
theorem kh.trans{O O' nc:List ad}(h:kh O O')(k:kh O' nc):kh O nc:=⟨Nat.le_trans h.1 k.1,λ n hn=>(k.2 n (Nat.lt_of_lt_of_le hn h.1)).trans (h.2 n hn)⟩
theorem kh.app(O E:List ad):kh O (O++E):=⟨by simp,λ n hn=>al hn⟩
theorem kh.get{O O':List ad}(h:kh O O'){n:Nat}{ob:ad}(hn:O[n]? =some ob):O'[n]? =some ob:=by rw[h.2 n (List.getElem?_eq_some_iff.1 hn).1];exact hn
theorem kq.more{S:Net}{up aW:Nat->Nat}{nb tr kk ur:Nat}{O O':List ad}(hL:kq S up nb tr kk ur aW O)(h:kh O O'):kq S up nb tr kk ur aW O':=
 ⟨h.get hL.box,h.get hL.ty,h.get hL.kids,λ x hx=>h.get (hL.wK x hx),h.get hL.up,hL.sep,hL.few,hL.small⟩
structure RdI(n5:Nat)(O:List ad)(Kd N:Int)(Nm:ByteArray)(ts:List aa)(i:Nat)(ys:List AV)(k:Nat)(Q:List ad):Prop where
 more:kh O Q
 at5:O.length<n5/\n5<Q.length
 aiB:Q[O.length]? =some (.live 29 4 [.agg [au 0,au 0,bZ ⟨#[]⟩,.aw]])
 apl:Q[n5]? =some (.live 29 4 [.agg [au Kd,au N,bZ Nm,AV.row k ys.length]])
 len:ys.length=i
 split:Split Q ys ((ts.take i).map aa.av)
 own:∀(a:Nat) y (j m:Nat),ys[a]? =some y->y.cells[j]? =some (.own m)->n5<m/\∃d,Q[m]? =some (.own d)
 row:n5<k/\Q[k]? =some (.live 29 4 ys)
theorem ag2{α:Type}{A C:List α}{x y z:α}:(A++x::y::z::C)[A.length+1+1]? =some z:=by
 rw[List.getElem?_append_right (by omega),show A.length+1+1- A.length=2 by omega];rfl
theorem RdI.step{n5:Nat}{O:List ad}{Kd N:Int}{Nm:ByteArray}{ts:List aa}{i:Nat}{ys:List AV}{k:Nat}{Q:List ad}(hi:RdI n5 O Kd N Nm ts i ys k Q){t:aa}(ht:ts[i]? =some t){O' Q3:List ad}{kk:Nat}
  (h1:O'[kk]? =some (.own (.sl (t.Kids.map aa.av)))) (h2:Q.length<=kk) (h6:kh Q O')
  (h7:∀n,n<O'.length->n≠n5->n≠k->Q3[n]? =O'[n]?) (hl:O'.length<=Q3.length)
  (hb:Q3[n5]? =some (.live 29 4 [.agg [au Kd,au N,bZ Nm,.row k (ys.length+1)]])) (hr:Q3[k]? =some (.live 29 4 (ys++ [.agg [au t.Kind,au t.N,bZ t.Name,.own kk]]))):
  RdI n5 O Kd N Nm ts (i+1) (ys++ [.agg [au t.Kind,au t.N,bZ t.Name,.own kk]]) k Q3:=by
 obtain⟨a1,a2⟩:=hi.at5;obtain⟨r1,r2⟩:=hi.row;have hQO:=h6.1;have hOQ:=hi.more.1;have hkl:=(List.getElem?_eq_some_iff.1 h1).1;have hkQ:=(List.getElem?_eq_some_iff.1 r2).1;have hold:∀n,n<Q.length->n≠n5->n≠k->Q3[n]? =Q[n]? :=λ n hn h h'=>by rw[h7 n (by omega) h h',h6.2 n hn]
 have pM:∀(a:Nat) y (j m:Nat),ys[a]? =some y->y.cells[j]? =some (.own m)->Q3[m]? =Q[m]? /\m≠kk/\n5<m:=λ a y j m hy hc=>by
  obtain⟨g1,d,g2⟩:=hi.own a y j m hy hc;have mc:=(List.getElem?_eq_some_iff.1 g2).1;exact⟨hold m mc (by omega) (λ e=>by rw[e,r2]at g2;cases g2),by omega,g1⟩
 refine⟨⟨by omega,λ n hn=> ?_⟩,⟨a1,by omega⟩,?_,?_,by simp[hi.len],?_,λ a y j m hy hc=> ?_,r1,hr⟩
 ·rw[hold n (by omega) (by omega) (by omega)];exact hi.more.2 n hn
 ·rw[hold O.length (by omega) (by omega) (by omega)];exact hi.aiB
 ·rw[hb,List.length_append];rfl
 ·have:=hi.split.add (O':=Q3) (K:=t.Kind) (N:=t.N) (S:=t.Name) (kk:=kk) (a:= .sl (t.Kids.map aa.av)) (by rw[h7 kk hkl (by omega) (by omega)];exact h1) λ a y j m hy hc=>⟨(pM a y j m hy hc).1,(pM a y j m hy hc).2.1⟩
  rw[aa.eta]at this;rw[List.take_add_one,ht,List.map_append];exact this
 ·by_cases ha:a<ys.length
  ·rw[List.getElem?_append_left ha]at hy;obtain⟨g1,g2,g3⟩:=pM a y j m hy hc;obtain⟨_,d,g4⟩:=hi.own a y j m hy hc;exact⟨g3,d,by rw[g1];exact g4⟩
  ·rw[List.getElem?_append_right (by omega)]at hy;generalize a- ys.length=q at hy;cases q with
   |succ q=>simp at hy
   |zero=>
    simp at hy;subst hy;have:=ade hc;subst this;exact⟨by omega,_,by rw[h7 m hkl (by omega) (by omega)];exact h1⟩
theorem gP.head{S:Net}(hs:S.ok){u0:Nat->Nat}{r:Nat}{t:aa}(ep:r<S.N)(vh:bI u0 r r)(hv:gP S u0 r t):∃ts,t= .mk (S.ty r).Kind (S.ty r).N (S.ty r).Name ts/\ts.length=(S.kids r).length/\∀(i k:Nat),(S.kids r)[i]? =some k->∃t,ts[i]? =some t/\gP S u0 k t:=by
 cases hv with
 |mt _ r' h hme=>
  have:=vh.pf h;subst this;obtain⟨h1,h2⟩:=hs.nC r (hs.isMeta r ep hme);exact⟨[],by rw[h1];rfl,by rw[h2];rfl,by rw[h2];intro i k h;simp at h⟩
 |node _ r' ts h hme nd=>
  have:=vh.pf h;subst this;obtain⟨q1,q2⟩:=jQ.at nd;exact⟨ts,rfl,q1,q2⟩
theorem aaG{S:Net}{u0 aW:Nat->Nat}{nb tr kk ur:Nat}(hs:S.ok)(fZ:∀x,x<S.N->u0 x<S.N):
  ∀(m:Nat) {O:List ad} {x:Nat} {t:aa},kq S u0 nb tr kk ur aW O->x<S.N->gP S u0 x t->SizeOf.sizeOf t<=m->
  ∃O' k,fE Try.prog F.fc [.ptr nb 1 0 0,au (x:Nat)] O (.agg [au t.Kind,au t.N,bZ t.Name,.own k]) O'/\O'[k]? =some (.own (.sl (t.Kids.map aa.av)))/\O.length<=k/\kh O O':=by
 intro m
 induction m with
 |zero=>intro O x t _ _ _ h;have:0<SizeOf.sizeOf t:=by cases t;simp;omega
        omega
 |succ m ih=>
 intro O x t hL hx hv hm
 obtain⟨r,ma⟩:∃r,bI u0 x r:=by cases hv with
  |mt _ r h _=>exact⟨r,h⟩
  |node _ r _ h _ _=>exact⟨r,h⟩
 have ep:=ma.lt fZ hx;have vh:bI u0 r r:= .here r ma.root;have hvr:gP S u0 r t:=hv.eqv ⟨r,vh,ma⟩;obtain⟨ts,hte,htl,oI⟩:=gP.head hs ep vh hvr
 let z4:ad:= .live 29 4 [.agg [au 0,au 0,bZ ⟨#[]⟩,.aw]]
 have L1:=hL.app [z4];have c1:=gR L1 fZ hx ma;have gt:=xS (S:=S) ep;simp only[rY,au,bZ]at gt
 have key:∃res O',(∃k,res= .agg [au t.Kind,au t.N,bZ t.Name,.own k]/\O'[k]? =some (.own (.sl (t.Kids.map aa.av)))/\O.length<=k/\kh O O')/\fE Try.prog F.fc [.ptr nb 1 0 0,au (x:Nat)] O res O':=by
  refine jx A.x8 rfl ?_;simp only[A.fc,↓OD,OA,reduceEqDiff,reduceCtorEq];refine aD _ _ c1 ?_;have hb:=L1.box;have ht:=L1.ty;simp only[z4,au,bZ]at hb ht;simp only[z4,hb,ht,kz,gt,Int.toNat_natCast,au,bZ,↓OD,OA,reduceEqDiff,reduceCtorEq,reduceAdd,reduceLeDiff];refine⟨by omega,by omega,ep,?_⟩;simp only[List.append_assoc,List.cons_append,List.nil_append,ux,asj,OA,reduceAdd];have pR:=(List.getElem?_eq_some_iff.1 hL.box).1;have hkl:=(List.getElem?_eq_some_iff.1 hL.kids).1;have aEI:=(List.getElem?_eq_some_iff.1 (hL.wK r ep)).1;have avn:=hL.few r ep;obtain⟨_,s2,_,_,_,_,s7⟩:=hL.sep;obtain⟨s8,_,s9,_⟩:=s7 r ep;have gk:=oZ (aW:=aW) ep;simp only[afj]at gk
  refine bd (ι:=Nat×List AV×List ad)
   (λ q=>q.1<=(S.kids r).length/\RdI (O.length+1) O (S.ty r).Kind (S.ty r).N (S.ty r).Name ts q.1 q.2.1 (O.length+1+1) q.2.2)
   (λ q=>jw [(0,.ptr nb 1 0 0),(1,.v (.int .i64 (r:Nat))),(4,.ptr O.length 1 0 0),(5,.ptr (O.length+1) 1 0 0),(6,.v (.int .i64 q.1))]) (λ q=>q.2.2) (λ q=>(S.kids r).length- q.1) (0,[],_)
   ⟨Nat.zero_le _,.app _ _,⟨by omega,by simp⟩,ku,ux,rfl,by rw[List.take_zero];exact .nil _,λ a y j m hy=>by simp at hy,by omega,ag2⟩ (.of_eq rfl rfl) ?_
  rintro⟨i,ys,Q⟩ ⟨w1,hi⟩;simp only at w1 hi;obtain⟨a1,a2⟩:=hi.at5;have hLQ:=hL.more hi.more;have wb:=hLQ.box;have wk:=hLQ.kids;have wr:=hLQ.wK r ep;have hyl:=hi.len;obtain⟨r1,r2⟩:=hi.row;have hkQ:=(List.getElem?_eq_some_iff.1 r2).1;by_cases afI:i<(S.kids r).length
  ·have di:decide ((i:Int)<((S.kids r).length:Int))=true:=decide_eq_true (by omega);obtain⟨p,hp⟩:∃p,(S.kids r)[i]? =some p:=⟨_,List.getElem?_eq_getElem afI⟩;have uw:=hs.lt r ep p (List.mem_of_getElem? hp);have gp:=qY hp;simp only[au]at gp;obtain⟨tp,htp,hvp⟩:=oI i p hp;have qp:SizeOf.sizeOf tp<SizeOf.sizeOf t:=gm (by rw[hte];exact List.mem_of_getElem? htp);obtain⟨O',rD,hc,l1,l2,l6⟩:=ih hLQ uw hvp (by omega);have kK:=hi.apl;have rZ:O'[O.length+1]? =Q[O.length+1]? :=l6.2 _ a2;have tX:∀E:List ad,(O'++E)[O.length+1]? =Q[O.length+1]? :=λ E=>by rw[al (by have:=l6.1;omega)];exact rZ
   have dm:∀E:List ad,(O'++E)[O.length+1+1]? =some (.live 29 4 ys):=λ E=>by
    rw[al (by have:=l6.1;omega),l6.2 _ hkQ];exact r2
   have afz:∀(E:List ad) (v:ad),((O'++E).set (O.length+1+1) v)[O.length+1]? =Q[O.length+1]? :=λ E v=>by rw[getElem?_set_ne (by omega)];exact tX E
   simp only[au,bZ]at kK hc;simp only[wb,wk,wr,dg,gk,dQ,AV.cells,Int.toNat_natCast,di,↓OD,OA,reduceEqDiff,reduceCtorEq,reduceAdd,reduceLeDiff];refine⟨by omega,by omega,ep,?_⟩
   refine aaf (al:=[⟨none,(some 31),.aK 3 (.t 5)⟩,⟨none,(some 32),.load none (.t 31)⟩,⟨none,(some 33),.aA (.t 0)⟩,⟨none,(some 34),.aA (.t 0)⟩,⟨none,(some 35),.ca (.t 34)⟩,⟨none,(some 36),.aK 1 (.t 35)⟩,⟨none,(some 37),.load none (.t 36)⟩,⟨none,(some 38),.aA (.t 1)⟩,⟨none,(some 39),.bJ 1 (.t 37) (.t 38)⟩,⟨none,(some 40),.load none (.t 39)⟩,⟨none,(some 41),.aA (.t 6)⟩,⟨none,(some 42),.bJ 1 (.t 40) (.t 41)⟩,⟨none,(some 43),.load none (.t 42)⟩,⟨none,(some 44),.nq [O.length+1] F.fc [(.t 33),(.t 43)]⟩,
    ⟨none,(some 45),.buildSlice 29 4 1 (.agg [(.v (.int .i64 0)),(.v (.int .i64 0)),(.v (.string ⟨#[]⟩)),.aw]) [(0,(.t 44))]⟩,⟨none,(some 46),.app 29 4 56 (.t 32) (.t 45)⟩,⟨none,(some 47),.aK 3 (.t 5)⟩,⟨none,none,.store 1 (.t 47) (.t 46)⟩]) rfl ?_
   simp only[kK,wb,wk,wr,dg,gk,dQ,gp,AV.cells,Int.toNat_natCast,↓OD,OA,reduceEqDiff,reduceCtorEq,reduceAdd,reduceLeDiff];refine⟨by omega,by omega,ep,by omega,by omega,afI,?_⟩;refine lU hc (λ n hn=>by rw[List.mem_singleton.1 hn,rZ]) ?_
   have mc:ys.length+1<=maxLen:=by
    have:maxLen=9223372036854775807:=rfl;omega
   simp only[tX,afz,dm,kK,ku,↓OD,OA,reduceEqDiff,reduceCtorEq,reduceAdd];refine⟨λ y hy=>by rw[List.mem_singleton.1 hy];rfl,by omega,mc,?_⟩;try simp only[tX,afz,kK,↓OD,OA,reduceEqDiff,reduceCtorEq,reduceAdd,reduceLT,reduceLeDiff,reduceIte]
   refine⟨fA (λ n=>[O.length+1,nb,kk,aW r,O'.length,O.length+1+1].getD n 0) 6 [⟨[0],.cL⟩,⟨[0],.cL⟩,⟨[],.cL⟩,⟨[],.cL⟩,⟨[1],.cL⟩,⟨[1],.cL⟩,⟨[1],.cL⟩,⟨[],.cL⟩,⟨[2],.cL⟩,⟨[2],.cL⟩,⟨[],.cL⟩,⟨[3],.cL⟩,⟨[3],.cL⟩,⟨[],.xn [0]⟩,⟨[],.push 4⟩,⟨[5,4],.set 5⟩,⟨[0],.cL⟩,⟨[0],.set 0⟩] (by kernel_rfl) (by kernel_rfl) (λ a b ha hb h=> ?_) (by kernel_rfl),?_⟩
   ·have:=l6.1
    match a,b,ha,hb with
    |0,0,_,_|1,1,_,_|2,2,_,_|3,3,_,_|4,4,_,_|5,5,_,_=>rfl
    |0,1,_,_|0,2,_,_|0,3,_,_|0,4,_,_|0,5,_,_|1,0,_,_|1,2,_,_|1,3,_,_|1,4,_,_|1,5,_,_|2,0,_,_|2,1,_,_|2,3,_,_|2,4,_,_|2,5,_,_|3,0,_,_|3,1,_,_|3,2,_,_|3,4,_,_|3,5,_,_|4,0,_,_|4,1,_,_|4,2,_,_|4,3,_,_|4,5,_,_|5,0,_,_|5,1,_,_|5,2,_,_|5,3,_,_|5,4,_,_=>simp at h<;>omega
   have hq:=l6.1;refine a6 (i+1,ys++ [_],_) ⟨by show i+1<=_;omega,hi.step htp l1 l2 l6 (λ n hn h h'=>by rw[getElem?_set_ne (λ e=>h e.symm),getElem?_set_ne (λ e=>h' e.symm),al hn]) (by simp) (List.getElem?_set_self (by simp;omega)) (by rw[getElem?_set_ne (by omega)];exact List.getElem?_set_self (by simp;omega))⟩ (by show(S.kids r).length- (i+1)<(S.kids r).length- i;omega) (.of_eq ?_ rfl);rw[bh (by omega) (by omega)];rfl
  ·have di:decide ((i:Int)<((S.kids r).length:Int))=false:=decide_eq_false (by omega);have hie:i=(S.kids r).length:=by omega
   have kK:=hi.apl;have afN:=hi.aiB;simp only[au,bZ]at kK afN;simp only[wb,wk,wr,dg,gk,dQ,AV.cells,Int.toNat_natCast,di,kK,afN,↓OD,OA,reduceEqDiff,reduceCtorEq,reduceAdd,reduceLeDiff];refine⟨by omega,by omega,ep,?_⟩;subst hte;have o5:∀v:ad,(Q.set O.length v)[O.length]? =some v:=λ v=>List.getElem?_set_self (by omega)
   have htk:ts.take i=ts:=by rw[hie,←htl,List.take_length]
   have hsp:=hi.split;rw[htk]at hsp;have hun:∀n,n<O.length->∀(a:Nat) y (j:Nat),ys[a]? =some y->y.cells[j]? ≠some (.own n):=λ n hn a y j hy hc=>by have:=(hi.own a y j n hy hc).1;omega
   refine yz (nl:=false) (j:=3) (k:=O.length+1+1) (len:=ys.length) (ty:=29) (z:=4) (ys:=ys) (xs:=ts.map aa.av) (cs:=[.v (.int .i64 (S.ty r).Kind),.v (.int .i64 (S.ty r).N),.v (.string (S.ty r).Name),.row (O.length+1+1) ys.length]) (.inl rfl) ?_ rfl xq (by rw[getElem?_set_ne (by omega),r2];simp[cq]) rfl (hsp.congr λ m d hm=> ?_) λ O2 zS hO3=>⟨_,rfl,?_,by simp;omega,⟨by simp[zS];omega,λ n hn=> ?_⟩⟩
   ·simp only[o5,OA,reduceAdd]
   ·rw[getElem?_set_ne (λ e=>by rw[←e,hi.aiB]at hm;cases hm)];exact hm
   ·rw[←zS,List.getElem?_append_right (Nat.le_refl _),Nat.sub_self];rfl
   ·rw[al (by rw[zS];simp;omega),hO3 n (by omega) (hun n hn),getElem?_set_ne (by omega)];exact hi.more.2 n hn
 obtain⟨res,O',⟨k,rfl,h⟩,hc⟩:=key;exact⟨O',k,hc,h⟩
end Go.Proofs.Ab
