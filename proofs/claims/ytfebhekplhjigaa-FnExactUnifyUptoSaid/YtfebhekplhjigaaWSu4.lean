/-
  Unify of the reference: the type of a node.
-/
import Derived.Test.YtfebhekplhjigaaWSu3
import Derived.Test.YtfebhekplhjigaaWUni6
open List(getElem?_set_ne)
open Nat(reduceEqDiff reduceLeDiff reduceAdd reduceLT reduceMul)
set_option linter.unusedVariables false
set_option linter.unusedSimpArgs false
namespace Go.Proofs.Ab
open Go.Ab
set_option maxRecDepth 100000
set_option maxHeartbeats 4000000
def kO(O O':List aa):Prop:=O.length<=O'.length/\∀n,n<O.length->O'[n]? =O[n]?
theorem kO.trans{O O' oR:List aa}(h:kO O O')(k:kO O' oR):kO O oR:=⟨Nat.le_trans h.1 k.1,λ n hn=>(k.2 n (Nat.lt_of_lt_of_le hn h.1)).trans (h.2 n hn)⟩
theorem kO.app(O E:List aa):kO O (O++E):=⟨by simp,λ n hn=>al hn⟩
theorem kO.get{O O':List aa}(h:kO O O'){n:Nat}{ob:aa}(hn:O[n]? =some ob):O'[n]? =some ob:=by rw[h.2 n (List.getElem?_eq_some_iff.1 hn).1];exact hn
theorem kR.more{S:Net}{up aT:Nat->Nat}{nb tr kk ur:Nat}{O O':List aa}(hL:kR S up nb tr kk ur aT O)(h:kO O O'):kR S up nb tr kk ur aT O':=
 ⟨h.get hL.box,h.get hL.ty,h.get hL.kids,λ x hx=>h.get (hL.za x hx),h.get hL.up,hL.sep,hL.few,hL.small⟩
structure RdI(n5:Nat)(O:List aa)(Kd N:Int)(Nm:ByteArray)(ts:List ad)(i:Nat)(ys:List AV)(k:Nat)(Q:List aa):Prop where
 more:kO O Q
 at5:O.length<n5/\n5<Q.length
 ajw:Q[O.length]? =some (.live 29 4 [.agg [aO 0,aO 0,cv ⟨#[]⟩,.aA]])
 apY:Q[n5]? =some (.live 29 4 [.agg [aO Kd,aO N,cv Nm,AV.row k ys.length]])
 len:ys.length=i
 split:Split Q ys ((ts.take i).map ad.av)
 own:∀(a:Nat) y (j m:Nat),ys[a]? =some y->y.cells[j]? =some (.own m)->n5<m/\∃d,Q[m]? =some (.own d)
 row:n5<k/\Q[k]? =some (.live 29 4 ys)
theorem ag2{α:Type}{A C:List α}{x y z:α}:(A++x::y::z::C)[A.length+1+1]? =some z:=by
 rw[List.getElem?_append_right (by omega),show A.length+1+1- A.length=2 by omega];rfl
theorem RdI.step{n5:Nat}{O:List aa}{Kd N:Int}{Nm:ByteArray}{ts:List ad}{i:Nat}{ys:List AV}{k:Nat}{Q:List aa}(hi:RdI n5 O Kd N Nm ts i ys k Q){t:ad}(ht:ts[i]? =some t){O' Q3:List aa}{kk:Nat}
  (h1:O'[kk]? =some (.own (.sl (t.Kids.map ad.av)))) (h2:Q.length<=kk) (h6:kO Q O')
  (h7:∀n,n<O'.length->n≠n5->n≠k->Q3[n]? =O'[n]?) (hl:O'.length<=Q3.length)
  (hb:Q3[n5]? =some (.live 29 4 [.agg [aO Kd,aO N,cv Nm,.row k (ys.length+1)]])) (hr:Q3[k]? =some (.live 29 4 (ys++ [.agg [aO t.Kind,aO t.N,cv t.Name,.own kk]]))):
  RdI n5 O Kd N Nm ts (i+1) (ys++ [.agg [aO t.Kind,aO t.N,cv t.Name,.own kk]]) k Q3:=by
 obtain⟨a1,a2⟩:=hi.at5;obtain⟨r1,r2⟩:=hi.row;have hQO:=h6.1;have hOQ:=hi.more.1;have hkl:=(List.getElem?_eq_some_iff.1 h1).1;have hkQ:=(List.getElem?_eq_some_iff.1 r2).1;have hold:∀n,n<Q.length->n≠n5->n≠k->Q3[n]? =Q[n]? :=λ n hn h h'=>by rw[h7 n (by omega) h h',h6.2 n hn]
 have sh:∀(a:Nat) y (j m:Nat),ys[a]? =some y->y.cells[j]? =some (.own m)->Q3[m]? =Q[m]? /\m≠kk/\n5<m:=λ a y j m hy hc=>by
  obtain⟨g1,d,g2⟩:=hi.own a y j m hy hc;have oW:=(List.getElem?_eq_some_iff.1 g2).1;exact⟨hold m oW (by omega) (λ e=>by rw[e,r2]at g2;cases g2),by omega,g1⟩
 refine⟨⟨by omega,λ n hn=> ?_⟩,⟨a1,by omega⟩,?_,?_,by simp[hi.len],?_,λ a y j m hy hc=> ?_,r1,hr⟩
 ·rw[hold n (by omega) (by omega) (by omega)];exact hi.more.2 n hn
 ·rw[hold O.length (by omega) (by omega) (by omega)];exact hi.ajw
 ·rw[hb,List.length_append];rfl
 ·have:=hi.split.add (O':=Q3) (K:=t.Kind) (N:=t.N) (S:=t.Name) (kk:=kk) (a:= .sl (t.Kids.map ad.av)) (by rw[h7 kk hkl (by omega) (by omega)];exact h1) λ a y j m hy hc=>⟨(sh a y j m hy hc).1,(sh a y j m hy hc).2.1⟩
  rw[ad.eta]at this;rw[List.take_add_one,ht,List.map_append];exact this
 ·by_cases ha:a<ys.length
  ·rw[List.getElem?_append_left ha]at hy;obtain⟨g1,g2,g3⟩:=sh a y j m hy hc;obtain⟨_,d,g4⟩:=hi.own a y j m hy hc;exact⟨g3,d,by rw[g1];exact g4⟩
  ·rw[List.getElem?_append_right (by omega)]at hy;generalize a- ys.length=q at hy;cases q with
   |succ q=>simp at hy
   |zero=>
    simp at hy;subst hy;have:=aeT hc;subst this;exact⟨by omega,_,by rw[h7 m hkl (by omega) (by omega)];exact h1⟩
theorem gC.head{S:Net}(hs:S.ok){u0:Nat->Nat}{r:Nat}{t:ad}(dV:r<S.N)(xX:bw u0 r r)(hv:gC S u0 r t):∃ts,t= .mk (S.ty r).Kind (S.ty r).N (S.ty r).Name ts/\ts.length=(S.kids r).length/\∀(i k:Nat),(S.kids r)[i]? =some k->∃t,ts[i]? =some t/\gC S u0 k t:=by
 cases hv with
 |mt _ r' h hme=>
  have:=xX.rF h;subst this;obtain⟨h1,h2⟩:=hs.pj r (hs.isMeta r dV hme);exact⟨[],by rw[h1];rfl,by rw[h2];rfl,by rw[h2];intro i k h;simp at h⟩
 |node _ r' ts h hme vR=>
  have:=xX.rF h;subst this;obtain⟨q1,q2⟩:=kj.at vR;exact⟨ts,rfl,q1,q2⟩
theorem acz{S:Net}{u0 aT:Nat->Nat}{nb tr kk ur:Nat}(hs:S.ok)(dv:∀x,x<S.N->u0 x<S.N):
  ∀(m:Nat) {O:List aa} {x:Nat} {t:ad},kR S u0 nb tr kk ur aT O->x<S.N->gC S u0 x t->SizeOf.sizeOf t<=m->
  ∃O' k,cF Try.prog F.eV [.ptr nb 1 0 0,aO (x:Nat)] O (.agg [aO t.Kind,aO t.N,cv t.Name,.own k]) O'/\O'[k]? =some (.own (.sl (t.Kids.map ad.av)))/\O.length<=k/\kO O O':=by
 intro m
 induction m with
 |zero=>intro O x t _ _ _ h;have:0<SizeOf.sizeOf t:=by cases t;simp;omega
        omega
 |succ m ih=>
 intro O x t hL hx hv hm
 obtain⟨r,mG⟩:∃r,bw u0 x r:=by cases hv with
  |mt _ r h _=>exact⟨r,h⟩
  |node _ r _ h _ _=>exact⟨r,h⟩
 have dV:=mG.lt dv hx;have xX:bw u0 r r:= .here r mG.root;have hvr:gC S u0 r t:=hv.eqv ⟨r,xX,mG⟩;obtain⟨ts,hte,htl,uB⟩:=gC.head hs dV xX hvr
 let z4:aa:= .live 29 4 [.agg [aO 0,aO 0,cv ⟨#[]⟩,.aA]]
 have L1:=hL.app [z4];have c1:=gD L1 dv hx mG;have gt:=z7 (S:=S) dV;simp only[uU,aO,cv]at gt
 have key:∃res O',(∃k,res= .agg [aO t.Kind,aO t.N,cv t.Name,.own k]/\O'[k]? =some (.own (.sl (t.Kids.map ad.av)))/\O.length<=k/\kO O O')/\cF Try.prog F.eV [.ptr nb 1 0 0,aO (x:Nat)] O res O':=by
  refine jM A.aah rfl ?_;simp only[A.eV,↓OD,OA,reduceEqDiff,reduceCtorEq,reduceAdd,reduceLT,reduceLeDiff,reduceIte];refine aj _ _ c1 ?_;have hb:=L1.box;have ht:=L1.ty;simp only[z4,aO,cv]at hb ht;simp only[z4,hb,ht,k8,gt,tc,xZ,vG,Int.toNat_natCast,aO,cv,↓OD,OA,reduceEqDiff,reduceCtorEq,reduceAdd,reduceLT,reduceLeDiff,reduceIte];refine⟨by omega,by omega,dV,?_⟩;simp only[List.append_assoc,List.cons_append,List.nil_append,kh,uu,amE,↓OD,OA,reduceEqDiff,reduceCtorEq,reduceAdd,reduceLT,reduceLeDiff,reduceIte];have si:=(List.getElem?_eq_some_iff.1 hL.box).1;have hkl:=(List.getElem?_eq_some_iff.1 hL.kids).1;have aEk:=(List.getElem?_eq_some_iff.1 (hL.za r dV)).1;have avf:=hL.few r dV;obtain⟨_,s2,_,_,_,_,s7⟩:=hL.sep;obtain⟨s8,_,s9,_⟩:=s7 r dV;have gk:=ra (aT:=aT) dV;simp only[agY]at gk
  refine aQ (ι:=Nat×List AV×List aa)
   (λ q=>q.1<=(S.kids r).length/\RdI (O.length+1) O (S.ty r).Kind (S.ty r).N (S.ty r).Name ts q.1 q.2.1 (O.length+1+1) q.2.2)
   (λ q=>iA [(0,.ptr nb 1 0 0),(1,.v (.int .i64 (r:Nat))),(4,.ptr O.length 1 0 0),(5,.ptr (O.length+1) 1 0 0),(6,.v (.int .i64 q.1))]) (λ q=>q.2.2) (λ q=>(S.kids r).length- q.1) (0,[],_)
   ⟨Nat.zero_le _,.app _ _,⟨by omega,by simp⟩,kh,uu,rfl,by rw[List.take_zero];exact .nil _,λ a y j m hy=>by simp at hy,by omega,ag2⟩ (.of_eq rfl rfl) ?_
  rintro⟨i,ys,Q⟩ ⟨w1,hi⟩;simp only at w1 hi;obtain⟨a1,a2⟩:=hi.at5;have hLQ:=hL.more hi.more;have wb:=hLQ.box;have wk:=hLQ.kids;have wr:=hLQ.za r dV;have hyl:=hi.len;obtain⟨r1,r2⟩:=hi.row;have hkQ:=(List.getElem?_eq_some_iff.1 r2).1;by_cases ahm:i<(S.kids r).length
  ·have di:decide ((i:Int)<((S.kids r).length:Int))=true:=decide_eq_true (by omega);obtain⟨p,hp⟩:∃p,(S.kids r)[i]? =some p:=⟨_,List.getElem?_eq_getElem ahm⟩;have sn:=hs.lt r dV p (List.mem_of_getElem? hp);have gp:=tV hp;simp only[aO]at gp;obtain⟨tp,htp,hvp⟩:=uB i p hp;have ta:SizeOf.sizeOf tp<SizeOf.sizeOf t:=fX (by rw[hte];exact List.mem_of_getElem? htp);obtain⟨O',uy,hc,l1,l2,l6⟩:=ih hLQ sn hvp (by omega);have lI:=hi.apY;have uV:O'[O.length+1]? =Q[O.length+1]? :=l6.2 _ a2;have wR:∀E:List aa,(O'++E)[O.length+1]? =Q[O.length+1]? :=λ E=>by rw[al (by have:=l6.1;omega)];exact uV
   have cU:∀E:List aa,(O'++E)[O.length+1+1]? =some (.live 29 4 ys):=λ E=>by
    rw[al (by have:=l6.1;omega),l6.2 _ hkQ];exact r2
   have ahe:∀(E:List aa) (v:aa),((O'++E).set (O.length+1+1) v)[O.length+1]? =Q[O.length+1]? :=λ E v=>by rw[getElem?_set_ne (by omega)];exact wR E
   simp only[aO,cv]at lI hc;simp only[wb,wk,wr,cS,gk,dB,AV.cells,Int.toNat_natCast,di,↓OD,OA,reduceEqDiff,reduceCtorEq,reduceAdd,reduceLT,reduceLeDiff,reduceIte];refine⟨by omega,by omega,dV,?_⟩
   refine ab8 (al:=[⟨none,(some 31),.aB 3 (.t 5)⟩,⟨none,(some 32),.load none (.t 31)⟩,⟨none,(some 33),.aq (.t 0)⟩,⟨none,(some 34),.aq (.t 0)⟩,⟨none,(some 35),.bQ (.t 34)⟩,⟨none,(some 36),.aB 1 (.t 35)⟩,⟨none,(some 37),.load none (.t 36)⟩,⟨none,(some 38),.aq (.t 1)⟩,⟨none,(some 39),.bg 1 (.t 37) (.t 38)⟩,⟨none,(some 40),.load none (.t 39)⟩,⟨none,(some 41),.aq (.t 6)⟩,⟨none,(some 42),.bg 1 (.t 40) (.t 41)⟩,⟨none,(some 43),.load none (.t 42)⟩,⟨none,(some 44),.o7 [O.length+1] F.eV [(.t 33),(.t 43)]⟩,
    ⟨none,(some 45),.buildSlice 29 4 1 (.agg [(.v (.int .i64 0)),(.v (.int .i64 0)),(.v (.string ⟨#[]⟩)),.aA]) [(0,(.t 44))]⟩,⟨none,(some 46),.app 29 4 56 (.t 32) (.t 45)⟩,⟨none,(some 47),.aB 3 (.t 5)⟩,⟨none,none,.store 1 (.t 47) (.t 46)⟩]) rfl ?_
   simp only[lI,wb,wk,wr,cS,gk,dB,gp,AV.cells,Int.toNat_natCast,↓OD,OA,reduceEqDiff,reduceCtorEq,reduceAdd,reduceLT,reduceLeDiff,reduceIte];refine⟨by omega,by omega,dV,by omega,by omega,ahm,?_⟩;refine mU hc (λ n hn=>by rw[List.mem_singleton.1 hn,uV]) ?_
   have oW:ys.length+1<=maxLen:=by
    have:maxLen=9223372036854775807:=rfl;omega
   simp only[wR,ahe,cU,lI,kh,↓OD,OA,reduceEqDiff,reduceCtorEq,reduceAdd,reduceLT,reduceLeDiff,reduceIte];refine⟨λ y hy=>by rw[List.mem_singleton.1 hy];rfl,by omega,oW,?_⟩;try simp only[wR,ahe,lI,↓OD,OA,reduceEqDiff,reduceCtorEq,reduceAdd,reduceLT,reduceLeDiff,reduceIte]
   refine⟨fp (λ n=>[O.length+1,nb,kk,aT r,O'.length,O.length+1+1].getD n 0) 6 [⟨[0],.cu⟩,⟨[0],.cu⟩,⟨[],.cu⟩,⟨[],.cu⟩,⟨[1],.cu⟩,⟨[1],.cu⟩,⟨[1],.cu⟩,⟨[],.cu⟩,⟨[2],.cu⟩,⟨[2],.cu⟩,⟨[],.cu⟩,⟨[3],.cu⟩,⟨[3],.cu⟩,⟨[],.zC [0]⟩,⟨[],.push 4⟩,⟨[5,4],.set 5⟩,⟨[0],.cu⟩,⟨[0],.set 0⟩] (by kernel_rfl) (by kernel_rfl) (λ a b ha hb h=> ?_) (by kernel_rfl),?_⟩
   ·have:=l6.1
    match a,b,ha,hb with
    |0,0,_,_|1,1,_,_|2,2,_,_|3,3,_,_|4,4,_,_|5,5,_,_=>rfl
    |0,1,_,_|0,2,_,_|0,3,_,_|0,4,_,_|0,5,_,_|1,0,_,_|1,2,_,_|1,3,_,_|1,4,_,_|1,5,_,_|2,0,_,_|2,1,_,_|2,3,_,_|2,4,_,_|2,5,_,_|3,0,_,_|3,1,_,_|3,2,_,_|3,4,_,_|3,5,_,_|4,0,_,_|4,1,_,_|4,2,_,_|4,3,_,_|4,5,_,_|5,0,_,_|5,1,_,_|5,2,_,_|5,3,_,_|5,4,_,_=>simp at h<;>omega
   have hq:=l6.1;refine aL (i+1,ys++ [_],_) ⟨by show i+1<=_;omega,hi.step htp l1 l2 l6 (λ n hn h h'=>by rw[getElem?_set_ne (λ e=>h e.symm),getElem?_set_ne (λ e=>h' e.symm),al hn]) (by simp) (List.getElem?_set_self (by simp;omega)) (by rw[getElem?_set_ne (by omega)];exact List.getElem?_set_self (by simp;omega))⟩ (by show(S.kids r).length- (i+1)<(S.kids r).length- i;omega) (.of_eq ?_ rfl);rw[da (by omega) (by omega)];rfl
  ·have di:decide ((i:Int)<((S.kids r).length:Int))=false:=decide_eq_false (by omega);have hie:i=(S.kids r).length:=by omega
   have lI:=hi.apY;have ahq:=hi.ajw;simp only[aO,cv]at lI ahq;simp only[wb,wk,wr,cS,gk,dB,AV.cells,Int.toNat_natCast,di,lI,ahq,↓OD,OA,reduceEqDiff,reduceCtorEq,reduceAdd,reduceLT,reduceLeDiff,reduceIte];refine⟨by omega,by omega,dV,?_⟩;subst hte;have rj:∀v:aa,(Q.set O.length v)[O.length]? =some v:=λ v=>List.getElem?_set_self (by omega)
   have htk:ts.take i=ts:=by rw[hie,←htl,List.take_length]
   have vS:=hi.split;rw[htk]at vS;have hun:∀n,n<O.length->∀(a:Nat) y (j:Nat),ys[a]? =some y->y.cells[j]? ≠some (.own n):=λ n hn a y j hy hc=>by have:=(hi.own a y j n hy hc).1;omega
   refine aaA (nl:=false) (j:=3) (k:=O.length+1+1) (len:=ys.length) (ty:=29) (z:=4) (ys:=ys) (xs:=ts.map ad.av) (cs:=[.v (.int .i64 (S.ty r).Kind),.v (.int .i64 (S.ty r).N),.v (.string (S.ty r).Name),.row (O.length+1+1) ys.length]) (.inl rfl) ?_ rfl zH (by rw[getElem?_set_ne (by omega),r2];simp[b6]) rfl (vS.congr λ m d hm=> ?_) λ O2 hO2 hO3=>⟨_,rfl,?_,by simp;omega,⟨by simp[hO2];omega,λ n hn=> ?_⟩⟩
   ·simp only[rj,↓OD,OA,reduceEqDiff,reduceCtorEq,reduceAdd,reduceLT,reduceLeDiff,reduceIte]
   ·rw[getElem?_set_ne (λ e=>by rw[←e,hi.ajw]at hm;cases hm)];exact hm
   ·rw[←hO2,List.getElem?_append_right (Nat.le_refl _),Nat.sub_self];rfl
   ·rw[al (by rw[hO2];simp;omega),hO3 n (by omega) (hun n hn),getElem?_set_ne (by omega)];exact hi.more.2 n hn
 obtain⟨res,O',⟨k,rfl,h⟩,hc⟩:=key;exact⟨O',k,hc,h⟩
end Go.Proofs.Ab
