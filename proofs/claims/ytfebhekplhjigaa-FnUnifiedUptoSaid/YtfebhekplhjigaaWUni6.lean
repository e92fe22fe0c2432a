/-
  Unify of the program: the type of a node.
-/
import Derived.Test.YtfebhekplhjigaaWUni5
import Derived.Test.YtfebhekplhjigaaWClo
open List(getElem?_set_ne getElem?_set_self)
open Nat(reduceEqDiff reduceLeDiff reduceAdd reduceLT reduceMul)
set_option linter.unusedSimpArgs false
set_option linter.unusedVariables false
namespace Go.Proofs.Ab
open Go.Ab
set_option maxRecDepth 100000
set_option maxHeartbeats 4000000
theorem aqo{n0:Nat}{rs:List dG}{res:AV}{x:AX}(hx:x= .ret∨x= .normal){e:Env}{O:List ad}(h:dK e O rs [] λ xs=>br xs=res):oQ n0 rs res O x e O:=by
 have:dK e O rs [] λ xs=>∃e',WK n0 (λ t=>if t=0 then br xs else .top) O e' O/\e' 0=res:=oh rs _ _ _ (λ xs hp=>⟨_,.refl _ _ _,by simp[hp]⟩) h
 rcases hx with rfl|rfl<;>exact this
theorem zz{S:Net}{up bx kr:Nat->Nat}{O:List ad}(hL:cv S up bx kr O){r:Nat}(hr:r<S.N):fE Try.prog F.eG [.ptr (bx r) 1 0 0] O (.agg [au (S.ty r).Kind,au (S.ty r).N,bZ ⟨#[]⟩,.aw]) (O++ [.live 29 4 [.agg [au (S.ty r).Kind,au (S.ty r).N,bZ ⟨#[]⟩,.aw]]]):=by
 have hb:=hL.box r hr;have aF:=hL.lt hr;have hb2:∀E:List ad,(O++E)[bx r]? =O[bx r]? :=λ E=>al aF
 unfold fY at hb;refine gT A.wW rfl ?_;simp only[A.eG,↓OD,OA,reduceCtorEq];refine dv ?_;simp only[hb2,hb,ku,as0,au,bZ,↓OD,OA,reduceEqDiff,reduceCtorEq,reduceAdd,reduceLeDiff];refine⟨by kernel_rfl,?_⟩;try simp only[ku,as0,↓OD,OA,reduceEqDiff,reduceCtorEq,reduceAdd,reduceLT,reduceLeDiff,reduceIte]
 exact aqo (.inl rfl) (by simp only[ku,OA,reduceAdd])
structure TyI(S:Net)(u0 bx kr:Nat->Nat)(n5:Nat)(O:List ad)(Kd N:Int)(Nm:ByteArray)(ts:List aa)(i:Nat)(u:Nat->Nat)(ys:List AV)(k:Nat)(Q:List ad):Prop where
 lay:cv S u bx kr Q
 lt:∀z,z<S.N->u z<S.N
 eq:dy u0 u
 same:ke S bx O Q
 at5:O.length<n5/\n5<Q.length
 aiB:Q[O.length]? =some (.live 29 4 [.agg [au 0,au 0,bZ ⟨#[]⟩,.aw]])
 apl:Q[n5]? =some (.live 29 4 [.agg [au Kd,au N,bZ Nm,if ys= []then .aw else .row k ys.length]])
 len:ys.length=i
 split:Split Q ys ((ts.take i).map aa.av)
 own:∀(a:Nat) y (j m:Nat),ys[a]? =some y->y.cells[j]? =some (.own m)->n5<m/\∃d,Q[m]? =some (.own d)
 row:ys≠[]->n5<k/\Q[k]? =some (.live 29 4 ys)
theorem xq{K N:Int}{Nm:ByteArray}{d:AV}:∀(i:Nat) c,i≠3-> [AV.v (.int .i64 K),.v (.int .i64 N),.v (.string Nm),d][i]? =some c->∃v,c= .v v:=by
 intro i c hi hc
 match i,hc with
 |0,hc=>simp at hc;exact⟨_,hc.symm⟩
 |1,hc=>simp at hc;exact⟨_,hc.symm⟩
 |2,hc=>simp at hc;exact⟨_,hc.symm⟩
 |3,hc=>exact(hi rfl).elim
 |i+4,hc=>simp at hc
theorem ade{K N:Int}{Nm:ByteArray}{kk j m:Nat}(h:(AV.agg [.v (.int .i64 K),.v (.int .i64 N),.v (.string Nm),.own kk]).cells[j]? =some (.own m)):m=kk:=by
 match j,h with
 |0,h=>simp[AV.cells]at h
 |1,h=>simp[AV.cells]at h
 |2,h=>simp[AV.cells]at h
 |3,h=>simp[AV.cells]at h;exact h.symm
 |j+4,h=>simp[AV.cells]at h
theorem TyI.step{S:Net}{u0 bx kr:Nat->Nat}{n5:Nat}{O:List ad}{Kd N:Int}{Nm:ByteArray}{ts:List aa}{i:Nat}{u:Nat->Nat}{ys:List AV}{k:Nat}{Q:List ad}(hi:TyI S u0 bx kr n5 O Kd N Nm ts i u ys k Q){up:Nat->Nat}(hL:cv S up bx kr O){t:aa}(ht:ts[i]? =some t){u':Nat->Nat}{O' Q3:List ad}{kk k':Nat}
  (h1:O'[kk]? =some (.own (.sl (t.Kids.map aa.av)))) (h2:Q.length<=kk) (h3:cv S u' bx kr O') (h4:∀x,x<S.N->u' x<S.N) (h5:dy u0 u') (h6:ke S bx Q O')
  (k1:ys= []->O'.length<=k') (k2:ys≠[]->k'=k) (h7:∀n,n<O'.length->n≠n5->n≠k'->Q3[n]? =O'[n]?) (hl:O'.length<=Q3.length)
  (hb:Q3[n5]? =some (.live 29 4 [.agg [au Kd,au N,bZ Nm,.row k' (ys.length+1)]])) (hr:Q3[k']? =some (.live 29 4 (ys++ [.agg [au t.Kind,au t.N,bZ t.Name,.own kk]]))):
  TyI S u0 bx kr n5 O Kd N Nm ts (i+1) u' (ys++ [.agg [au t.Kind,au t.N,bZ t.Name,.own kk]]) k' Q3:=by
 obtain⟨a1,a2⟩:=hi.at5;have hQO:=h6.1;have hkl:=(List.getElem?_eq_some_iff.1 h1).1
 have nH:n5<k':=by
  by_cases h:ys= []
  ·have:=k1 h;omega
  ·rw[k2 h];exact(hi.row h).1
 have xg:kk≠k':=by
  by_cases h:ys= []
  ·have:=k1 h;omega
  ·have:=(List.getElem?_eq_some_iff.1 (hi.row h).2).1;rw[k2 h];omega
 have hold:∀n,n<Q.length->n≠n5->n≠k'->(∀x,x<S.N->n≠bx x)->Q3[n]? =Q[n]? :=λ n hn h h' hx=>by rw[h7 n (by omega) h h',h6.2 n hn hx]
 have pM:∀(a:Nat) y (j m:Nat),ys[a]? =some y->y.cells[j]? =some (.own m)->Q3[m]? =Q[m]? /\m≠kk/\n5<m:=λ a y j m hy hc=>by
  obtain⟨g1,d,g2⟩:=hi.own a y j m hy hc;have mc:=(List.getElem?_eq_some_iff.1 g2).1;refine⟨hold m mc (by omega) (λ e=> ?_) λ x hx=>by have:=hL.lt hx;omega,by omega,g1⟩;by_cases h:ys= []
  ·subst h;simp at hy
  ·rw[e,k2 h,(hi.row h).2]at g2;cases g2
 refine⟨h3.move λ x hx=>⟨?_,λ hk=> ?_⟩,h4,h5,⟨by have:=hi.same.1;omega,λ n hn hx=> ?_⟩,⟨a1,by omega⟩,?_,?_,by simp[hi.len],?_,λ a y j m hy hc=> ?_,λ _=>⟨nH,hr⟩⟩
 ·have:=hL.lt hx;exact h7 _ (h3.lt hx) (by omega) (by omega)
 ·have:=hL.rlt hx hk;exact h7 _ (h3.rlt hx hk) (by omega) (by omega)
 ·have:=hi.same.1;rw[hold n (by omega) (by omega) (by omega) hx];exact hi.same.2 n hn hx
 ·rw[hold O.length (by omega) (by omega) (by omega) λ x hx=>by have:=hL.lt hx;omega];exact hi.aiB
 ·rw[hb,if_neg (by simp),List.length_append];rfl
 ·have:=hi.split.add (O':=Q3) (K:=t.Kind) (N:=t.N) (S:=t.Name) (kk:=kk) (a:= .sl (t.Kids.map aa.av)) (by rw[h7 kk hkl (by omega) xg];exact h1) λ a y j m hy hc=>⟨(pM a y j m hy hc).1,(pM a y j m hy hc).2.1⟩
  rw[aa.eta]at this;rw[List.take_add_one,ht,List.map_append];exact this
 ·by_cases ha:a<ys.length
  ·rw[List.getElem?_append_left ha]at hy;obtain⟨g1,g2,g3⟩:=pM a y j m hy hc;obtain⟨_,d,g4⟩:=hi.own a y j m hy hc;exact⟨g3,d,by rw[g1];exact g4⟩
  ·rw[List.getElem?_append_right (by omega)]at hy;generalize a- ys.length=q at hy;cases q with
   |succ q=>simp at hy
   |zero=>
    simp at hy;subst hy;have:=ade hc;subst this;exact⟨by omega,_,by rw[h7 m hkl (by omega) xg];exact h1⟩
theorem afp{S:Net}{u0 bx kr:Nat->Nat}(hs:S.ok)(fZ:∀x,x<S.N->u0 x<S.N)(au0:∀x,x<S.N->9<=(S.ty x).Kind->(S.ty x).Kind<=11->(S.ty x).Name=⟨#[]⟩/\S.kids x= []):
  ∀(m:Nat) {up:Nat->Nat} {O:List ad} {x:Nat} {t:aa},cv S up bx kr O->(∀x,x<S.N->up x<S.N)->dy u0 up->x<S.N->gP S u0 x t->SizeOf.sizeOf t<=m->
  ∃bw O' k,fE Try.prog F.iE [.ptr (bx x) 1 0 0,.fn F.eG []] O (.agg [au t.Kind,au t.N,bZ t.Name,.own k]) O'/\O'[k]? =some (.own (.sl (t.Kids.map aa.av)))/\O.length<=k/\cv S bw bx kr O'/\(∀x,x<S.N->bw x<S.N)/\dy u0 bw/\ke S bx O O':=by
 intro m
 induction m with
 |zero=>intro up O x t _ _ _ _ _ h;have:0<SizeOf.sizeOf t:=by cases t;simp;omega
        omega
 |succ m ih=>
 intro up O x t hL aF he hx hv hm
 obtain⟨r,ma⟩:∃r,bI u0 x r:=by cases hv with
  |mt _ r h _=>exact⟨r,h⟩
  |node _ r _ h _ _=>exact⟨r,h⟩
 have ep:=ma.lt fZ hx;have vh:bI u0 r r:= .here r ma.root;have hvr:gP S u0 r t:=hv.eqv ⟨r,vh,ma⟩
 let z4:ad:= .live 29 4 [.agg [au 0,au 0,bZ ⟨#[]⟩,.aw]]
 obtain⟨u1,O1,c1,L1,s1,e1,lt1,_⟩:=lq (hL.app [z4]) aF hx (he _ _ ma);have he1:=he.trans e1;have hO1:O.length<O1.length:=by have:=s1.1;simp at this;omega
 have xe:ke S bx O O1:=(ke.app O [z4]).trans s1
 have hb4:O1[O.length]? =some z4:=by
  rw[s1.2 O.length (by simp) λ z hz=>by have:=hL.lt hz;omega];exact ku
 have hB:=L1.box r ep;unfold fY at hB
 have key:∃res O',(∃bw k,res= .agg [au t.Kind,au t.N,bZ t.Name,.own k]/\O'[k]? =some (.own (.sl (t.Kids.map aa.av)))/\O.length<=k/\cv S bw bx kr O'/\(∀x,x<S.N->bw x<S.N)/\dy u0 bw/\ke S bx O O')/\fE Try.prog F.iE [.ptr (bx x) 1 0 0,.fn F.eG []] O res O':=by
  refine jx A.adu rfl ?_;simp only[A.iE,↓OD,OA,reduceEqDiff,reduceCtorEq];refine aD _ _ c1 ?_;simp only[hB,au,bZ,↓OD,OA,reduceEqDiff,reduceCtorEq,reduceAdd,reduceLeDiff];refine aD _ _ ((ot (S.ty r).Kind).any rfl rfl O1) ?_;simp only[↓OD,OA,reduceEqDiff,reduceCtorEq];by_cases hk:l9 (S.ty r).Kind 9 11=true
  ·simp only[hk,↓OD,OA,reduceEqDiff,reduceCtorEq];refine aD _ _ (zz L1 ep) ?_;have aCy:∀E:List ad,(O1++E)[O.length]? =some z4:=λ E=>by rw[al hO1];exact hb4
   have o5:∀(E:List ad) (v:ad),(O1++E).set O.length v=O1.set O.length v++E:=λ E v=>List.set_append_left _ _ hO1
   simp only[aCy,z4,au,bZ,↓OD,OA,reduceEqDiff,reduceCtorEq,reduceAdd]
   have ht:t= .mk (S.ty r).Kind (S.ty r).N ⟨#[]⟩ []:=by
    cases hvr with
    |mt _ r' h hme=>
     have:=vh.pf h;subst this;rw[(hs.nC r (hs.isMeta r ep hme)).1];rfl
    |node _ r' ts h hme nd=>
     have:=vh.pf h;subst this;have hkb:9<=(S.ty r).Kind/\(S.ty r).Kind<=11:=by simpa [l9]using hk
     obtain⟨h1,h2⟩:=au0 r ep hkb.1 hkb.2;rw[h2]at nd;cases nd;rw[h1]
   subst ht;rw[o5];refine vL (j:=3) (cs:=[.v (.int .i64 (S.ty r).Kind),.v (.int .i64 (S.ty r).N),.v (.string ⟨#[]⟩),.aw]) (.inl rfl) ?_ rfl xq ⟨u1,_,rfl,by simp[aa.gI],by simp;omega,(L1.move λ z hz=>⟨getElem?_set_ne (by have:=hL.lt hz;omega),λ hk=>getElem?_set_ne (by have:=hL.rlt hz hk;omega)⟩:cv S u1 bx kr (O1.set O.length _)).app _|>.app _,lt1,he1,⟨by simp;omega,λ n hn hx=> ?_⟩⟩
   ·have:∀(v:ad) (E:List ad),(O1.set O.length v++E)[O.length]? =some v:=λ v E=>by rw[al (by simp;omega)];exact getElem?_set_self hO1
    simp only[this,OA,reduceAdd]
   ·rw[List.append_assoc,al (by simp;omega),getElem?_set_ne (by omega)];exact xe.2 n hn hx
  ·have nH:l9 (S.ty r).Kind 9 11=false:=by simpa using hk
   have hnm:¬S.lh r:=λ h=>hk (by unfold Net.lh at h;rw[h];decide)
   obtain⟨ts,oI,htl,hte⟩:∃ts:List aa,(∀(i k:Nat),(S.kids r)[i]? =some k->∃t,ts[i]? =some t/\gP S u0 k t)/\ts.length=(S.kids r).length/\t= .mk (S.ty r).Kind (S.ty r).N (S.ty r).Name ts:=by
    cases hvr with
    |mt _ r' h hme=>
     have:=vh.pf h;subst this;exact(hnm hme).elim
    |node _ r' ts h hme nd=>
     have:=vh.pf h;subst this;obtain⟨q1,q2⟩:=jQ.at nd;exact⟨ts,q2,q1,rfl⟩
   have hB1:∀E:List ad,(O1++E)[bx r]? =O1[bx r]? :=λ E=>al (L1.lt ep)
   simp only[nH,↓OD,OA];refine dv ?_;simp only[hB1,hB,ku,as0,au,bZ,↓OD,OA,reduceEqDiff,reduceCtorEq,reduceAdd,reduceLeDiff];refine⟨fA (λ n=>[bx r,O1.length].getD n 0) 2 [⟨[],.cL⟩,⟨[0],.cL⟩,⟨[0],.cL⟩,⟨[0],.cL⟩,⟨[],.cL⟩,⟨[0],.cL⟩,⟨[0],.cL⟩,⟨[0],.cL⟩,⟨[],.cL⟩,⟨[0],.cL⟩,⟨[0],.cL⟩,⟨[0],.cL⟩,⟨[],.cL⟩,⟨[],.push 1⟩,⟨[1],.set 1⟩] (by kernel_rfl) (by kernel_rfl) (λ a b ha hb h=> ?_) (by kernel_rfl),?_⟩
   ·have aEH:=L1.lt ep
    match a,b,ha,hb with
    |0,0,_,_|1,1,_,_=>rfl
    |0,1,_,_|1,0,_,_=>simp at h;omega
   try simp only[hB1,hB,ku,as0,au,bZ,↓OD,OA,reduceEqDiff,reduceCtorEq,reduceAdd,reduceLT,reduceLeDiff,reduceIte]
   have L1':cv S u1 bx kr (O1++ [.live 29 4 [.agg [au (S.ty r).Kind,au (S.ty r).N,bZ (S.ty r).Name,.aw]]]):=L1.app _;rw[jE (L1.app _) ep];try simp only[↓OD,OA,reduceEqDiff,reduceCtorEq]
   refine bd (ι:=Nat×(Nat->Nat)×List AV×Nat×List ad)
    (λ q=>q.1<=(S.kids r).length/\TyI S u0 bx kr O1.length O (S.ty r).Kind (S.ty r).N (S.ty r).Name ts q.1 q.2.1 q.2.2.1 q.2.2.2.1 q.2.2.2.2)
    (λ q=>jw [(1,.fn F.eG []),(4,.ptr O.length 1 0 0),(5,.ptr O1.length 1 0 0),(34,lE S kr r),(35,.v (.int .i64 (S.kids r).length)),(36,.v (.int .i64 q.1))]) (λ q=>q.2.2.2.2) (λ q=>(S.kids r).length- q.1) (0,u1,[],0,_)
    ⟨Nat.zero_le _,L1.app _,lt1,he1,xe.trans (.app _ _),⟨hO1,by simp⟩,by rw[al hO1];exact hb4,by rw[if_pos rfl];exact ku,rfl,by rw[List.take_zero];exact .nil _,λ a y j m hy=>by simp at hy,λ h=>(h rfl).elim⟩ (.of_eq rfl rfl) ?_
   rintro⟨i,u,ys,k,Q⟩ ⟨w1,hi⟩;simp only at w1 hi;obtain⟨a1,a2⟩:=hi.at5;have w2:=hi.lay;by_cases afI:i<(S.kids r).length
   ·have di:decide ((i:Int)<((S.kids r).length:Int))=true:=decide_eq_true (by omega);have avn:=hL.few r ep;have hyl:=hi.len;obtain⟨p,hp⟩:∃p,(S.kids r)[i]? =some p:=⟨_,List.getElem?_eq_getElem afI⟩;have uw:=hs.lt r ep p (List.mem_of_getElem? hp);obtain⟨tp,htp,hvp⟩:=oI i p hp;have qp:SizeOf.sizeOf tp<SizeOf.sizeOf t:=gm (by rw[hte];exact List.mem_of_getElem? htp);obtain⟨u',O',kk,hc,l1,l2,l3,l4,l5,l6⟩:=ih w2 hi.lt hi.eq uw hvp (by omega);have kK:=hi.apl;have aCt:∀x,x<S.N->O1.length≠bx x:=λ x hx=>by have:=hL.lt hx;omega
    have rZ:O'[O1.length]? =Q[O1.length]? :=l6.2 _ a2 aCt;have tX:∀E:List ad,(O'++E)[O1.length]? =Q[O1.length]? :=λ E=>by rw[al (by have:=l6.1;omega)];exact rZ
    simp only[di,↓OD,OA,reduceEqDiff];rw[mX w2 ep afI];simp only[w2.row r ep (λ e=>by rw[e]at afI;simp at afI),cU,iC hp,afI,AV.cells,↓OD,OA,reduceEqDiff];refine aaf (al:=[⟨none,(some 40),.aK 3 (.t 5)⟩,⟨none,(some 41),.load none (.t 40)⟩,⟨none,(some 42),.aA (.t 7)⟩,⟨none,(some 43),.aA (.t 1)⟩,⟨none,(some 44),.nq [O1.length] F.iE [(.t 42),(.t 43)]⟩,⟨none,(some 45),.buildSlice 29 4 1 (.agg [(.v (.int .i64 0)),(.v (.int .i64 0)),(.v (.string ⟨#[]⟩)),.aw]) [(0,(.t 44))]⟩,⟨none,(some 46),.app 29 4 56 (.t 41) (.t 45)⟩,⟨none,(some 47),.aK 3 (.t 5)⟩,⟨none,none,.store 1 (.t 47) (.t 46)⟩]) rfl ?_;by_cases uv:ys= []
    ·subst uv;rw[if_pos rfl]at kK;simp only[au,bZ]at kK;simp only[kK,↓OD,OA,reduceEqDiff,reduceAdd];refine lU hc (λ n hn=>by rw[List.mem_singleton.1 hn,rZ]) ?_;simp only[tX,kK,ku,au,bZ,↓OD,OA,reduceEqDiff,reduceCtorEq,reduceAdd];refine⟨λ y hy=>by rw[List.mem_singleton.1 hy];rfl,by decide,by decide,λ h=>h.elim,λ _=> ?_⟩;try simp only[tX,kK,List.append_assoc,List.cons_append,List.nil_append,OA,reduceAdd]
     refine⟨fA (λ n=>[O1.length,O'.length].getD n 0) 2 [⟨[0],.cL⟩,⟨[0],.cL⟩,⟨[],.cL⟩,⟨[],.cL⟩,⟨[],.xn [0]⟩,⟨[],.push 1⟩,⟨[],.any⟩,⟨[0],.cL⟩,⟨[0],.set 0⟩] (by kernel_rfl) (by kernel_rfl) (λ a b ha hb h=> ?_) (by kernel_rfl),?_⟩
     ·have:=l6.1
      match a,b,ha,hb with
      |0,0,_,_|1,1,_,_=>rfl
      |0,1,_,_|1,0,_,_=>simp at h;omega
     have hq:=l6.1;refine a6 (i+1,u',[]++ [_],O'.length+1,_) ⟨by show i+1<=_;omega,hi.step (k':=O'.length+1) hL htp l1 l2 l3 l4 l5 l6 (λ _=>by omega) (λ h=>(h rfl).elim) (λ n hn h _=>by rw[getElem?_set_ne (λ e=>h e.symm),al hn]) (by simp) (getElem?_set_self (by simp;omega)) (by rw[getElem?_set_ne (by omega)];exact ux)⟩ (by show(S.kids r).length- (i+1)<(S.kids r).length- i;omega) (.of_eq ?_ rfl);rw[bh (by omega) (by omega)];rfl
    ·rw[if_neg uv]at kK;simp only[au,bZ]at kK;simp only[kK,↓OD,OA,reduceEqDiff,reduceAdd];refine lU hc (λ n hn=>by rw[List.mem_singleton.1 hn,rZ]) ?_;have hkr:=hi.row uv;have hkQ:=(List.getElem?_eq_some_iff.1 hkr.2).1
     have dm:∀E:List ad,(O'++E)[k]? =some (.live 29 4 ys):=λ E=>by
      rw[al (by have:=l6.1;omega),l6.2 k hkQ λ x hx=>by have:=hL.lt hx;omega];exact hkr.2
     have afz:∀(E:List ad) (v:ad),((O'++E).set k v)[O1.length]? =Q[O1.length]? :=λ E v=>by rw[getElem?_set_ne (by omega)];exact tX E
     simp only[tX,afz,dm,kK,ku,au,bZ,↓OD,OA,reduceEqDiff,reduceAdd]
     have mc:ys.length+1<=maxLen:=by
      have:maxLen=9223372036854775807:=rfl;omega
     refine⟨λ y hy=>by rw[List.mem_singleton.1 hy];rfl,by omega,mc,?_⟩;try simp only[tX,afz,kK,↓OD,OA,reduceEqDiff,reduceCtorEq,reduceAdd,reduceLT,reduceLeDiff,reduceIte]
     refine⟨fA (λ n=>[O1.length,O'.length,k].getD n 0) 3 [⟨[0],.cL⟩,⟨[0],.cL⟩,⟨[],.cL⟩,⟨[],.cL⟩,⟨[],.xn [0]⟩,⟨[],.push 1⟩,⟨[2,1],.set 2⟩,⟨[0],.cL⟩,⟨[0],.set 0⟩] (by kernel_rfl) (by kernel_rfl) (λ a b ha hb h=> ?_) (by kernel_rfl),?_⟩
     ·have:=l6.1
      match a,b,ha,hb with
      |0,0,_,_|1,1,_,_|2,2,_,_=>rfl
      |0,1,_,_|1,0,_,_|0,2,_,_|2,0,_,_|1,2,_,_|2,1,_,_=>simp at h;omega
     have hq:=l6.1;refine a6 (i+1,u',ys++ [_],k,_) ⟨by show i+1<=_;omega,hi.step (k':=k) hL htp l1 l2 l3 l4 l5 l6 (λ h=>(uv h).elim) (λ _=>rfl) (λ n hn h h'=>by rw[getElem?_set_ne (λ e=>h e.symm),getElem?_set_ne (λ e=>h' e.symm),al hn]) (by simp) (getElem?_set_self (by simp;omega)) (by rw[getElem?_set_ne (by omega)];exact getElem?_set_self (by simp;omega))⟩ (by show(S.kids r).length- (i+1)<(S.kids r).length- i;omega) (.of_eq ?_ rfl);rw[bh (by omega) (by omega)];rfl
   ·have di:decide ((i:Int)<((S.kids r).length:Int))=false:=decide_eq_false (by omega);have hie:i=(S.kids r).length:=by omega
    have kK:=hi.apl;have afN:=hi.aiB;simp only[au,bZ]at kK afN;simp only[di,kK,afN,↓OD,OA,reduceEqDiff,reduceAdd];subst hte;have hyl:=hi.len;have o5:∀v:ad,(Q.set O.length v)[O.length]? =some v:=λ v=>getElem?_set_self (by omega)
    have as4:∀v:ad,cv S u bx kr (Q.set O.length v):=λ v=>w2.move λ z hz=>⟨getElem?_set_ne (by have:=hL.lt hz;omega),λ hk=>getElem?_set_ne (by have:=hL.rlt hz hk;omega)⟩
    by_cases uv:ys= []
    ·rw[if_pos uv];have au2:ts= []:=List.eq_nil_of_length_eq_zero (by rw[htl,←hie,←hyl,uv];rfl);subst au2;refine⟨rfl,vL (j:=3) (cs:=[.v (.int .i64 (S.ty r).Kind),.v (.int .i64 (S.ty r).N),.v (.string (S.ty r).Name),.aw]) (.inl rfl) ?_ rfl xq ⟨u,_,rfl,by simp[aa.gI],by simp;omega,(as4 _).app _,hi.lt,hi.eq,⟨by simp;omega,λ n hn hx=> ?_⟩⟩⟩
     ·simp only[o5,OA,reduceAdd]
     ·rw[al (by simp;omega),getElem?_set_ne (by omega)];exact hi.same.2 n hn hx
    ·rw[if_neg uv];have htk:ts.take i=ts:=by rw[hie,←htl,List.take_length]
     have hsp:=hi.split;rw[htk]at hsp;obtain⟨g1,g2⟩:=hi.row uv;have hun:∀n,n<O.length->∀(a:Nat) y (j:Nat),ys[a]? =some y->y.cells[j]? ≠some (.own n):=λ n hn a y j hy hc=>by have:=(hi.own a y j n hy hc).1;omega
     refine⟨rfl,yz (nl:=true) (j:=3) (k:=k) (len:=ys.length) (ty:=29) (z:=4) (ys:=ys) (xs:=ts.map aa.av) (cs:=[.v (.int .i64 (S.ty r).Kind),.v (.int .i64 (S.ty r).N),.v (.string (S.ty r).Name),.row k ys.length]) (.inl rfl) ?_ rfl xq (by rw[getElem?_set_ne (by omega),g2];simp[cq,uv]) rfl (hsp.congr λ m d hm=> ?_) λ O2 zS hO3=>⟨u,_,rfl,?_,by simp;omega,((as4 _).move λ z hz=>⟨hO3 _ (by have:=hL.lt hz;omega) (hun _ (hL.lt hz)),λ hk=>hO3 _ (by have:=hL.rlt hz hk;omega) (hun _ (hL.rlt hz hk))⟩).app _,hi.lt,hi.eq,⟨by simp[zS];omega,λ n hn hx=> ?_⟩⟩⟩
     ·simp only[o5,OA,reduceAdd]
     ·rw[getElem?_set_ne (λ e=>by rw[←e,hi.aiB]at hm;cases hm)];exact hm
     ·rw[←zS,List.getElem?_append_right (Nat.le_refl _),Nat.sub_self];rfl
     ·rw[al (by rw[zS];simp;omega),hO3 n (by omega) (hun n hn),getElem?_set_ne (by omega)];exact hi.same.2 n hn hx
 obtain⟨res,O',⟨bw,k,rfl,h⟩,hc⟩:=key;exact⟨bw,O',k,hc,h⟩
end Go.Proofs.Ab
