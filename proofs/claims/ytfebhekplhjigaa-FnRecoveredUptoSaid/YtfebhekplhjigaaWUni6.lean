/-
  Unify of the program: the type of a node.
-/
import Derived.Test.YtfebhekplhjigaaWUni5
import Derived.Test.YtfebhekplhjigaaWClo
open List(getElem?_set_ne getElem?_set_self)
open Nat(reduceEqDiff reduceLeDiff reduceAdd reduceLT reduceMul)
set_option linter.unusedVariables false
set_option linter.unusedSimpArgs false
namespace Go.Proofs.Ab
open Go.Ab
set_option maxRecDepth 100000
set_option maxHeartbeats 4000000
theorem aou{n0:Nat}{rs:List dO}{res:AV}{x:AX}(hx:x= .ret∨x= .normal){e:Env}{O:List ae}(h:dQ e O rs [] λ xs=>bz xs=res):n7 n0 rs res O x e O:=by
 have:dQ e O rs [] λ xs=>∃e',WK n0 (λ t=>if t=0 then bz xs else .top) O e' O/\e' 0=res:=nE rs _ _ _ (λ xs hp=>⟨_,.refl _ _ _,by simp[hp]⟩) h
 rcases hx with rfl|rfl<;>exact this
theorem yd{S:Net}{up bx kr:Nat->Nat}{O:List ae}(hL:cD S up bx kr O){r:Nat}(hr:r<S.N):hD Try.prog F.eD [.ptr (bx r) 1 0 0] O (.agg [aA (S.ty r).Kind,aA (S.ty r).N,ch ⟨#[]⟩,.aw]) (O++ [.live 29 4 [.agg [aA (S.ty r).Kind,aA (S.ty r).N,ch ⟨#[]⟩,.aw]]]):=by
 have hb:=hL.box r hr;have aF:=hL.lt hr;have y7:∀E:List ae,(O++E)[bx r]? =O[bx r]? :=λ E=>al aF
 unfold fQ at hb;refine ik A.vI rfl ?_;simp only[A.eD,↓OD,OA,reduceEqDiff,reduceCtorEq,reduceAdd,reduceLT,reduceLeDiff,reduceIte];refine jl ?_;simp only[y7,hb,tj,as0,aA,ch,↓OD,OA,reduceEqDiff,reduceCtorEq,reduceAdd,reduceLT,reduceLeDiff,reduceIte];refine⟨by kernel_rfl,?_⟩;try simp only[tj,as0,↓OD,OA,reduceEqDiff,reduceCtorEq,reduceAdd,reduceLT,reduceLeDiff,reduceIte]
 exact aou (.inl rfl) (by simp only[tj,↓OD,OA,reduceEqDiff,reduceCtorEq,reduceAdd,reduceLT,reduceLeDiff,reduceIte])
structure TyI(S:Net)(u0 bx kr:Nat->Nat)(n5:Nat)(O:List ae)(Kd N:Int)(Nm:ByteArray)(ts:List aa)(i:Nat)(u:Nat->Nat)(ys:List AV)(k:Nat)(Q:List ae):Prop where
 lay:cD S u bx kr Q
 lt:∀z,z<S.N->u z<S.N
 eq:dy u0 u
 same:jL S bx O Q
 at5:O.length<n5/\n5<Q.length
 aug:Q[O.length]? =some (.live 29 4 [.agg [aA 0,aA 0,ch ⟨#[]⟩,.aw]])
 axP:Q[n5]? =some (.live 29 4 [.agg [aA Kd,aA N,ch Nm,if ys= []then .aw else .row k ys.length]])
 len:ys.length=i
 split:Split Q ys ((ts.take i).map aa.av)
 own:∀(a:Nat) y (j m:Nat),ys[a]? =some y->y.cells[j]? =some (.own m)->n5<m/\∃d,Q[m]? =some (.own d)
 row:ys≠[]->n5<k/\Q[k]? =some (.live 29 4 ys)
theorem aa4{K N:Int}{Nm:ByteArray}{d:AV}:∀(i:Nat) c,i≠3-> [AV.v (.int .i64 K),.v (.int .i64 N),.v (.string Nm),d][i]? =some c->∃v,c= .v v:=by
 intro i c hi hc
 match i,hc with
 |0,hc=>simp at hc;exact⟨_,hc.symm⟩
 |1,hc=>simp at hc;exact⟨_,hc.symm⟩
 |2,hc=>simp at hc;exact⟨_,hc.symm⟩
 |3,hc=>exact(hi rfl).elim
 |i+4,hc=>simp at hc
theorem ala{K N:Int}{Nm:ByteArray}{kk j m:Nat}(h:(AV.agg [.v (.int .i64 K),.v (.int .i64 N),.v (.string Nm),.own kk]).cells[j]? =some (.own m)):m=kk:=by
 match j,h with
 |0,h=>simp[AV.cells]at h
 |1,h=>simp[AV.cells]at h
 |2,h=>simp[AV.cells]at h
 |3,h=>simp[AV.cells]at h;exact h.symm
 |j+4,h=>simp[AV.cells]at h
theorem TyI.step{S:Net}{u0 bx kr:Nat->Nat}{n5:Nat}{O:List ae}{Kd N:Int}{Nm:ByteArray}{ts:List aa}{i:Nat}{u:Nat->Nat}{ys:List AV}{k:Nat}{Q:List ae}(hi:TyI S u0 bx kr n5 O Kd N Nm ts i u ys k Q){up:Nat->Nat}(hL:cD S up bx kr O){t:aa}(ht:ts[i]? =some t){u':Nat->Nat}{O' Q3:List ae}{kk k':Nat}
  (h1:O'[kk]? =some (.own (.sl (t.Kids.map aa.av)))) (h2:Q.length<=kk) (h3:cD S u' bx kr O') (h4:∀x,x<S.N->u' x<S.N) (h5:dy u0 u') (h6:jL S bx Q O')
  (k1:ys= []->O'.length<=k') (k2:ys≠[]->k'=k) (h7:∀n,n<O'.length->n≠n5->n≠k'->Q3[n]? =O'[n]?) (hl:O'.length<=Q3.length)
  (hb:Q3[n5]? =some (.live 29 4 [.agg [aA Kd,aA N,ch Nm,.row k' (ys.length+1)]])) (hr:Q3[k']? =some (.live 29 4 (ys++ [.agg [aA t.Kind,aA t.N,ch t.Name,.own kk]]))):
  TyI S u0 bx kr n5 O Kd N Nm ts (i+1) u' (ys++ [.agg [aA t.Kind,aA t.N,ch t.Name,.own kk]]) k' Q3:=by
 obtain⟨a1,a2⟩:=hi.at5;have hQO:=h6.1;have hkl:=(List.getElem?_eq_some_iff.1 h1).1
 have ot:n5<k':=by
  by_cases h:ys= []
  ·have:=k1 h;omega
  ·rw[k2 h];exact(hi.row h).1
 have hkk:kk≠k':=by
  by_cases h:ys= []
  ·have:=k1 h;omega
  ·have:=(List.getElem?_eq_some_iff.1 (hi.row h).2).1;rw[k2 h];omega
 have hold:∀n,n<Q.length->n≠n5->n≠k'->(∀x,x<S.N->n≠bx x)->Q3[n]? =Q[n]? :=λ n hn h h' hx=>by rw[h7 n (by omega) h h',h6.2 n hn hx]
 have zI:∀(a:Nat) y (j m:Nat),ys[a]? =some y->y.cells[j]? =some (.own m)->Q3[m]? =Q[m]? /\m≠kk/\n5<m:=λ a y j m hy hc=>by
  obtain⟨g1,d,g2⟩:=hi.own a y j m hy hc;have o8:=(List.getElem?_eq_some_iff.1 g2).1;refine⟨hold m o8 (by omega) (λ e=> ?_) λ x hx=>by have:=hL.lt hx;omega,by omega,g1⟩;by_cases h:ys= []
  ·subst h;simp at hy
  ·rw[e,k2 h,(hi.row h).2]at g2;cases g2
 refine⟨h3.move λ x hx=>⟨?_,λ hk=> ?_⟩,h4,h5,⟨by have:=hi.same.1;omega,λ n hn hx=> ?_⟩,⟨a1,by omega⟩,?_,?_,by simp[hi.len],?_,λ a y j m hy hc=> ?_,λ _=>⟨ot,hr⟩⟩
 ·have:=hL.lt hx;exact h7 _ (h3.lt hx) (by omega) (by omega)
 ·have:=hL.rlt hx hk;exact h7 _ (h3.rlt hx hk) (by omega) (by omega)
 ·have:=hi.same.1;rw[hold n (by omega) (by omega) (by omega) hx];exact hi.same.2 n hn hx
 ·rw[hold O.length (by omega) (by omega) (by omega) λ x hx=>by have:=hL.lt hx;omega];exact hi.aug
 ·rw[hb,if_neg (by simp),List.length_append];rfl
 ·have:=hi.split.add (O':=Q3) (K:=t.Kind) (N:=t.N) (S:=t.Name) (kk:=kk) (a:= .sl (t.Kids.map aa.av)) (by rw[h7 kk hkl (by omega) hkk];exact h1) λ a y j m hy hc=>⟨(zI a y j m hy hc).1,(zI a y j m hy hc).2.1⟩
  rw[aa.eta]at this;rw[List.take_add_one,ht,List.map_append];exact this
 ·by_cases ha:a<ys.length
  ·rw[List.getElem?_append_left ha]at hy;obtain⟨g1,g2,g3⟩:=zI a y j m hy hc;obtain⟨_,d,g4⟩:=hi.own a y j m hy hc;exact⟨g3,d,by rw[g1];exact g4⟩
  ·rw[List.getElem?_append_right (by omega)]at hy;generalize a- ys.length=q at hy;cases q with
   |succ q=>simp at hy
   |zero=>
    simp at hy;subst hy;have:=ala hc;subst this;exact⟨by omega,_,by rw[h7 m hkl (by omega) hkk];exact h1⟩
theorem adI{S:Net}{u0 bx kr:Nat->Nat}(hs:S.ok)(dJ:∀x,x<S.N->u0 x<S.N)(asY:∀x,x<S.N->9<=(S.ty x).Kind->(S.ty x).Kind<=11->(S.ty x).Name=⟨#[]⟩/\S.kids x= []):
  ∀(m:Nat) {up:Nat->Nat} {O:List ae} {x:Nat} {t:aa},cD S up bx kr O->(∀x,x<S.N->up x<S.N)->dy u0 up->x<S.N->iC S u0 x t->SizeOf.sizeOf t<=m->
  ∃cj O' k,hD Try.prog F.ig [.ptr (bx x) 1 0 0,.fn F.eD []] O (.agg [aA t.Kind,aA t.N,ch t.Name,.own k]) O'/\O'[k]? =some (.own (.sl (t.Kids.map aa.av)))/\O.length<=k/\cD S cj bx kr O'/\(∀x,x<S.N->cj x<S.N)/\dy u0 cj/\jL S bx O O':=by
 intro m
 induction m with
 |zero=>intro up O x t _ _ _ _ _ h;have:0<SizeOf.sizeOf t:=by cases t;simp;omega
        omega
 |succ m ih=>
 intro up O x t hL aF he hx hv hm
 obtain⟨r,pd⟩:∃r,cr u0 x r:=by cases hv with
  |mt _ r h _=>exact⟨r,h⟩
  |node _ r _ h _ _=>exact⟨r,h⟩
 have jw:=pd.lt dJ hx;have hrr:cr u0 r r:= .here r pd.root;have hvr:iC S u0 r t:=hv.eqv ⟨r,hrr,pd⟩
 let z4:ae:= .live 29 4 [.agg [aA 0,aA 0,ch ⟨#[]⟩,.aw]]
 obtain⟨u1,O1,c1,L1,s1,e1,lt1,_⟩:=kF (hL.app [z4]) aF hx (he _ _ pd);have he1:=he.trans e1;have hO1:O.length<O1.length:=by have:=s1.1;simp at this;omega
 have vO:jL S bx O O1:=(jL.app O [z4]).trans s1
 have hb4:O1[O.length]? =some z4:=by
  rw[s1.2 O.length (by simp) λ z hz=>by have:=hL.lt hz;omega];exact tj
 have hB:=L1.box r jw;unfold fQ at hB
 have key:∃res O',(∃cj k,res= .agg [aA t.Kind,aA t.N,ch t.Name,.own k]/\O'[k]? =some (.own (.sl (t.Kids.map aa.av)))/\O.length<=k/\cD S cj bx kr O'/\(∀x,x<S.N->cj x<S.N)/\dy u0 cj/\jL S bx O O')/\hD Try.prog F.ig [.ptr (bx x) 1 0 0,.fn F.eD []] O res O':=by
  refine pQ A.abS rfl ?_;simp only[A.ig,↓OD,OA,reduceEqDiff,reduceCtorEq,reduceAdd,reduceLT,reduceLeDiff,reduceIte];refine bj _ _ c1 ?_;simp only[hB,aA,ch,↓OD,OA,reduceEqDiff,reduceCtorEq,reduceAdd,reduceLT,reduceLeDiff,reduceIte];refine bj _ _ ((nJ (S.ty r).Kind).any rfl rfl O1) ?_;simp only[↓OD,OA,reduceEqDiff,reduceCtorEq,reduceAdd,reduceLT,reduceLeDiff,reduceIte];by_cases hk:ld (S.ty r).Kind 9 11=true
  ·simp only[hk,↓OD,OA,reduceEqDiff,reduceCtorEq,reduceAdd,reduceLT,reduceLeDiff,reduceIte];refine bj _ _ (yd L1 jw) ?_;have aAq:∀E:List ae,(O1++E)[O.length]? =some z4:=λ E=>by rw[al hO1];exact hb4
   have pF:∀(E:List ae) (v:ae),(O1++E).set O.length v=O1.set O.length v++E:=λ E v=>List.set_append_left _ _ hO1
   simp only[aAq,z4,aA,ch,↓OD,OA,reduceEqDiff,reduceCtorEq,reduceAdd,reduceLT,reduceLeDiff,reduceIte]
   have ht:t= .mk (S.ty r).Kind (S.ty r).N ⟨#[]⟩ []:=by
    cases hvr with
    |mt _ r' h hme=>
     have:=hrr.qq h;subst this;rw[(hs.qJ r (hs.isMeta r jw hme)).1];rfl
    |node _ r' ts h hme nh=>
     have:=hrr.qq h;subst this;have hkb:9<=(S.ty r).Kind/\(S.ty r).Kind<=11:=by simpa [ld]using hk
     obtain⟨h1,h2⟩:=asY r jw hkb.1 hkb.2;rw[h2]at nh;cases nh;rw[h1]
   subst ht;rw[pF];refine uC (j:=3) (cs:=[.v (.int .i64 (S.ty r).Kind),.v (.int .i64 (S.ty r).N),.v (.string ⟨#[]⟩),.aw]) (.inl rfl) ?_ rfl aa4 ⟨u1,_,rfl,by simp[aa.eR],by simp;omega,(L1.move λ z hz=>⟨getElem?_set_ne (by have:=hL.lt hz;omega),λ hk=>getElem?_set_ne (by have:=hL.rlt hz hk;omega)⟩:cD S u1 bx kr (O1.set O.length _)).app _|>.app _,lt1,he1,⟨by simp;omega,λ n hn hx=> ?_⟩⟩
   ·have:∀(v:ae) (E:List ae),(O1.set O.length v++E)[O.length]? =some v:=λ v E=>by rw[al (by simp;omega)];exact getElem?_set_self hO1
    simp only[this,↓OD,OA,reduceEqDiff,reduceCtorEq,reduceAdd,reduceLT,reduceLeDiff,reduceIte]
   ·rw[List.append_assoc,al (by simp;omega),getElem?_set_ne (by omega)];exact vO.2 n hn hx
  ·have ot:ld (S.ty r).Kind 9 11=false:=by simpa using hk
   have hnm:¬S.mX r:=λ h=>hk (by unfold Net.mX at h;rw[h];decide)
   obtain⟨ts,sa,htl,hte⟩:∃ts:List aa,(∀(i k:Nat),(S.kids r)[i]? =some k->∃t,ts[i]? =some t/\iC S u0 k t)/\ts.length=(S.kids r).length/\t= .mk (S.ty r).Kind (S.ty r).N (S.ty r).Name ts:=by
    cases hvr with
    |mt _ r' h hme=>
     have:=hrr.qq h;subst this;exact(hnm hme).elim
    |node _ r' ts h hme nh=>
     have:=hrr.qq h;subst this;obtain⟨q1,q2⟩:=lF.at nh;exact⟨ts,q2,q1,rfl⟩
   have hB1:∀E:List ae,(O1++E)[bx r]? =O1[bx r]? :=λ E=>al (L1.lt jw)
   simp only[ot,↓OD,OA,reduceEqDiff,reduceCtorEq,reduceAdd,reduceLT,reduceLeDiff,reduceIte];refine jl ?_;simp only[hB1,hB,tj,as0,aA,ch,↓OD,OA,reduceEqDiff,reduceCtorEq,reduceAdd,reduceLT,reduceLeDiff,reduceIte];refine⟨mh (λ n=>[bx r,O1.length].getD n 0) 2 [⟨[],.fP⟩,⟨[0],.fP⟩,⟨[0],.fP⟩,⟨[0],.fP⟩,⟨[],.fP⟩,⟨[0],.fP⟩,⟨[0],.fP⟩,⟨[0],.fP⟩,⟨[],.fP⟩,⟨[0],.fP⟩,⟨[0],.fP⟩,⟨[0],.fP⟩,⟨[],.fP⟩,⟨[],.push 1⟩,⟨[1],.set 1⟩] (by kernel_rfl) (by kernel_rfl) (λ a b ha hb h=> ?_) (by kernel_rfl),?_⟩
   ·have aCC:=L1.lt jw
    match a,b,ha,hb with
    |0,0,_,_|1,1,_,_=>rfl
    |0,1,_,_|1,0,_,_=>simp at h;omega
   try simp only[hB1,hB,tj,as0,aA,ch,↓OD,OA,reduceEqDiff,reduceCtorEq,reduceAdd,reduceLT,reduceLeDiff,reduceIte]
   have L1':cD S u1 bx kr (O1++ [.live 29 4 [.agg [aA (S.ty r).Kind,aA (S.ty r).N,ch (S.ty r).Name,.aw]]]):=L1.app _;rw[ji (L1.app _) jw];try simp only[↓OD,OA,reduceEqDiff,reduceCtorEq,reduceAdd,reduceLT,reduceLeDiff,reduceIte]
   refine cR (ι:=Nat×(Nat->Nat)×List AV×Nat×List ae)
    (λ q=>q.1<=(S.kids r).length/\TyI S u0 bx kr O1.length O (S.ty r).Kind (S.ty r).N (S.ty r).Name ts q.1 q.2.1 q.2.2.1 q.2.2.2.1 q.2.2.2.2)
    (λ q=>pc [(1,.fn F.eD []),(4,.ptr O.length 1 0 0),(5,.ptr O1.length 1 0 0),(34,kS S kr r),(35,.v (.int .i64 (S.kids r).length)),(36,.v (.int .i64 q.1))]) (λ q=>q.2.2.2.2) (λ q=>(S.kids r).length- q.1) (0,u1,[],0,_)
    ⟨Nat.zero_le _,L1.app _,lt1,he1,vO.trans (.app _ _),⟨hO1,by simp⟩,by rw[al hO1];exact hb4,by rw[if_pos rfl];exact tj,rfl,by rw[List.take_zero];exact .nil _,λ a y j m hy=>by simp at hy,λ h=>(h rfl).elim⟩ (.of_eq rfl rfl) ?_
   rintro⟨i,u,ys,k,Q⟩ ⟨w1,hi⟩;simp only at w1 hi;obtain⟨a1,a2⟩:=hi.at5;have w2:=hi.lay;by_cases amn:i<(S.kids r).length
   ·have di:decide ((i:Int)<((S.kids r).length:Int))=true:=decide_eq_true (by omega);have aC4:=hL.few r jw;have hyl:=hi.len;obtain⟨p,hp⟩:∃p,(S.kids r)[i]? =some p:=⟨_,List.getElem?_eq_getElem amn⟩;have hpl:=hs.lt r jw p (List.mem_of_getElem? hp);obtain⟨tp,htp,hvp⟩:=sa i p hp;have sd:SizeOf.sizeOf tp<SizeOf.sizeOf t:=gP (by rw[hte];exact List.mem_of_getElem? htp);obtain⟨u',O',kk,hc,l1,l2,l3,l4,l5,l6⟩:=ih w2 hi.lt hi.eq hpl hvp (by omega);have ou:=hi.axP;have aAl:∀x,x<S.N->O1.length≠bx x:=λ x hx=>by have:=hL.lt hx;omega
    have yu:O'[O1.length]? =Q[O1.length]? :=l6.2 _ a2 aAl;have adZ:∀E:List ae,(O'++E)[O1.length]? =Q[O1.length]? :=λ E=>by rw[al (by have:=l6.1;omega)];exact yu
    simp only[di,↓OD,OA,reduceEqDiff,reduceCtorEq,reduceAdd,reduceLT,reduceLeDiff,reduceIte];rw[me w2 jw amn];simp only[w2.row r jw (λ e=>by rw[e]at amn;simp at amn),cZ,ib hp,amn,AV.cells,↓OD,OA,reduceEqDiff,reduceCtorEq,reduceAdd,reduceLT,reduceLeDiff,reduceIte];refine aea (al:=[⟨none,(some 40),.bX 3 (.t 5)⟩,⟨none,(some 41),.load none (.t 40)⟩,⟨none,(some 42),.bc (.t 7)⟩,⟨none,(some 43),.bc (.t 1)⟩,⟨none,(some 44),.nn [O1.length] F.ig [(.t 42),(.t 43)]⟩,⟨none,(some 45),.buildSlice 29 4 1 (.agg [(.v (.int .i64 0)),(.v (.int .i64 0)),(.v (.string ⟨#[]⟩)),.aw]) [(0,(.t 44))]⟩,⟨none,(some 46),.app 29 4 56 (.t 41) (.t 45)⟩,⟨none,(some 47),.bX 3 (.t 5)⟩,⟨none,none,.store 1 (.t 47) (.t 46)⟩]) rfl ?_;by_cases tg:ys= []
    ·subst tg;rw[if_pos rfl]at ou;simp only[aA,ch]at ou;simp only[ou,↓OD,OA,reduceEqDiff,reduceCtorEq,reduceAdd,reduceLT,reduceLeDiff,reduceIte];refine nX hc (λ n hn=>by rw[List.mem_singleton.1 hn,yu]) ?_;simp only[adZ,ou,tj,aA,ch,↓OD,OA,reduceEqDiff,reduceCtorEq,reduceAdd,reduceLT,reduceLeDiff,reduceIte];refine⟨λ y hy=>by rw[List.mem_singleton.1 hy];rfl,by decide,by decide,λ h=>h.elim,λ _=> ?_⟩;try simp only[adZ,ou,List.append_assoc,List.cons_append,List.nil_append,↓OD,OA,reduceEqDiff,reduceCtorEq,reduceAdd,reduceLT,reduceLeDiff,reduceIte]
     refine⟨mh (λ n=>[O1.length,O'.length].getD n 0) 2 [⟨[0],.fP⟩,⟨[0],.fP⟩,⟨[],.fP⟩,⟨[],.fP⟩,⟨[],.yT [0]⟩,⟨[],.push 1⟩,⟨[],.any⟩,⟨[0],.fP⟩,⟨[0],.set 0⟩] (by kernel_rfl) (by kernel_rfl) (λ a b ha hb h=> ?_) (by kernel_rfl),?_⟩
     ·have:=l6.1
      match a,b,ha,hb with
      |0,0,_,_|1,1,_,_=>rfl
      |0,1,_,_|1,0,_,_=>simp at h;omega
     have hq:=l6.1;refine b6 (i+1,u',[]++ [_],O'.length+1,_) ⟨by show i+1<=_;omega,hi.step (k':=O'.length+1) hL htp l1 l2 l3 l4 l5 l6 (λ _=>by omega) (λ h=>(h rfl).elim) (λ n hn h _=>by rw[getElem?_set_ne (λ e=>h e.symm),al hn]) (by simp) (getElem?_set_self (by simp;omega)) (by rw[getElem?_set_ne (by omega)];exact ag1)⟩ (by show(S.kids r).length- (i+1)<(S.kids r).length- i;omega) (.of_eq ?_ rfl);rw[bm (by omega) (by omega)];rfl
    ·rw[if_neg tg]at ou;simp only[aA,ch]at ou;simp only[ou,↓OD,OA,reduceEqDiff,reduceCtorEq,reduceAdd,reduceLT,reduceLeDiff,reduceIte];refine nX hc (λ n hn=>by rw[List.mem_singleton.1 hn,yu]) ?_;have hkr:=hi.row tg;have hkQ:=(List.getElem?_eq_some_iff.1 hkr.2).1
     have eh:∀E:List ae,(O'++E)[k]? =some (.live 29 4 ys):=λ E=>by
      rw[al (by have:=l6.1;omega),l6.2 k hkQ λ x hx=>by have:=hL.lt hx;omega];exact hkr.2
     have aqS:∀(E:List ae) (v:ae),((O'++E).set k v)[O1.length]? =Q[O1.length]? :=λ E v=>by rw[getElem?_set_ne (by omega)];exact adZ E
     simp only[adZ,aqS,eh,ou,tj,aA,ch,↓OD,OA,reduceEqDiff,reduceCtorEq,reduceAdd,reduceLT,reduceLeDiff,reduceIte]
     have o8:ys.length+1<=maxLen:=by
      have:maxLen=9223372036854775807:=rfl;omega
     refine⟨λ y hy=>by rw[List.mem_singleton.1 hy];rfl,by omega,o8,?_⟩;try simp only[adZ,aqS,ou,↓OD,OA,reduceEqDiff,reduceCtorEq,reduceAdd,reduceLT,reduceLeDiff,reduceIte]
     refine⟨mh (λ n=>[O1.length,O'.length,k].getD n 0) 3 [⟨[0],.fP⟩,⟨[0],.fP⟩,⟨[],.fP⟩,⟨[],.fP⟩,⟨[],.yT [0]⟩,⟨[],.push 1⟩,⟨[2,1],.set 2⟩,⟨[0],.fP⟩,⟨[0],.set 0⟩] (by kernel_rfl) (by kernel_rfl) (λ a b ha hb h=> ?_) (by kernel_rfl),?_⟩
     ·have:=l6.1
      match a,b,ha,hb with
      |0,0,_,_|1,1,_,_|2,2,_,_=>rfl
      |0,1,_,_|1,0,_,_|0,2,_,_|2,0,_,_|1,2,_,_|2,1,_,_=>simp at h;omega
     have hq:=l6.1;refine b6 (i+1,u',ys++ [_],k,_) ⟨by show i+1<=_;omega,hi.step (k':=k) hL htp l1 l2 l3 l4 l5 l6 (λ h=>(tg h).elim) (λ _=>rfl) (λ n hn h h'=>by rw[getElem?_set_ne (λ e=>h e.symm),getElem?_set_ne (λ e=>h' e.symm),al hn]) (by simp) (getElem?_set_self (by simp;omega)) (by rw[getElem?_set_ne (by omega)];exact getElem?_set_self (by simp;omega))⟩ (by show(S.kids r).length- (i+1)<(S.kids r).length- i;omega) (.of_eq ?_ rfl);rw[bm (by omega) (by omega)];rfl
   ·have di:decide ((i:Int)<((S.kids r).length:Int))=false:=decide_eq_false (by omega);have hie:i=(S.kids r).length:=by omega
    have ou:=hi.axP;have aq7:=hi.aug;simp only[aA,ch]at ou aq7;simp only[di,ou,aq7,↓OD,OA,reduceEqDiff,reduceCtorEq,reduceAdd,reduceLT,reduceLeDiff,reduceIte];subst hte;have hyl:=hi.len;have pF:∀v:ae,(Q.set O.length v)[O.length]? =some v:=λ v=>getElem?_set_self (by omega)
    have aq1:∀v:ae,cD S u bx kr (Q.set O.length v):=λ v=>w2.move λ z hz=>⟨getElem?_set_ne (by have:=hL.lt hz;omega),λ hk=>getElem?_set_ne (by have:=hL.rlt hz hk;omega)⟩
    by_cases tg:ys= []
    ·rw[if_pos tg];have as2:ts= []:=List.eq_nil_of_length_eq_zero (by rw[htl,←hie,←hyl,tg];rfl);subst as2;refine⟨rfl,uC (j:=3) (cs:=[.v (.int .i64 (S.ty r).Kind),.v (.int .i64 (S.ty r).N),.v (.string (S.ty r).Name),.aw]) (.inl rfl) ?_ rfl aa4 ⟨u,_,rfl,by simp[aa.eR],by simp;omega,(aq1 _).app _,hi.lt,hi.eq,⟨by simp;omega,λ n hn hx=> ?_⟩⟩⟩
     ·simp only[pF,↓OD,OA,reduceEqDiff,reduceCtorEq,reduceAdd,reduceLT,reduceLeDiff,reduceIte]
     ·rw[al (by simp;omega),getElem?_set_ne (by omega)];exact hi.same.2 n hn hx
    ·rw[if_neg tg];have htk:ts.take i=ts:=by rw[hie,←htl,List.take_length]
     have hsp:=hi.split;rw[htk]at hsp;obtain⟨g1,g2⟩:=hi.row tg;have hun:∀n,n<O.length->∀(a:Nat) y (j:Nat),ys[a]? =some y->y.cells[j]? ≠some (.own n):=λ n hn a y j hy hc=>by have:=(hi.own a y j n hy hc).1;omega
     refine⟨rfl,afn (nl:=true) (j:=3) (k:=k) (len:=ys.length) (ty:=29) (z:=4) (ys:=ys) (xs:=ts.map aa.av) (cs:=[.v (.int .i64 (S.ty r).Kind),.v (.int .i64 (S.ty r).N),.v (.string (S.ty r).Name),.row k ys.length]) (.inl rfl) ?_ rfl aa4 (by rw[getElem?_set_ne (by omega),g2];simp[cK,tg]) rfl (hsp.congr λ m d hm=> ?_) λ O2 hO2 hO3=>⟨u,_,rfl,?_,by simp;omega,((aq1 _).move λ z hz=>⟨hO3 _ (by have:=hL.lt hz;omega) (hun _ (hL.lt hz)),λ hk=>hO3 _ (by have:=hL.rlt hz hk;omega) (hun _ (hL.rlt hz hk))⟩).app _,hi.lt,hi.eq,⟨by simp[hO2];omega,λ n hn hx=> ?_⟩⟩⟩
     ·simp only[pF,↓OD,OA,reduceEqDiff,reduceCtorEq,reduceAdd,reduceLT,reduceLeDiff,reduceIte]
     ·rw[getElem?_set_ne (λ e=>by rw[←e,hi.aug]at hm;cases hm)];exact hm
     ·rw[←hO2,List.getElem?_append_right (Nat.le_refl _),Nat.sub_self];rfl
     ·rw[al (by rw[hO2];simp;omega),hO3 n (by omega) (hun n hn),getElem?_set_ne (by omega)];exact hi.same.2 n hn hx
 obtain⟨res,O',⟨cj,k,rfl,h⟩,hc⟩:=key;exact⟨cj,O',k,hc,h⟩
end Go.Proofs.Ab
