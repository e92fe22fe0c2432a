/-
  Unify of the program: how great a node's type is.
-/
import Derived.Test.YtfebhekplhjigaaWUni4
import Derived.Test.YtfebhekplhjigaaCSiz
open Nat(reduceEqDiff reduceLeDiff reduceAdd reduceLT reduceMul)
set_option linter.unusedVariables false
set_option linter.unusedSimpArgs false
namespace Go.Proofs.Ab
open Go.Ab
set_option maxRecDepth 100000
set_option maxHeartbeats 4000000
theorem akW(k:IntKind)(a b:Int)(O:List ae)(K:KT):akY .min [.v (.int k a),.v (.int k b)] O K=k1 (.v (.int k (min a b))) O K:=by
 have:(if b<a then b else a)=min a b:=by rw[Int.min_def];split<;>split<;>omega
 simp[akY,puK,v8,AV.ad,AV.ag,k1,this]
def jc(n:Nat):Int:=min (n:Int) 201
theorem ael{t:aa}:1<=jc t.eW/\jc t.eW<=201:=by have:=t.jV;unfold jc;omega
theorem vB{S:Net}{u0 bx kr:Nat->Nat}{mp:Nat}(hs:S.ok)(dJ:∀x,x<S.N->u0 x<S.N):
  ∀(m:Nat) {up:Nat->Nat} {O:List ae} {st:Nat->Int} {ks:List Nat} {x:Nat} {t:aa},cD S up bx kr O->(∀x,x<S.N->up x<S.N)->dy u0 up->kM S bx st mp ks O->x<S.N->iC S u0 x t->(∀g,g<S.N->st g≠0->∃t,iC S u0 g t/\st g=jc t.eW)->SizeOf.sizeOf t<=m->
  ∃cj O' re ks',hD Try.prog F.eF [.ptr (bx x) 1 0 0,.own mp] O (.v (.int .i64 (jc t.eW))) O'/\cD S cj bx kr O'/\(∀x,x<S.N->cj x<S.N)/\dy u0 cj/\kM S bx re mp ks' O'/\lj S bx mp O O'/\(∀g,g<S.N->re g≠0->∃t,iC S u0 g t/\re g=jc t.eW):=by
 intro m
 induction m with
 |zero=>intro up O st ks x t _ _ _ _ _ _ _ h;have:0<SizeOf.sizeOf t:=by cases t;simp;omega
        omega
 |succ m ih=>
 intro up O st ks x t hL aF he hM hx hv hA hm
 obtain⟨r,pd⟩:∃r,cr u0 x r:=by cases hv with
  |mt _ r h _=>exact⟨r,h⟩
  |node _ r _ h _ _=>exact⟨r,h⟩
 have jw:=pd.lt dJ hx;have hrr:cr u0 r r:= .here r pd.root;have hvr:iC S u0 r t:=hv.eqv ⟨r,hrr,pd⟩;obtain⟨u1,O1,c1,L1,s1,e1,lt1,_⟩:=kF hL aF hx (he _ _ pd);have he1:=he.trans e1;have M1:=hM.same hL s1;have hkb:=gS L1 jw;have zJ:=M1.keys L1;have mf:=M1.ob
 have key:∃res O',(∃cj re ks',res= .v (.int .i64 (jc t.eW))/\cD S cj bx kr O'/\(∀x,x<S.N->cj x<S.N)/\dy u0 cj/\kM S bx re mp ks' O'/\lj S bx mp O O'/\(∀g,g<S.N->re g≠0->∃t,iC S u0 g t/\re g=jc t.eW))/\hD Try.prog F.eF [.ptr (bx x) 1 0 0,.own mp] O res O':=by
  refine pQ A.tU rfl ?_;simp only[A.eF,↓OD,OA,reduceEqDiff,reduceCtorEq,reduceAdd,reduceLT,reduceLeDiff,reduceIte];refine bj _ _ c1 ?_;simp only[↓OD,OA,reduceEqDiff,reduceCtorEq,reduceAdd,reduceLT,reduceLeDiff,reduceIte];by_cases h0:st r=0
  ·refine ahe mf hkb zJ (M1.amL L1 jw h0) ?_;simp only[↓OD,OA,reduceEqDiff,reduceCtorEq,reduceAdd,reduceLT,reduceLeDiff,reduceIte]
   obtain⟨ts,sa,htl,awA⟩:∃ts:List aa,(∀(i k:Nat),(S.kids r)[i]? =some k->∃t,ts[i]? =some t/\iC S u0 k t)/\ts.length=(S.kids r).length/\t.Kids=ts/\t.eW=1+(ts.map aa.eW).sum:=by
    cases hvr with
    |mt _ r' h hme=>
     have:=hrr.qq h;subst this;have hk:=(hs.qJ r (hs.isMeta r jw hme)).2;exact⟨[],by rw[hk];intro i k h;simp at h,by rw[hk];rfl,rfl,aa.jV _⟩
    |node _ r' ts h hme nh=>
     have:=hrr.qq h;subst this;obtain⟨q1,q2⟩:=lF.at nh;exact⟨ts,q2,q1,rfl,aa.jV _⟩
   have hB:=L1.box r jw;unfold fQ at hB;simp only[hB,↓OD,OA,reduceEqDiff,reduceCtorEq,reduceAdd,reduceLT,reduceLeDiff,reduceIte];rw[ji L1 jw];simp only[↓OD,OA,reduceEqDiff,reduceCtorEq,reduceAdd,reduceLT,reduceLeDiff,reduceIte]
   refine cR (ι:=Nat×(Nat->Nat)×List ae×(Nat->Int)×List Nat)
    (λ q=>q.1<=(S.kids r).length/\cD S q.2.1 bx kr q.2.2.1/\(∀z,z<S.N->q.2.1 z<S.N)/\dy u0 q.2.1/\kM S bx q.2.2.2.1 mp q.2.2.2.2 q.2.2.1/\lj S bx mp O q.2.2.1/\(∀g,g<S.N->q.2.2.2.1 g≠0->∃t,iC S u0 g t/\q.2.2.2.1 g=jc t.eW))
    (λ q=>pc [(0,.ptr (bx r) 1 0 0),(1,.own mp),(7,.v (.int .i64 (jc (1+((ts.take q.1).map aa.eW).sum)))),(23,kS S kr r),(24,.v (.int .i64 (S.kids r).length)),(25,.v (.int .i64 q.1))]) (λ q=>q.2.2.1) (λ q=>(S.kids r).length- q.1) (0,u1,O1,st,ks)
    ⟨Nat.zero_le _,L1,lt1,he1,M1,.of s1,hA⟩ (.of_eq rfl rfl) ?_
   rintro⟨i,u,Q,s,kk⟩ ⟨w1,w2,w3,w4,w5,w6,w7⟩;simp only at w1 w2 w3 w4 w5 w6 w7;by_cases hi:i<(S.kids r).length
   ·have di:decide ((i:Int)<((S.kids r).length:Int))=true:=decide_eq_true (by omega);obtain⟨p,hp⟩:∃p,(S.kids r)[i]? =some p:=⟨_,List.getElem?_eq_getElem hi⟩;have hpl:=hs.lt r jw p (List.mem_of_getElem? hp);obtain⟨tp,htp,hvp⟩:=sa i p hp;have sd:SizeOf.sizeOf tp<SizeOf.sizeOf t:=gP (by rw[awA.1];exact List.mem_of_getElem? htp);obtain⟨u',O',s',k',hc,l1,l2,l3,l4,l5,l6⟩:=ih w2 w3 w4 w5 hpl hvp w7 (by omega);simp only[di,↓OD,OA,reduceEqDiff,reduceCtorEq,reduceAdd,reduceLT,reduceLeDiff,reduceIte];rw[me w2 jw hi];simp only[w2.row r jw (λ e=>by rw[e]at hi;simp at hi),cZ,ib hp,hi,AV.cells,↓OD,OA,reduceEqDiff,reduceCtorEq,reduceAdd,reduceLT,reduceLeDiff,reduceIte];refine bj _ _ hc ?_
    have htk:((ts.take (i+1)).map aa.eW).sum=((ts.take i).map aa.eW).sum+tp.eW:=by
     rw[List.take_add_one,htp,List.map_append,List.sum_append];simp
    simp only[akW,↓OD,OA,reduceEqDiff,reduceCtorEq,reduceAdd,reduceLT,reduceLeDiff,reduceIte];refine b6 (i+1,u',O',s',k') ⟨by show i+1<=_;omega,l1,l2,l3,l4,w6.trans l5,l6⟩ (by show(S.kids r).length- (i+1)<(S.kids r).length- i;omega) (.of_eq ?_ rfl);have e1:IntKind.i64.wrap ((i:Int)+1)=((i+1:Nat):Int):=by rw[bm (by omega) (by have:=w2.few r jw;omega)];rfl
    have e2:min (IntKind.i64.wrap (jc (1+((ts.take i).map aa.eW).sum)+jc tp.eW)) 201=jc (1+((ts.take (i+1)).map aa.eW).sum):=by
     have:=ael (t:=tp);rw[bm (by unfold jc;omega) (by unfold jc;omega),htk];unfold jc;omega
    rw[e1,e2]
   ·have di:decide ((i:Int)<((S.kids r).length:Int))=false:=decide_eq_false (by omega);have hie:i=(S.kids r).length:=by omega
    have jP:jc (1+((ts.take i).map aa.eW).sum)=jc t.eW:=by rw[hie,←htl,List.take_length,←awA.2]
    obtain⟨ks3,L3,M3,sm3⟩:=w2.o5 w5 (v:=jc t.eW) jw (by have:=ael (t:=t);omega);simp only[di,jP,↓OD,OA,reduceEqDiff,reduceCtorEq,reduceAdd,reduceLT,reduceLeDiff,reduceIte];refine rD w5.ob (gS w2 jw) (w5.keys w2) ?_;simp only[↓OD,OA,reduceEqDiff,reduceCtorEq,reduceAdd,reduceLT,reduceLeDiff,reduceIte];refine ck (.inl rfl) ⟨u,za s r (jc t.eW),ks3,by simp only[↓OD,OA,reduceEqDiff,reduceCtorEq,reduceAdd,reduceLT,reduceLeDiff,reduceIte],L3,w3,w4,M3,w6.trans sm3,λ g hg h=> ?_⟩;by_cases e:g=r
    ·subst e;exact⟨t,hvr,iG _ _ _⟩
    ·rw[fU _ _ e]at h⊢;exact w7 g hg h
  ·obtain⟨i,hf⟩:=M1.ahF L1 jw h0;obtain⟨t',jO,om⟩:=hA r jw h0;have:=hvr.qq jO;subst this;refine xo mf hkb zJ hf ?_;simp only[om,↓OD,OA,reduceEqDiff,reduceCtorEq,reduceAdd,reduceLT,reduceLeDiff,reduceIte];exact ck (.inl rfl) ⟨u1,st,ks,by simp only[↓OD,OA,reduceEqDiff,reduceCtorEq,reduceAdd,reduceLT,reduceLeDiff,reduceIte],L1,lt1,he1,M1,.of s1,hA⟩
 obtain⟨res,O',⟨cj,re,ks',rfl,h⟩,hc⟩:=key;exact⟨cj,O',re,ks',hc,h⟩
end Go.Proofs.Ab
