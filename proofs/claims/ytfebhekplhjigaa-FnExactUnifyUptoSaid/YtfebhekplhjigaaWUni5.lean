/-
  Unify of the program: how great a node's type is.
-/
import Derived.Test.YtfebhekplhjigaaWUni4
import Derived.Test.YtfebhekplhjigaaCSiz
open Nat(reduceEqDiff reduceLeDiff reduceAdd reduceLT reduceMul)
set_option linter.unusedVariables false
set_option linter.unusedSimpArgs false
namespace Go.Proofs.Ab
open Go.Ab
set_option maxRecDepth 100000
set_option maxHeartbeats 4000000
theorem anK(k:IntKind)(a b:Int)(O:List aa)(K:KT):anM .min [.v (.int k a),.v (.int k b)] O K=k1 (.v (.int k (min a b))) O K:=by
 have:(if b<a then b else a)=min a b:=by rw[Int.min_def];split<;>split<;>omega
 simp[anM,puK,puF,AV.ae,AV.ag,k1,this]
def dT(n:Nat):Int:=min (n:Int) 201
theorem ot{t:ad}:1<=dT t.dP/\dT t.dP<=201:=by have:=t.pz;unfold dT;omega
theorem zf{S:Net}{u0 bx kr:Nat->Nat}{mp:Nat}(hs:S.ok)(dv:∀x,x<S.N->u0 x<S.N):
  ∀(m:Nat) {up:Nat->Nat} {O:List aa} {st:Nat->Int} {ks:List Nat} {x:Nat} {t:ad},ca S up bx kr O->(∀x,x<S.N->up x<S.N)->df u0 up->mA S bx st mp ks O->x<S.N->gC S u0 x t->(∀g,g<S.N->st g≠0->∃t,gC S u0 g t/\st g=dT t.dP)->SizeOf.sizeOf t<=m->
  ∃bh O' uH ks',cF Try.prog F.ep [.ptr (bx x) 1 0 0,.own mp] O (.v (.int .i64 (dT t.dP))) O'/\ca S bh bx kr O'/\(∀x,x<S.N->bh x<S.N)/\df u0 bh/\mA S bx uH mp ks' O'/\mT S bx mp O O'/\(∀g,g<S.N->uH g≠0->∃t,gC S u0 g t/\uH g=dT t.dP):=by
 intro m
 induction m with
 |zero=>intro up O st ks x t _ _ _ _ _ _ _ h;have:0<SizeOf.sizeOf t:=by cases t;simp;omega
        omega
 |succ m ih=>
 intro up O st ks x t hL aw he hM hx hv hA hm
 obtain⟨r,mG⟩:∃r,bw u0 x r:=by cases hv with
  |mt _ r h _=>exact⟨r,h⟩
  |node _ r _ h _ _=>exact⟨r,h⟩
 have dV:=mG.lt dv hx;have xX:bw u0 r r:= .here r mG.root;have hvr:gC S u0 r t:=hv.eqv ⟨r,xX,mG⟩;obtain⟨u1,O1,c1,L1,s1,e1,lt1,_⟩:=mu hL aw hx (he _ _ mG);have he1:=he.trans e1;have M1:=hM.same hL s1;have hkb:=il L1 dV;have hkp:=M1.keys L1;have oh:=M1.ob
 have key:∃res O',(∃bh uH ks',res= .v (.int .i64 (dT t.dP))/\ca S bh bx kr O'/\(∀x,x<S.N->bh x<S.N)/\df u0 bh/\mA S bx uH mp ks' O'/\mT S bx mp O O'/\(∀g,g<S.N->uH g≠0->∃t,gC S u0 g t/\uH g=dT t.dP))/\cF Try.prog F.ep [.ptr (bx x) 1 0 0,.own mp] O res O':=by
  refine jM A.xU rfl ?_;simp only[A.ep,↓OD,OA,reduceEqDiff,reduceCtorEq,reduceAdd,reduceLT,reduceLeDiff,reduceIte];refine aj _ _ c1 ?_;simp only[↓OD,OA,reduceEqDiff,reduceCtorEq,reduceAdd,reduceLT,reduceLeDiff,reduceIte];by_cases h0:st r=0
  ·refine aj5 oh hkb hkp (M1.apl L1 dV h0) ?_;simp only[↓OD,OA,reduceEqDiff,reduceCtorEq,reduceAdd,reduceLT,reduceLeDiff,reduceIte]
   obtain⟨ts,uB,htl,ayb⟩:∃ts:List ad,(∀(i k:Nat),(S.kids r)[i]? =some k->∃t,ts[i]? =some t/\gC S u0 k t)/\ts.length=(S.kids r).length/\t.Kids=ts/\t.dP=1+(ts.map ad.dP).sum:=by
    cases hvr with
    |mt _ r' h hme=>
     have:=xX.rF h;subst this;have hk:=(hs.pj r (hs.isMeta r dV hme)).2;exact⟨[],by rw[hk];intro i k h;simp at h,by rw[hk];rfl,rfl,ad.pz _⟩
    |node _ r' ts h hme vR=>
     have:=xX.rF h;subst this;obtain⟨q1,q2⟩:=kj.at vR;exact⟨ts,q2,q1,rfl,ad.pz _⟩
   have hB:=L1.box r dV;unfold fM at hB;simp only[hB,↓OD,OA,reduceEqDiff,reduceCtorEq,reduceAdd,reduceLT,reduceLeDiff,reduceIte];rw[j0 L1 dV];simp only[↓OD,OA,reduceEqDiff,reduceCtorEq,reduceAdd,reduceLT,reduceLeDiff,reduceIte]
   refine aQ (ι:=Nat×(Nat->Nat)×List aa×(Nat->Int)×List Nat)
    (λ q=>q.1<=(S.kids r).length/\ca S q.2.1 bx kr q.2.2.1/\(∀z,z<S.N->q.2.1 z<S.N)/\df u0 q.2.1/\mA S bx q.2.2.2.1 mp q.2.2.2.2 q.2.2.1/\mT S bx mp O q.2.2.1/\(∀g,g<S.N->q.2.2.2.1 g≠0->∃t,gC S u0 g t/\q.2.2.2.1 g=dT t.dP))
    (λ q=>iA [(0,.ptr (bx r) 1 0 0),(1,.own mp),(7,.v (.int .i64 (dT (1+((ts.take q.1).map ad.dP).sum)))),(23,mF S kr r),(24,.v (.int .i64 (S.kids r).length)),(25,.v (.int .i64 q.1))]) (λ q=>q.2.2.1) (λ q=>(S.kids r).length- q.1) (0,u1,O1,st,ks)
    ⟨Nat.zero_le _,L1,lt1,he1,M1,.of s1,hA⟩ (.of_eq rfl rfl) ?_
   rintro⟨i,u,Q,s,kk⟩ ⟨w1,w2,w3,w4,w5,w6,w7⟩;simp only at w1 w2 w3 w4 w5 w6 w7;by_cases hi:i<(S.kids r).length
   ·have di:decide ((i:Int)<((S.kids r).length:Int))=true:=decide_eq_true (by omega);obtain⟨p,hp⟩:∃p,(S.kids r)[i]? =some p:=⟨_,List.getElem?_eq_getElem hi⟩;have sn:=hs.lt r dV p (List.mem_of_getElem? hp);obtain⟨tp,htp,hvp⟩:=uB i p hp;have ta:SizeOf.sizeOf tp<SizeOf.sizeOf t:=fX (by rw[ayb.1];exact List.mem_of_getElem? htp);obtain⟨u',O',s',k',hc,l1,l2,l3,l4,l5,l6⟩:=ih w2 w3 w4 w5 sn hvp w7 (by omega);simp only[di,↓OD,OA,reduceEqDiff,reduceCtorEq,reduceAdd,reduceLT,reduceLeDiff,reduceIte];rw[og w2 dV hi];simp only[w2.row r dV (λ e=>by rw[e]at hi;simp at hi),cG,iK hp,hi,AV.cells,↓OD,OA,reduceEqDiff,reduceCtorEq,reduceAdd,reduceLT,reduceLeDiff,reduceIte];refine aj _ _ hc ?_
    have htk:((ts.take (i+1)).map ad.dP).sum=((ts.take i).map ad.dP).sum+tp.dP:=by
     rw[List.take_add_one,htp,List.map_append,List.sum_append];simp
    simp only[anK,↓OD,OA,reduceEqDiff,reduceCtorEq,reduceAdd,reduceLT,reduceLeDiff,reduceIte];refine aL (i+1,u',O',s',k') ⟨by show i+1<=_;omega,l1,l2,l3,l4,w6.trans l5,l6⟩ (by show(S.kids r).length- (i+1)<(S.kids r).length- i;omega) (.of_eq ?_ rfl);have e1:IntKind.i64.wrap ((i:Int)+1)=((i+1:Nat):Int):=by rw[da (by omega) (by have:=w2.few r dV;omega)];rfl
    have e2:min (IntKind.i64.wrap (dT (1+((ts.take i).map ad.dP).sum)+dT tp.dP)) 201=dT (1+((ts.take (i+1)).map ad.dP).sum):=by
     have:=ot (t:=tp);rw[da (by unfold dT;omega) (by unfold dT;omega),htk];unfold dT;omega
    rw[e1,e2]
   ·have di:decide ((i:Int)<((S.kids r).length:Int))=false:=decide_eq_false (by omega);have hie:i=(S.kids r).length:=by omega
    have m9:dT (1+((ts.take i).map ad.dP).sum)=dT t.dP:=by rw[hie,←htl,List.take_length,←ayb.2]
    obtain⟨ks3,L3,M3,sm3⟩:=w2.se w5 (v:=dT t.dP) dV (by have:=ot (t:=t);omega);simp only[di,m9,↓OD,OA,reduceEqDiff,reduceCtorEq,reduceAdd,reduceLT,reduceLeDiff,reduceIte];refine vl w5.ob (il w2 dV) (w5.keys w2) ?_;simp only[↓OD,OA,reduceEqDiff,reduceCtorEq,reduceAdd,reduceLT,reduceLeDiff,reduceIte];refine aU (.inl rfl) ⟨u,nK s r (dT t.dP),ks3,by simp only[↓OD,OA,reduceEqDiff,reduceCtorEq,reduceAdd,reduceLT,reduceLeDiff,reduceIte],L3,w3,w4,M3,w6.trans sm3,λ g hg h=> ?_⟩;by_cases e:g=r
    ·subst e;exact⟨t,hvr,dF _ _ _⟩
    ·rw[cI _ _ e]at h⊢;exact w7 g hg h
  ·obtain⟨i,hf⟩:=M1.akx L1 dV h0;obtain⟨t',iV,pK⟩:=hA r dV h0;have:=hvr.rF iV;subst this;refine aaK oh hkb hkp hf ?_;simp only[pK,↓OD,OA,reduceEqDiff,reduceCtorEq,reduceAdd,reduceLT,reduceLeDiff,reduceIte];exact aU (.inl rfl) ⟨u1,st,ks,by simp only[↓OD,OA,reduceEqDiff,reduceCtorEq,reduceAdd,reduceLT,reduceLeDiff,reduceIte],L1,lt1,he1,M1,.of s1,hA⟩
 obtain⟨res,O',⟨bh,uH,ks',rfl,h⟩,hc⟩:=key;exact⟨bh,O',uH,ks',hc,h⟩
end Go.Proofs.Ab
