/-
  Unify of the program: how great a node's type is.
-/
import Derived.Test.YtfebhekplhjigaaWUni4
import Derived.Test.YtfebhekplhjigaaCSiz
open Nat(reduceEqDiff reduceLeDiff reduceAdd reduceLT reduceMul)
set_option linter.unusedSimpArgs false
set_option linter.unusedVariables false
namespace Go.Proofs.Ab
open Go.Ab
set_option maxRecDepth 100000
set_option maxHeartbeats 4000000
theorem amP(k:IntKind)(a b:Int)(O:List ad)(K:KT):amR .min [.v (.int k a),.v (.int k b)] O K=k1 (.v (.int k (min a b))) O K:=by
 have:(if b<a then b else a)=min a b:=by rw[Int.min_def];split<;>split<;>omega
 simp[amR,puK,xv,AV.ae,AV.ag,k1,this]
def ej(n:Nat):Int:=min (n:Int) 201
theorem m6{t:aa}:1<=ej t.dw/\ej t.dw<=201:=by have:=t.lA;unfold ej;omega
theorem wP{S:Net}{u0 bx kr:Nat->Nat}{mp:Nat}(hs:S.ok)(fZ:∀x,x<S.N->u0 x<S.N):
  ∀(m:Nat) {up:Nat->Nat} {O:List ad} {st:Nat->Int} {ks:List Nat} {x:Nat} {t:aa},cv S up bx kr O->(∀x,x<S.N->up x<S.N)->dy u0 up->lx S bx st mp ks O->x<S.N->gP S u0 x t->(∀g,g<S.N->st g≠0->∃t,gP S u0 g t/\st g=ej t.dw)->SizeOf.sizeOf t<=m->
  ∃bw O' rK ks',fE Try.prog F.eI [.ptr (bx x) 1 0 0,.own mp] O (.v (.int .i64 (ej t.dw))) O'/\cv S bw bx kr O'/\(∀x,x<S.N->bw x<S.N)/\dy u0 bw/\lx S bx rK mp ks' O'/\lS S bx mp O O'/\(∀g,g<S.N->rK g≠0->∃t,gP S u0 g t/\rK g=ej t.dw):=by
 intro m
 induction m with
 |zero=>intro up O st ks x t _ _ _ _ _ _ _ h;have:0<SizeOf.sizeOf t:=by cases t;simp;omega
        omega
 |succ m ih=>
 intro up O st ks x t hL aF he hM hx hv hA hm
 obtain⟨r,ma⟩:∃r,bI u0 x r:=by cases hv with
  |mt _ r h _=>exact⟨r,h⟩
  |node _ r _ h _ _=>exact⟨r,h⟩
 have ep:=ma.lt fZ hx;have vh:bI u0 r r:= .here r ma.root;have hvr:gP S u0 r t:=hv.eqv ⟨r,vh,ma⟩;obtain⟨u1,O1,c1,L1,s1,e1,lt1,_⟩:=lq hL aF hx (he _ _ ma);have he1:=he.trans e1;have M1:=hM.same hL s1;have hkb:=ij L1 ep;have hkp:=M1.keys L1;have mY:=M1.ob
 have key:∃res O',(∃bw rK ks',res= .v (.int .i64 (ej t.dw))/\cv S bw bx kr O'/\(∀x,x<S.N->bw x<S.N)/\dy u0 bw/\lx S bx rK mp ks' O'/\lS S bx mp O O'/\(∀g,g<S.N->rK g≠0->∃t,gP S u0 g t/\rK g=ej t.dw))/\fE Try.prog F.eI [.ptr (bx x) 1 0 0,.own mp] O res O':=by
  refine jx A.vd rfl ?_;simp only[A.eI,↓OD,OA,reduceEqDiff,reduceCtorEq];refine aD _ _ c1 ?_;simp only[↓OD,OA,reduceEqDiff,reduceCtorEq];by_cases h0:st r=0
  ·refine ai6 mY hkb hkp (M1.aoF L1 ep h0) ?_;simp only[↓OD,OA,reduceEqDiff,reduceCtorEq,reduceAdd]
   obtain⟨ts,oI,htl,ayq⟩:∃ts:List aa,(∀(i k:Nat),(S.kids r)[i]? =some k->∃t,ts[i]? =some t/\gP S u0 k t)/\ts.length=(S.kids r).length/\t.Kids=ts/\t.dw=1+(ts.map aa.dw).sum:=by
    cases hvr with
    |mt _ r' h hme=>
     have:=vh.pf h;subst this;have hk:=(hs.nC r (hs.isMeta r ep hme)).2;exact⟨[],by rw[hk];intro i k h;simp at h,by rw[hk];rfl,rfl,aa.lA _⟩
    |node _ r' ts h hme nd=>
     have:=vh.pf h;subst this;obtain⟨q1,q2⟩:=jQ.at nd;exact⟨ts,q2,q1,rfl,aa.lA _⟩
   have hB:=L1.box r ep;unfold fY at hB;simp only[hB,OA,reduceAdd,reduceLeDiff];rw[jE L1 ep];simp only[↓OD,OA,reduceEqDiff,reduceCtorEq]
   refine bd (ι:=Nat×(Nat->Nat)×List ad×(Nat->Int)×List Nat)
    (λ q=>q.1<=(S.kids r).length/\cv S q.2.1 bx kr q.2.2.1/\(∀z,z<S.N->q.2.1 z<S.N)/\dy u0 q.2.1/\lx S bx q.2.2.2.1 mp q.2.2.2.2 q.2.2.1/\lS S bx mp O q.2.2.1/\(∀g,g<S.N->q.2.2.2.1 g≠0->∃t,gP S u0 g t/\q.2.2.2.1 g=ej t.dw))
    (λ q=>jw [(0,.ptr (bx r) 1 0 0),(1,.own mp),(7,.v (.int .i64 (ej (1+((ts.take q.1).map aa.dw).sum)))),(23,lE S kr r),(24,.v (.int .i64 (S.kids r).length)),(25,.v (.int .i64 q.1))]) (λ q=>q.2.2.1) (λ q=>(S.kids r).length- q.1) (0,u1,O1,st,ks)
    ⟨Nat.zero_le _,L1,lt1,he1,M1,.of s1,hA⟩ (.of_eq rfl rfl) ?_
   rintro⟨i,u,Q,s,kk⟩ ⟨w1,w2,w3,w4,w5,w6,w7⟩;simp only at w1 w2 w3 w4 w5 w6 w7;by_cases hi:i<(S.kids r).length
   ·have di:decide ((i:Int)<((S.kids r).length:Int))=true:=decide_eq_true (by omega);obtain⟨p,hp⟩:∃p,(S.kids r)[i]? =some p:=⟨_,List.getElem?_eq_getElem hi⟩;have uw:=hs.lt r ep p (List.mem_of_getElem? hp);obtain⟨tp,htp,hvp⟩:=oI i p hp;have qp:SizeOf.sizeOf tp<SizeOf.sizeOf t:=gm (by rw[ayq.1];exact List.mem_of_getElem? htp);obtain⟨u',O',s',k',hc,l1,l2,l3,l4,l5,l6⟩:=ih w2 w3 w4 w5 uw hvp w7 (by omega);simp only[di,↓OD,OA,reduceEqDiff,reduceCtorEq];rw[mX w2 ep hi];simp only[w2.row r ep (λ e=>by rw[e]at hi;simp at hi),cU,iC hp,hi,AV.cells,↓OD,OA,reduceEqDiff,reduceCtorEq];refine aD _ _ hc ?_
    have htk:((ts.take (i+1)).map aa.dw).sum=((ts.take i).map aa.dw).sum+tp.dw:=by
     rw[List.take_add_one,htp,List.map_append,List.sum_append];simp
    simp only[amP,↓OD,OA,reduceEqDiff,reduceCtorEq];refine a6 (i+1,u',O',s',k') ⟨by show i+1<=_;omega,l1,l2,l3,l4,w6.trans l5,l6⟩ (by show(S.kids r).length- (i+1)<(S.kids r).length- i;omega) (.of_eq ?_ rfl);have e1:IntKind.i64.wrap ((i:Int)+1)=((i+1:Nat):Int):=by rw[bh (by omega) (by have:=w2.few r ep;omega)];rfl
    have e2:min (IntKind.i64.wrap (ej (1+((ts.take i).map aa.dw).sum)+ej tp.dw)) 201=ej (1+((ts.take (i+1)).map aa.dw).sum):=by
     have:=m6 (t:=tp);rw[bh (by unfold ej;omega) (by unfold ej;omega),htk];unfold ej;omega
    rw[e1,e2]
   ·have di:decide ((i:Int)<((S.kids r).length:Int))=false:=decide_eq_false (by omega);have hie:i=(S.kids r).length:=by omega
    have mf:ej (1+((ts.take i).map aa.dw).sum)=ej t.dw:=by rw[hie,←htl,List.take_length,←ayq.2]
    obtain⟨ks3,L3,M3,sm3⟩:=w2.pK w5 (v:=ej t.dw) ep (by have:=m6 (t:=t);omega);simp only[di,mf,↓OD,OA,reduceEqDiff,reduceCtorEq];refine sB w5.ob (ij w2 ep) (w5.keys w2) ?_;simp only[↓OD,OA,reduceEqDiff,reduceCtorEq];refine aY (.inl rfl) ⟨u,mE s r (ej t.dw),ks3,by simp only[OA],L3,w3,w4,M3,w6.trans sm3,λ g hg h=> ?_⟩;by_cases e:g=r
    ·subst e;exact⟨t,hvr,dT _ _ _⟩
    ·rw[cV _ _ e]at h⊢;exact w7 g hg h
  ·obtain⟨i,hf⟩:=M1.ajy L1 ep h0;obtain⟨t',km,oJ⟩:=hA r ep h0;have:=hvr.pf km;subst this;refine yK mY hkb hkp hf ?_;simp only[oJ,↓OD,OA,reduceEqDiff,reduceCtorEq,reduceAdd];exact aY (.inl rfl) ⟨u1,st,ks,by simp only[OA],L1,lt1,he1,M1,.of s1,hA⟩
 obtain⟨res,O',⟨bw,rK,ks',rfl,h⟩,hc⟩:=key;exact⟨bw,O',rK,ks',hc,h⟩
end Go.Proofs.Ab
