/-
  Unify of the program: does a node lie in itself?
-/
import Derived.Test.YtfebhekplhjigaaWUni3
import Derived.Test.YtfebhekplhjigaaPUni2
open Nat(reduceEqDiff reduceLeDiff reduceAdd reduceLT reduceMul)
set_option linter.unusedVariables false
set_option linter.unusedSimpArgs false
namespace Go.Ab
set_option maxRecDepth 100000
theorem adh{S:Net}{st:Nat->Int}{r:Nat}{v:Int}(hr:r<S.N)(h0:st r=0)(hv:v≠0):dZ S (nK st r v)<dZ S st:=by
 refine yd (c:=r) _ (by simpa using hr) (λ x _ h=> ?_) (by simpa using h0) (by simp[dF,hv]);simp only[decide_eq_true_eq]at h⊢;by_cases e:x=r
 ·subst e;exact h0
 ·rwa [cI _ _ e]at h
theorem adi{S:Net}{st uH:Nat->Int}(h:∀x,x<S.N->uH x=0->st x=0):dZ S uH<=dZ S st:=
 countP_le _ λ x hx hq=>by simp only[decide_eq_true_eq]at hq⊢;exact h x (by simpa using hx) hq
theorem kj.ex{S:Net}{up:Nat->Nat}:∀{l:List Nat},(∀k∈l,∃t,gC S up k t)->∃ts,kj S up l ts
 | [],_=>⟨[],.nil⟩
 |k::l,h=>by
  obtain⟨t,ht⟩:=h k (by simp);obtain⟨ts,uB⟩:=kj.ex (l:=l) λ q hq=>h q (by simp[hq])
  exact⟨t::ts,.cons _ _ _ _ ht uB⟩
theorem gC.ex{S:Net}{up:Nat->Nat}{r:Nat}(hr:up r=r)(h:∀k∈S.kids r,∃t,gC S up k t):∃t,gC S up r t:=by
 by_cases hm:S.mq r
 ·exact⟨_,.mt r r (.here r hr) hm⟩
 ·obtain⟨ts,uB⟩:=kj.ex h;exact⟨_,.node r r ts (.here r hr) hm uB⟩
end Go.Ab
namespace Go.Proofs.Ab
open Go.Ab
set_option maxRecDepth 100000
set_option maxHeartbeats 4000000
structure mA(S:Net)(bx:Nat->Nat)(st:Nat->Int)(mp:Nat)(ks:List Nat)(O:List aa):Prop where
 nodup:ks.Nodup
 sub:∀x∈ks,x<S.N/\st x≠0
 cov:∀x,x<S.N->st x≠0->x∈ks
 ob:O[mp]? =some (.cE (.mp (oX bx st ks)))
def mT(S:Net)(bx:Nat->Nat)(mp:Nat)(O O':List aa):Prop:=O.length<=O'.length/\∀n,n<O.length->(∀x,x<S.N->n≠bx x)->n≠mp->O'[n]? =O[n]?
theorem mT.trans{S:Net}{bx:Nat->Nat}{mp:Nat}{O O' oR:List aa}(h:mT S bx mp O O')(k:mT S bx mp O' oR):mT S bx mp O oR:=
 ⟨Nat.le_trans h.1 k.1,λ n hn hx hm=>(k.2 n (Nat.lt_of_lt_of_le hn h.1) hx hm).trans (h.2 n hn hx hm)⟩
theorem mT.of{S:Net}{bx:Nat->Nat}{mp:Nat}{O O':List aa}(h:kM S bx O O'):mT S bx mp O O':=⟨h.1,λ n hn hx _=>h.2 n hn hx⟩
section
variable {S:Net} {up bx kr:Nat->Nat} {st:Nat->Int} {mp:Nat} {ks:List Nat} {O O':List aa} {K:KT}
theorem ca.asS(hL:ca S up bx kr O)(hM:mA S bx st mp ks O){x:Nat}(hx:x<S.N):mp≠bx x:=λ e=>by
 have h1:=hM.ob;rw[e,hL.box x hx]at h1;simp[fM]at h1
theorem ca.aut(hL:ca S up bx kr O)(hM:mA S bx st mp ks O){x:Nat}(hx:x<S.N)(hk:S.kids x≠[]):mp≠kr x:=λ e=>by
 have h1:=hM.ob;rw[e,hL.row x hx hk]at h1;simp at h1
theorem mA.same(hL:ca S up bx kr O)(hM:mA S bx st mp ks O)(h:kM S bx O O'):mA S bx st mp ks O':=
 ⟨hM.nodup,hM.sub,hM.cov,by rw[h.2 mp (List.getElem?_eq_some_iff.1 hM.ob).1 λ x hx=>hL.asS hM hx];exact hM.ob⟩
theorem mA.keys(hL:ca S up bx kr O)(hM:mA S bx st mp ks O):jq O (oX bx st ks)=true:=by
 unfold jq oX;rw[List.all_eq_true];intro p hp;obtain⟨x,hx,rfl⟩:=List.mem_map.1 hp;exact il hL (hM.sub x hx).1
theorem ca.se(hL:ca S up bx kr O)(hM:mA S bx st mp ks O){r:Nat}{v:Int}(hr:r<S.N)(hv:v≠0):∃ks',ca S up bx kr (O.set mp (.cE (.mp (lh (bx r) (.v (.int .i64 v)) (oX bx st ks)))))/\mA S bx (nK st r v) mp ks' (O.set mp (.cE (.mp (lh (bx r) (.v (.int .i64 v)) (oX bx st ks)))))/\mT S bx mp O (O.set mp (.cE (.mp (lh (bx r) (.v (.int .i64 v)) (oX bx st ks))))):=by
 have oW:=(List.getElem?_eq_some_iff.1 hM.ob).1;have zw:∀y∈ks,bx y=bx r->y=r:=λ y hy e=>hL.inj y r (hM.sub y hy).1 hr e
 have ayE:∀v,ca S up bx kr (O.set mp v):=λ v=>hL.move λ x hx=>⟨List.getElem?_set_ne (hL.asS hM hx),λ hk=>List.getElem?_set_ne (hL.aut hM hx hk)⟩
 have hsm:∀v,mT S bx mp O (O.set mp v):=λ v=>⟨by simp,λ n _ _ hn=>List.getElem?_set_ne (λ e=>hn e.symm)⟩
 by_cases hrk:r∈ks
 ·refine⟨ks,ayE _,⟨hM.nodup,λ x hx=>⟨(hM.sub x hx).1,?_⟩,λ x hx h=> ?_,?_⟩,hsm _⟩
  ·by_cases e:x=r
   ·subst e;rw[dF];exact hv
   ·rw[cI _ _ e];exact(hM.sub x hx).2
  ·by_cases e:x=r
   ·subst e;exact hrk
   ·rw[cI _ _ e]at h;exact hM.cov x hx h
  ·rw[List.getElem?_set_self oW,anN hM.nodup hrk zw]
 ·refine⟨ks++ [r],ayE _,⟨?_,λ x hx=> ?_,λ x hx h=> ?_,?_⟩,hsm _⟩
  ·rw[List.nodup_append];exact⟨hM.nodup,by simp,λ a ha b hb=>by rw[List.mem_singleton.1 hb];exact λ e=>hrk (e▸ha)⟩
  ·rcases List.mem_append.1 hx with h|h
   ·have e:x≠r:=λ e=>hrk (e▸h)
    exact⟨(hM.sub x h).1,by rw[cI _ _ e];exact(hM.sub x h).2⟩
   ·rw[List.mem_singleton.1 h];exact⟨hr,by rw[dF];exact hv⟩
  ·by_cases e:x=r
   ·subst e;simp
   ·rw[cI _ _ e]at h;simp[hM.cov x hx h]
  ·rw[List.getElem?_set_self oW,anO hrk zw]
theorem mA.apl(hL:ca S up bx kr O)(hM:mA S bx st mp ks O){r:Nat}(hr:r<S.N)(h:st r=0):hF (bx r) (oX bx st ks) 0=none:=
 aaL λ y hy e=>by
  have:=hL.inj y r (hM.sub y hy).1 hr e;subst this;exact(hM.sub y hy).2 h
theorem mA.akx(hL:ca S up bx kr O)(hM:mA S bx st mp ks O){r:Nat}(hr:r<S.N)(h:st r≠0):∃i,hF (bx r) (oX bx st ks) 0=some (i,.v (.int .i64 (st r))):=by
 obtain⟨k,h1,_⟩:=aaM (bx:=bx) (st:=st) (x:=r) (ks:=ks) (i:=0) (hM.cov r hr h) λ y hy e=>hL.inj y r (hM.sub y hy).1 hr e
 exact⟨_,h1⟩
end
structure atw(S:Net)(u0:Nat->Nat)(st:Nat->Int)(x:Nat):Prop where
 azd:∀g,g<S.N->st g=1->Dn S u0 g x
 black:∀g,g<S.N->st g=2->∃t,gC S u0 g t
 rng:∀g,g<S.N->st g=0∨st g=1∨st g=2
theorem abw{S:Net}{u0 bx kr:Nat->Nat}{mp:Nat}(hs:S.ok)(dv:∀x,x<S.N->u0 x<S.N)(aes:∀x,x<S.N->∃r,bw u0 x r):
  ∀(m:Nat) {up:Nat->Nat} {O:List aa} {st:Nat->Int} {ks:List Nat} {x:Nat},ca S up bx kr O->(∀x,x<S.N->up x<S.N)->df u0 up->mA S bx st mp ks O->x<S.N->atw S u0 st x->dZ S st<=m->
  ∃bh O' uH ks' res,cF Try.prog F.fb [.ptr (bx x) 1 0 0,.own mp] O (.v (.bool res)) O'/\ca S bh bx kr O'/\(∀x,x<S.N->bh x<S.N)/\df u0 bh/\mA S bx uH mp ks' O'/\mT S bx mp O O'/\
   (res=true->∃z,z<S.N/\Dn S u0 z z)/\(res=false->(∃t,gC S u0 x t)/\(∀g,g<S.N->(uH g=1↔st g=1))/\(∀g,g<S.N->uH g=2->∃t,gC S u0 g t)/\(∀g,g<S.N->uH g=0∨uH g=1∨uH g=2)/\dZ S uH<=dZ S st):=by
 intro m
 induction m using Nat.strongRecOn with
 |_ m ih=>
 intro up O st ks x hL aw he hM hx hA hm;obtain⟨r,mG⟩:=aes x hx;have dV:=mG.lt dv hx;have xX:bw u0 r r:= .here r mG.root;obtain⟨u1,O1,c1,L1,s1,e1,lt1,_⟩:=mu hL aw hx (he _ _ mG);have he1:=he.trans e1;have M1:=hM.same hL s1;have hkb:=il L1 dV;have hkp:=M1.keys L1;have oh:=M1.ob
 have key:∃res O',(∃bh uH ks' ok,res= .v (.bool ok)/\ca S bh bx kr O'/\(∀x,x<S.N->bh x<S.N)/\df u0 bh/\mA S bx uH mp ks' O'/\mT S bx mp O O'/\
   (ok=true->∃z,z<S.N/\Dn S u0 z z)/\(ok=false->(∃t,gC S u0 x t)/\(∀g,g<S.N->(uH g=1↔st g=1))/\(∀g,g<S.N->uH g=2->∃t,gC S u0 g t)/\(∀g,g<S.N->uH g=0∨uH g=1∨uH g=2)/\dZ S uH<=dZ S st))/\cF Try.prog F.fb [.ptr (bx x) 1 0 0,.own mp] O res O':=by
  refine jM A.zk rfl ?_;simp only[A.fb,↓OD,OA,reduceEqDiff,reduceCtorEq,reduceAdd,reduceLT,reduceLeDiff,reduceIte];refine aj _ _ c1 ?_;simp only[↓OD,OA,reduceEqDiff,reduceCtorEq,reduceAdd,reduceLT,reduceLeDiff,reduceIte];by_cases h0:st r=0
  ·refine aj5 oh hkb hkp (M1.apl L1 dV h0) ?_;simp only[↓OD,OA,reduceEqDiff,reduceCtorEq,reduceAdd,reduceLT,reduceLeDiff,reduceIte];refine vl oh hkb hkp ?_;obtain⟨ks2,L2,M2,sm2⟩:=L1.se M1 (v:=1) dV (by decide);generalize O1.set mp (.cE (.mp (lh (bx r) (.v (.int .i64 1)) (oX bx st ks))))=O2 at L2 M2 sm2⊢;have hB:=L2.box r dV;unfold fM at hB;simp only[hB,↓OD,OA,reduceEqDiff,reduceCtorEq,reduceAdd,reduceLT,reduceLeDiff,reduceIte];rw[j0 L2 dV];simp only[↓OD,OA,reduceEqDiff,reduceCtorEq,reduceAdd,reduceLT,reduceLeDiff,reduceIte]
   refine aQ (ι:=Nat×(Nat->Nat)×List aa×(Nat->Int)×List Nat)
    (λ q=>q.1<=(S.kids r).length/\ca S q.2.1 bx kr q.2.2.1/\(∀z,z<S.N->q.2.1 z<S.N)/\df u0 q.2.1/\mA S bx q.2.2.2.1 mp q.2.2.2.2 q.2.2.1/\mT S bx mp O q.2.2.1/\(∀g,g<S.N->(q.2.2.2.1 g=1↔st g=1∨g=r))/\(∀g,g<S.N->q.2.2.2.1 g=2->∃t,gC S u0 g t)/\(∀g,g<S.N->q.2.2.2.1 g=0∨q.2.2.2.1 g=1∨q.2.2.2.1 g=2)/\dZ S q.2.2.2.1<dZ S st/\∀(j k:Nat),j<q.1->(S.kids r)[j]? =some k->∃t,gC S u0 k t)
    (λ q=>iA [(0,.ptr (bx r) 1 0 0),(1,.own mp),(22,mF S kr r),(23,.v (.int .i64 (S.kids r).length)),(24,.v (.int .i64 q.1))]) (λ q=>q.2.2.1) (λ q=>(S.kids r).length- q.1) (0,u1,O2,nK st r 1,ks2)
    ⟨Nat.zero_le _,L2,lt1,he1,M2,(mT.of s1).trans sm2,λ g hg=> ?_,λ g hg h=> ?_,λ g hg=> ?_,adh dV h0 (by decide),λ j k hj=>by simp at hj⟩ (.of_eq rfl rfl) ?_
   ·by_cases e:g=r
    ·subst e;simp[dF]
    ·simp only[cI _ _ e,e,or_false]
   ·by_cases e:g=r
    ·subst e;simp[dF]at h
    ·simp only[cI _ _ e]at h;exact hA.black g hg h
   ·by_cases e:g=r
    ·subst e;simp[dF]
    ·simp only[cI _ _ e];exact hA.rng g hg
   rintro⟨i,u,Q,s,kk⟩ ⟨w1,w2,w3,w4,w5,w6,w7,w8,w9,w10,w11⟩;simp only at w1 w2 w3 w4 w5 w6 w7 w8 w9 w10 w11;by_cases hi:i<(S.kids r).length
   ·have di:decide ((i:Int)<((S.kids r).length:Int))=true:=decide_eq_true (by omega);obtain⟨p,hp⟩:∃p,(S.kids r)[i]? =some p:=⟨_,List.getElem?_eq_getElem hi⟩;have hpm:=List.mem_of_getElem? hp;have sn:=hs.lt r dV p hpm
    have hnm:¬S.mq r:=λ h=>by
     have:=(hs.pj r (hs.isMeta r dV h)).2;rw[this]at hpm;simp at hpm
    have hA':atw S u0 s p:=⟨λ g hg h=>by
     obtain⟨rp,hrp⟩:=aes p sn;have hd:Dn S u0 r p:= .za r r p p xX hnm hpm ⟨rp,hrp,hrp⟩;rcases(w7 g hg).1 h with h|h
     ·exact .trans _ _ _ ((hA.azd g hg h).eqv ⟨r,mG,xX⟩) hd
     ·subst h;exact hd,w8,w9⟩
    obtain⟨u',O',s',k',res,hc,l1,l2,l3,l4,l5,l6,l7⟩:=ih (dZ S s) (by omega) w2 w3 w4 w5 sn hA' (Nat.le_refl _);simp only[di,↓OD,OA,reduceEqDiff,reduceCtorEq,reduceAdd,reduceLT,reduceLeDiff,reduceIte];rw[og w2 dV hi];simp only[w2.row r dV (λ e=>by rw[e]at hi;simp at hi),cG,iK hp,hi,AV.cells,↓OD,OA,reduceEqDiff,reduceCtorEq,reduceAdd,reduceLT,reduceLeDiff,reduceIte];refine aj _ _ hc ?_;cases res with
    |true=>
     simp only[↓OD,OA,reduceEqDiff,reduceCtorEq,reduceAdd,reduceLT,reduceLeDiff,reduceIte];exact aU (.inl rfl) ⟨u',s',k',true,by simp only[↓OD,OA,reduceEqDiff,reduceCtorEq,reduceAdd,reduceLT,reduceLeDiff,reduceIte],l1,l2,l3,l4,w6.trans l5,λ _=>l6 rfl,λ h=>by cases h⟩
    |false=>
     obtain⟨⟨t,ht⟩,g1,g2,g3,g4⟩:=l7 rfl;simp only[↓OD,OA,reduceEqDiff,reduceCtorEq,reduceAdd,reduceLT,reduceLeDiff,reduceIte];refine aL (i+1,u',O',s',k') ⟨by show i+1<=_;omega,l1,l2,l3,l4,w6.trans l5,λ g hg=>(g1 g hg).trans (w7 g hg),g2,g3,by show dZ S s'<_;omega,λ j k hj hk=> ?_⟩ (by show(S.kids r).length- (i+1)<(S.kids r).length- i;omega) (.of_eq (by rw[da (by omega) (by have:=w2.few r dV;omega)];rfl) rfl);by_cases e:j=i
     ·subst e;rw[hp]at hk;cases hk;exact⟨t,ht⟩
     ·exact w11 j k (by simp only at hj;omega) hk
   ·have di:decide ((i:Int)<((S.kids r).length:Int))=false:=decide_eq_false (by omega);obtain⟨ks3,L3,M3,sm3⟩:=w2.se w5 (v:=2) dV (by decide)
    have qn:∃t,gC S u0 r t:=gC.ex mG.root λ k hk=>by
     obtain⟨j,hj⟩:=List.getElem?_of_mem hk;exact w11 j k (by have:=(List.getElem?_eq_some_iff.1 hj).1;omega) hj
    simp only[di,↓OD,OA,reduceEqDiff,reduceCtorEq,reduceAdd,reduceLT,reduceLeDiff,reduceIte];refine vl w5.ob (il w2 dV) (w5.keys w2) ?_;simp only[↓OD,OA,reduceEqDiff,reduceCtorEq,reduceAdd,reduceLT,reduceLeDiff,reduceIte];refine aU (.inl rfl) ⟨u,nK s r 2,ks3,false,by simp only[↓OD,OA,reduceEqDiff,reduceCtorEq,reduceAdd,reduceLT,reduceLeDiff,reduceIte],L3,w3,w4,M3,w6.trans sm3,λ h=>(by cases h),λ _=>⟨?_,λ g hg=> ?_,λ g hg h=> ?_,λ g hg=> ?_,?_⟩⟩
    ·obtain⟨t,ht⟩:=qn;exact⟨t,ht.eqv ⟨r,mG,xX⟩⟩
    ·by_cases e:g=r
     ·subst e;rw[dF,h0];decide
     ·rw[cI _ _ e,w7 g hg];simp only[e,or_false]
    ·by_cases e:g=r
     ·subst e;exact qn
     ·rw[cI _ _ e]at h;exact w8 g hg h
    ·by_cases e:g=r
     ·subst e;rw[dF];exact .inr (.inr rfl)
     ·rw[cI _ _ e];exact w9 g hg
    ·have:=adi (S:=S) (st:=s) (uH:=nK s r 2) λ z hz h=>by
       by_cases e:z=r
       ·subst e;rw[dF]at h;exact absurd h (by decide)
       ·rwa [cI _ _ e]at h
     omega
  ·obtain⟨i,hf⟩:=M1.akx L1 dV h0;have d0:decide (st r=0)=false:=decide_eq_false h0;refine aaK oh hkb hkp hf ?_;simp only[d0,↓OD,OA,reduceEqDiff,reduceCtorEq,reduceAdd,reduceLT,reduceLeDiff,reduceIte];refine aaK oh hkb hkp hf ?_;simp only[↓OD,OA,reduceEqDiff,reduceCtorEq,reduceAdd,reduceLT,reduceLeDiff,reduceIte];refine aU (.inl rfl) ⟨u1,st,ks,decide (st r=1),by simp only[↓OD,OA,reduceEqDiff,reduceCtorEq,reduceAdd,reduceLT,reduceLeDiff,reduceIte],L1,lt1,he1,M1,.of s1,λ h=>⟨r,dV,(hA.azd r dV (of_decide_eq_true h)).eqv ⟨r,mG,xX⟩⟩,λ h=>⟨?_,λ _ _=>Iff.rfl,hA.black,hA.rng,Nat.le_refl _⟩⟩;have h1:=of_decide_eq_false h;rcases hA.rng r dV with h|h|h
   ·exact(h0 h).elim
   ·exact(h1 h).elim
   ·obtain⟨t,ht⟩:=hA.black r dV h;exact⟨t,ht.eqv ⟨r,mG,xX⟩⟩
 obtain⟨res,O',⟨bh,uH,ks',ok,rfl,h⟩,hc⟩:=key;exact⟨bh,O',uH,ks',ok,hc,h⟩
end Go.Proofs.Ab
