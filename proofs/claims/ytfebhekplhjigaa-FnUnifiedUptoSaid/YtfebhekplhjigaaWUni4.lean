/-
  Unify of the program: does a node lie in itself?
-/
import Derived.Test.YtfebhekplhjigaaWUni3
import Derived.Test.YtfebhekplhjigaaPUni2
open Nat(reduceEqDiff reduceLeDiff reduceAdd reduceLT reduceMul)
set_option linter.unusedSimpArgs false
set_option linter.unusedVariables false
namespace Go.Ab
set_option maxRecDepth 100000
theorem abu{S:Net}{st:Nat->Int}{r:Nat}{v:Int}(hr:r<S.N)(h0:st r=0)(hv:v≠0):eA S (mE st r v)<eA S st:=by
 refine vv (c:=r) _ (by simpa using hr) (λ x _ h=> ?_) (by simpa using h0) (by simp[dT,hv]);simp only[decide_eq_true_eq]at h⊢;by_cases e:x=r
 ·subst e;exact h0
 ·rwa [cV _ _ e]at h
theorem abv{S:Net}{st rK:Nat->Int}(h:∀x,x<S.N->rK x=0->st x=0):eA S rK<=eA S st:=
 countP_le _ λ x hx hq=>by simp only[decide_eq_true_eq]at hq⊢;exact h x (by simpa using hx) hq
theorem jQ.ex{S:Net}{up:Nat->Nat}:∀{l:List Nat},(∀k∈l,∃t,gP S up k t)->∃ts,jQ S up l ts
 | [],_=>⟨[],.nil⟩
 |k::l,h=>by
  obtain⟨t,ht⟩:=h k (by simp);obtain⟨ts,oI⟩:=jQ.ex (l:=l) λ q hq=>h q (by simp[hq])
  exact⟨t::ts,.cons _ _ _ _ ht oI⟩
theorem gP.ex{S:Net}{up:Nat->Nat}{r:Nat}(hr:up r=r)(h:∀k∈S.kids r,∃t,gP S up k t):∃t,gP S up r t:=by
 by_cases hm:S.lh r
 ·exact⟨_,.mt r r (.here r hr) hm⟩
 ·obtain⟨ts,oI⟩:=jQ.ex h;exact⟨_,.node r r ts (.here r hr) hm oI⟩
end Go.Ab
namespace Go.Proofs.Ab
open Go.Ab
set_option maxRecDepth 100000
set_option maxHeartbeats 4000000
structure lx(S:Net)(bx:Nat->Nat)(st:Nat->Int)(mp:Nat)(ks:List Nat)(O:List ad):Prop where
 nodup:ks.Nodup
 sub:∀x∈ks,x<S.N/\st x≠0
 cov:∀x,x<S.N->st x≠0->x∈ks
 ob:O[mp]? =some (.cZ (.mp (ni bx st ks)))
def lS(S:Net)(bx:Nat->Nat)(mp:Nat)(O O':List ad):Prop:=O.length<=O'.length/\∀n,n<O.length->(∀x,x<S.N->n≠bx x)->n≠mp->O'[n]? =O[n]?
theorem lS.trans{S:Net}{bx:Nat->Nat}{mp:Nat}{O O' nc:List ad}(h:lS S bx mp O O')(k:lS S bx mp O' nc):lS S bx mp O nc:=
 ⟨Nat.le_trans h.1 k.1,λ n hn hx hm=>(k.2 n (Nat.lt_of_lt_of_le hn h.1) hx hm).trans (h.2 n hn hx hm)⟩
theorem lS.of{S:Net}{bx:Nat->Nat}{mp:Nat}{O O':List ad}(h:ke S bx O O'):lS S bx mp O O':=⟨h.1,λ n hn hx _=>h.2 n hn hx⟩
section
variable {S:Net} {up bx kr:Nat->Nat} {st:Nat->Int} {mp:Nat} {ks:List Nat} {O O':List ad} {K:KT}
theorem cv.asM(hL:cv S up bx kr O)(hM:lx S bx st mp ks O){x:Nat}(hx:x<S.N):mp≠bx x:=λ e=>by
 have h1:=hM.ob;rw[e,hL.box x hx]at h1;simp[fY]at h1
theorem cv.auv(hL:cv S up bx kr O)(hM:lx S bx st mp ks O){x:Nat}(hx:x<S.N)(hk:S.kids x≠[]):mp≠kr x:=λ e=>by
 have h1:=hM.ob;rw[e,hL.row x hx hk]at h1;simp at h1
theorem lx.same(hL:cv S up bx kr O)(hM:lx S bx st mp ks O)(h:ke S bx O O'):lx S bx st mp ks O':=
 ⟨hM.nodup,hM.sub,hM.cov,by rw[h.2 mp (List.getElem?_eq_some_iff.1 hM.ob).1 λ x hx=>hL.asM hM hx];exact hM.ob⟩
theorem lx.keys(hL:cv S up bx kr O)(hM:lx S bx st mp ks O):jc O (ni bx st ks)=true:=by
 unfold jc ni;rw[List.all_eq_true];intro p hp;obtain⟨x,hx,rfl⟩:=List.mem_map.1 hp;exact ij hL (hM.sub x hx).1
theorem cv.pK(hL:cv S up bx kr O)(hM:lx S bx st mp ks O){r:Nat}{v:Int}(hr:r<S.N)(hv:v≠0):∃ks',cv S up bx kr (O.set mp (.cZ (.mp (kE (bx r) (.v (.int .i64 v)) (ni bx st ks)))))/\lx S bx (mE st r v) mp ks' (O.set mp (.cZ (.mp (kE (bx r) (.v (.int .i64 v)) (ni bx st ks)))))/\lS S bx mp O (O.set mp (.cZ (.mp (kE (bx r) (.v (.int .i64 v)) (ni bx st ks))))):=by
 have mc:=(List.getElem?_eq_some_iff.1 hM.ob).1;have xh:∀y∈ks,bx y=bx r->y=r:=λ y hy e=>hL.inj y r (hM.sub y hy).1 hr e
 have ayU:∀v,cv S up bx kr (O.set mp v):=λ v=>hL.move λ x hx=>⟨List.getElem?_set_ne (hL.asM hM hx),λ hk=>List.getElem?_set_ne (hL.auv hM hx hk)⟩
 have hsm:∀v,lS S bx mp O (O.set mp v):=λ v=>⟨by simp,λ n _ _ hn=>List.getElem?_set_ne (λ e=>hn e.symm)⟩
 by_cases hrk:r∈ks
 ·refine⟨ks,ayU _,⟨hM.nodup,λ x hx=>⟨(hM.sub x hx).1,?_⟩,λ x hx h=> ?_,?_⟩,hsm _⟩
  ·by_cases e:x=r
   ·subst e;rw[dT];exact hv
   ·rw[cV _ _ e];exact(hM.sub x hx).2
  ·by_cases e:x=r
   ·subst e;exact hrk
   ·rw[cV _ _ e]at h;exact hM.cov x hx h
  ·rw[List.getElem?_set_self mc,amS hM.nodup hrk xh]
 ·refine⟨ks++ [r],ayU _,⟨?_,λ x hx=> ?_,λ x hx h=> ?_,?_⟩,hsm _⟩
  ·rw[List.nodup_append];exact⟨hM.nodup,by simp,λ a ha b hb=>by rw[List.mem_singleton.1 hb];exact λ e=>hrk (e▸ha)⟩
  ·rcases List.mem_append.1 hx with h|h
   ·have e:x≠r:=λ e=>hrk (e▸h)
    exact⟨(hM.sub x h).1,by rw[cV _ _ e];exact(hM.sub x h).2⟩
   ·rw[List.mem_singleton.1 h];exact⟨hr,by rw[dT];exact hv⟩
  ·by_cases e:x=r
   ·subst e;simp
   ·rw[cV _ _ e]at h;simp[hM.cov x hx h]
  ·rw[List.getElem?_set_self mc,amT hrk xh]
theorem lx.aoF(hL:cv S up bx kr O)(hM:lx S bx st mp ks O){r:Nat}(hr:r<S.N)(h:st r=0):ic (bx r) (ni bx st ks) 0=none:=
 yL λ y hy e=>by
  have:=hL.inj y r (hM.sub y hy).1 hr e;subst this;exact(hM.sub y hy).2 h
theorem lx.ajy(hL:cv S up bx kr O)(hM:lx S bx st mp ks O){r:Nat}(hr:r<S.N)(h:st r≠0):∃i,ic (bx r) (ni bx st ks) 0=some (i,.v (.int .i64 (st r))):=by
 obtain⟨k,h1,_⟩:=yM (bx:=bx) (st:=st) (x:=r) (ks:=ks) (i:=0) (hM.cov r hr h) λ y hy e=>hL.inj y r (hM.sub y hy).1 hr e
 exact⟨_,h1⟩
end
structure atq(S:Net)(u0:Nat->Nat)(st:Nat->Int)(x:Nat):Prop where
 azo:∀g,g<S.N->st g=1->Dn S u0 g x
 black:∀g,g<S.N->st g=2->∃t,gP S u0 g t
 rng:∀g,g<S.N->st g=0∨st g=1∨st g=2
theorem zw{S:Net}{u0 bx kr:Nat->Nat}{mp:Nat}(hs:S.ok)(fZ:∀x,x<S.N->u0 x<S.N)(acC:∀x,x<S.N->∃r,bI u0 x r):
  ∀(m:Nat) {up:Nat->Nat} {O:List ad} {st:Nat->Int} {ks:List Nat} {x:Nat},cv S up bx kr O->(∀x,x<S.N->up x<S.N)->dy u0 up->lx S bx st mp ks O->x<S.N->atq S u0 st x->eA S st<=m->
  ∃bw O' rK ks' res,fE Try.prog F.fm [.ptr (bx x) 1 0 0,.own mp] O (.v (.bool res)) O'/\cv S bw bx kr O'/\(∀x,x<S.N->bw x<S.N)/\dy u0 bw/\lx S bx rK mp ks' O'/\lS S bx mp O O'/\
   (res=true->∃z,z<S.N/\Dn S u0 z z)/\(res=false->(∃t,gP S u0 x t)/\(∀g,g<S.N->(rK g=1↔st g=1))/\(∀g,g<S.N->rK g=2->∃t,gP S u0 g t)/\(∀g,g<S.N->rK g=0∨rK g=1∨rK g=2)/\eA S rK<=eA S st):=by
 intro m
 induction m using Nat.strongRecOn with
 |_ m ih=>
 intro up O st ks x hL aF he hM hx hA hm;obtain⟨r,ma⟩:=acC x hx;have ep:=ma.lt fZ hx;have vh:bI u0 r r:= .here r ma.root;obtain⟨u1,O1,c1,L1,s1,e1,lt1,_⟩:=lq hL aF hx (he _ _ ma);have he1:=he.trans e1;have M1:=hM.same hL s1;have hkb:=ij L1 ep;have hkp:=M1.keys L1;have mY:=M1.ob
 have key:∃res O',(∃bw rK ks' ok,res= .v (.bool ok)/\cv S bw bx kr O'/\(∀x,x<S.N->bw x<S.N)/\dy u0 bw/\lx S bx rK mp ks' O'/\lS S bx mp O O'/\
   (ok=true->∃z,z<S.N/\Dn S u0 z z)/\(ok=false->(∃t,gP S u0 x t)/\(∀g,g<S.N->(rK g=1↔st g=1))/\(∀g,g<S.N->rK g=2->∃t,gP S u0 g t)/\(∀g,g<S.N->rK g=0∨rK g=1∨rK g=2)/\eA S rK<=eA S st))/\fE Try.prog F.fm [.ptr (bx x) 1 0 0,.own mp] O res O':=by
  refine jx A.wU rfl ?_;simp only[A.fm,↓OD,OA,reduceEqDiff,reduceCtorEq];refine aD _ _ c1 ?_;simp only[↓OD,OA,reduceEqDiff,reduceCtorEq];by_cases h0:st r=0
  ·refine ai6 mY hkb hkp (M1.aoF L1 ep h0) ?_;simp only[↓OD,OA,reduceEqDiff,reduceCtorEq];refine sB mY hkb hkp ?_;obtain⟨ks2,L2,M2,sm2⟩:=L1.pK M1 (v:=1) ep (by decide);generalize O1.set mp (.cZ (.mp (kE (bx r) (.v (.int .i64 1)) (ni bx st ks))))=O2 at L2 M2 sm2⊢;have hB:=L2.box r ep;unfold fY at hB;simp only[hB,↓OD,OA,reduceEqDiff,reduceCtorEq,reduceAdd,reduceLeDiff];rw[jE L2 ep];simp only[↓OD,OA,reduceEqDiff,reduceCtorEq]
   refine bd (ι:=Nat×(Nat->Nat)×List ad×(Nat->Int)×List Nat)
    (λ q=>q.1<=(S.kids r).length/\cv S q.2.1 bx kr q.2.2.1/\(∀z,z<S.N->q.2.1 z<S.N)/\dy u0 q.2.1/\lx S bx q.2.2.2.1 mp q.2.2.2.2 q.2.2.1/\lS S bx mp O q.2.2.1/\(∀g,g<S.N->(q.2.2.2.1 g=1↔st g=1∨g=r))/\(∀g,g<S.N->q.2.2.2.1 g=2->∃t,gP S u0 g t)/\(∀g,g<S.N->q.2.2.2.1 g=0∨q.2.2.2.1 g=1∨q.2.2.2.1 g=2)/\eA S q.2.2.2.1<eA S st/\∀(j k:Nat),j<q.1->(S.kids r)[j]? =some k->∃t,gP S u0 k t)
    (λ q=>jw [(0,.ptr (bx r) 1 0 0),(1,.own mp),(22,lE S kr r),(23,.v (.int .i64 (S.kids r).length)),(24,.v (.int .i64 q.1))]) (λ q=>q.2.2.1) (λ q=>(S.kids r).length- q.1) (0,u1,O2,mE st r 1,ks2)
    ⟨Nat.zero_le _,L2,lt1,he1,M2,(lS.of s1).trans sm2,λ g hg=> ?_,λ g hg h=> ?_,λ g hg=> ?_,abu ep h0 (by decide),λ j k hj=>by simp at hj⟩ (.of_eq rfl rfl) ?_
   ·by_cases e:g=r
    ·subst e;simp[dT]
    ·simp only[cV _ _ e,e,or_false]
   ·by_cases e:g=r
    ·subst e;simp[dT]at h
    ·simp only[cV _ _ e]at h;exact hA.black g hg h
   ·by_cases e:g=r
    ·subst e;simp[dT]
    ·simp only[cV _ _ e];exact hA.rng g hg
   rintro⟨i,u,Q,s,kk⟩ ⟨w1,w2,w3,w4,w5,w6,w7,w8,w9,w10,w11⟩;simp only at w1 w2 w3 w4 w5 w6 w7 w8 w9 w10 w11;by_cases hi:i<(S.kids r).length
   ·have di:decide ((i:Int)<((S.kids r).length:Int))=true:=decide_eq_true (by omega);obtain⟨p,hp⟩:∃p,(S.kids r)[i]? =some p:=⟨_,List.getElem?_eq_getElem hi⟩;have hpm:=List.mem_of_getElem? hp;have uw:=hs.lt r ep p hpm
    have hnm:¬S.lh r:=λ h=>by
     have:=(hs.nC r (hs.isMeta r ep h)).2;rw[this]at hpm;simp at hpm
    have hA':atq S u0 s p:=⟨λ g hg h=>by
     obtain⟨rp,hrp⟩:=acC p uw;have hd:Dn S u0 r p:= .wK r r p p vh hnm hpm ⟨rp,hrp,hrp⟩;rcases(w7 g hg).1 h with h|h
     ·exact .trans _ _ _ ((hA.azo g hg h).eqv ⟨r,ma,vh⟩) hd
     ·subst h;exact hd,w8,w9⟩
    obtain⟨u',O',s',k',res,hc,l1,l2,l3,l4,l5,l6,l7⟩:=ih (eA S s) (by omega) w2 w3 w4 w5 uw hA' (Nat.le_refl _);simp only[di,↓OD,OA,reduceEqDiff,reduceCtorEq];rw[mX w2 ep hi];simp only[w2.row r ep (λ e=>by rw[e]at hi;simp at hi),cU,iC hp,hi,AV.cells,↓OD,OA,reduceEqDiff,reduceCtorEq];refine aD _ _ hc ?_;cases res with
    |true=>
     simp only[↓OD,OA,reduceEqDiff,reduceCtorEq];exact aY (.inl rfl) ⟨u',s',k',true,by simp only[OA],l1,l2,l3,l4,w6.trans l5,λ _=>l6 rfl,λ h=>by cases h⟩
    |false=>
     obtain⟨⟨t,ht⟩,g1,g2,g3,g4⟩:=l7 rfl;simp only[↓OD,OA,reduceEqDiff,reduceCtorEq];refine a6 (i+1,u',O',s',k') ⟨by show i+1<=_;omega,l1,l2,l3,l4,w6.trans l5,λ g hg=>(g1 g hg).trans (w7 g hg),g2,g3,by show eA S s'<_;omega,λ j k hj hk=> ?_⟩ (by show(S.kids r).length- (i+1)<(S.kids r).length- i;omega) (.of_eq (by rw[bh (by omega) (by have:=w2.few r ep;omega)];rfl) rfl);by_cases e:j=i
     ·subst e;rw[hp]at hk;cases hk;exact⟨t,ht⟩
     ·exact w11 j k (by simp only at hj;omega) hk
   ·have di:decide ((i:Int)<((S.kids r).length:Int))=false:=decide_eq_false (by omega);obtain⟨ks3,L3,M3,sm3⟩:=w2.pK w5 (v:=2) ep (by decide)
    have vg:∃t,gP S u0 r t:=gP.ex ma.root λ k hk=>by
     obtain⟨j,hj⟩:=List.getElem?_of_mem hk;exact w11 j k (by have:=(List.getElem?_eq_some_iff.1 hj).1;omega) hj
    simp only[di,↓OD,OA,reduceEqDiff,reduceCtorEq];refine sB w5.ob (ij w2 ep) (w5.keys w2) ?_;simp only[↓OD,OA];refine aY (.inl rfl) ⟨u,mE s r 2,ks3,false,by simp only[OA],L3,w3,w4,M3,w6.trans sm3,λ h=>(by cases h),λ _=>⟨?_,λ g hg=> ?_,λ g hg h=> ?_,λ g hg=> ?_,?_⟩⟩
    ·obtain⟨t,ht⟩:=vg;exact⟨t,ht.eqv ⟨r,ma,vh⟩⟩
    ·by_cases e:g=r
     ·subst e;rw[dT,h0];decide
     ·rw[cV _ _ e,w7 g hg];simp only[e,or_false]
    ·by_cases e:g=r
     ·subst e;exact vg
     ·rw[cV _ _ e]at h;exact w8 g hg h
    ·by_cases e:g=r
     ·subst e;rw[dT];exact .inr (.inr rfl)
     ·rw[cV _ _ e];exact w9 g hg
    ·have:=abv (S:=S) (st:=s) (rK:=mE s r 2) λ z hz h=>by
       by_cases e:z=r
       ·subst e;rw[dT]at h;exact absurd h (by decide)
       ·rwa [cV _ _ e]at h
     omega
  ·obtain⟨i,hf⟩:=M1.ajy L1 ep h0;have d0:decide (st r=0)=false:=decide_eq_false h0;refine yK mY hkb hkp hf ?_;simp only[d0,↓OD,OA,reduceEqDiff,reduceCtorEq];refine yK mY hkb hkp hf ?_;simp only[↓OD,OA,reduceEqDiff,reduceCtorEq];refine aY (.inl rfl) ⟨u1,st,ks,decide (st r=1),by simp only[OA],L1,lt1,he1,M1,.of s1,λ h=>⟨r,ep,(hA.azo r ep (of_decide_eq_true h)).eqv ⟨r,ma,vh⟩⟩,λ h=>⟨?_,λ _ _=>Iff.rfl,hA.black,hA.rng,Nat.le_refl _⟩⟩;have h1:=of_decide_eq_false h;rcases hA.rng r ep with h|h|h
   ·exact(h0 h).elim
   ·exact(h1 h).elim
   ·obtain⟨t,ht⟩:=hA.black r ep h;exact⟨t,ht.eqv ⟨r,ma,vh⟩⟩
 obtain⟨res,O',⟨bw,rK,ks',ok,rfl,h⟩,hc⟩:=key;exact⟨bw,O',rK,ks',ok,hc,h⟩
end Go.Proofs.Ab
