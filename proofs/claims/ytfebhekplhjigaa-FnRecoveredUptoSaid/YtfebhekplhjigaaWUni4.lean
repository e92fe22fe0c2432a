/-
  Unify of the program: does a node lie in itself?
-/
import Derived.Test.YtfebhekplhjigaaWUni3
import Derived.Test.YtfebhekplhjigaaPUni2
open Nat(reduceEqDiff reduceLeDiff reduceAdd reduceLT reduceMul)
set_option linter.unusedVariables false
set_option linter.unusedSimpArgs false
namespace Go.Ab
set_option maxRecDepth 100000
theorem ahZ{S:Net}{st:Nat->Int}{r:Nat}{v:Int}(hr:r<S.N)(h0:st r=0)(hv:v≠0):jS S (za st r v)<jS S st:=by
 refine uh (c:=r) _ (by simpa using hr) (λ x _ h=> ?_) (by simpa using h0) (by simp[iG,hv]);simp only[decide_eq_true_eq]at h⊢;by_cases e:x=r
 ·subst e;exact h0
 ·rwa [fU _ _ e]at h
theorem ah0{S:Net}{st re:Nat->Int}(h:∀x,x<S.N->re x=0->st x=0):jS S re<=jS S st:=
 countP_le _ λ x hx hq=>by simp only[decide_eq_true_eq]at hq⊢;exact h x (by simpa using hx) hq
theorem lF.ex{S:Net}{up:Nat->Nat}:∀{l:List Nat},(∀k∈l,∃t,iC S up k t)->∃ts,lF S up l ts
 | [],_=>⟨[],.nil⟩
 |k::l,h=>by
  obtain⟨t,ht⟩:=h k (by simp);obtain⟨ts,sa⟩:=lF.ex (l:=l) λ q hq=>h q (by simp[hq])
  exact⟨t::ts,.cons _ _ _ _ ht sa⟩
theorem iC.ex{S:Net}{up:Nat->Nat}{r:Nat}(hr:up r=r)(h:∀k∈S.kids r,∃t,iC S up k t):∃t,iC S up r t:=by
 by_cases hm:S.mX r
 ·exact⟨_,.mt r r (.here r hr) hm⟩
 ·obtain⟨ts,sa⟩:=lF.ex h;exact⟨_,.node r r ts (.here r hr) hm sa⟩
end Go.Ab
namespace Go.Proofs.Ab
open Go.Ab
set_option maxRecDepth 100000
set_option maxHeartbeats 4000000
structure kM(S:Net)(bx:Nat->Nat)(st:Nat->Int)(mp:Nat)(ks:List Nat)(O:List ae):Prop where
 nodup:ks.Nodup
 sub:∀x∈ks,x<S.N/\st x≠0
 cov:∀x,x<S.N->st x≠0->x∈ks
 ob:O[mp]? =some (.dc (.mp (my bx st ks)))
def lj(S:Net)(bx:Nat->Nat)(mp:Nat)(O O':List ae):Prop:=O.length<=O'.length/\∀n,n<O.length->(∀x,x<S.N->n≠bx x)->n≠mp->O'[n]? =O[n]?
theorem lj.trans{S:Net}{bx:Nat->Nat}{mp:Nat}{O O' oY:List ae}(h:lj S bx mp O O')(k:lj S bx mp O' oY):lj S bx mp O oY:=
 ⟨Nat.le_trans h.1 k.1,λ n hn hx hm=>(k.2 n (Nat.lt_of_lt_of_le hn h.1) hx hm).trans (h.2 n hn hx hm)⟩
theorem lj.of{S:Net}{bx:Nat->Nat}{mp:Nat}{O O':List ae}(h:jL S bx O O'):lj S bx mp O O':=⟨h.1,λ n hn hx _=>h.2 n hn hx⟩
section
variable {S:Net} {up bx kr:Nat->Nat} {st:Nat->Int} {mp:Nat} {ks:List Nat} {O O':List ae} {K:KT}
theorem cD.aqJ(hL:cD S up bx kr O)(hM:kM S bx st mp ks O){x:Nat}(hx:x<S.N):mp≠bx x:=λ e=>by
 have h1:=hM.ob;rw[e,hL.box x hx]at h1;simp[fQ]at h1
theorem cD.asv(hL:cD S up bx kr O)(hM:kM S bx st mp ks O){x:Nat}(hx:x<S.N)(hk:S.kids x≠[]):mp≠kr x:=λ e=>by
 have h1:=hM.ob;rw[e,hL.row x hx hk]at h1;simp at h1
theorem kM.same(hL:cD S up bx kr O)(hM:kM S bx st mp ks O)(h:jL S bx O O'):kM S bx st mp ks O':=
 ⟨hM.nodup,hM.sub,hM.cov,by rw[h.2 mp (List.getElem?_eq_some_iff.1 hM.ob).1 λ x hx=>hL.aqJ hM hx];exact hM.ob⟩
theorem kM.keys(hL:cD S up bx kr O)(hM:kM S bx st mp ks O):iJ O (my bx st ks)=true:=by
 unfold iJ my;rw[List.all_eq_true];intro p hp;obtain⟨x,hx,rfl⟩:=List.mem_map.1 hp;exact gS hL (hM.sub x hx).1
theorem cD.o5(hL:cD S up bx kr O)(hM:kM S bx st mp ks O){r:Nat}{v:Int}(hr:r<S.N)(hv:v≠0):∃ks',cD S up bx kr (O.set mp (.dc (.mp (jY (bx r) (.v (.int .i64 v)) (my bx st ks)))))/\kM S bx (za st r v) mp ks' (O.set mp (.dc (.mp (jY (bx r) (.v (.int .i64 v)) (my bx st ks)))))/\lj S bx mp O (O.set mp (.dc (.mp (jY (bx r) (.v (.int .i64 v)) (my bx st ks))))):=by
 have o8:=(List.getElem?_eq_some_iff.1 hM.ob).1;have vQ:∀y∈ks,bx y=bx r->y=r:=λ y hy e=>hL.inj y r (hM.sub y hy).1 hr e
 have awZ:∀v,cD S up bx kr (O.set mp v):=λ v=>hL.move λ x hx=>⟨List.getElem?_set_ne (hL.aqJ hM hx),λ hk=>List.getElem?_set_ne (hL.asv hM hx hk)⟩
 have hsm:∀v,lj S bx mp O (O.set mp v):=λ v=>⟨by simp,λ n _ _ hn=>List.getElem?_set_ne (λ e=>hn e.symm)⟩
 by_cases hrk:r∈ks
 ·refine⟨ks,awZ _,⟨hM.nodup,λ x hx=>⟨(hM.sub x hx).1,?_⟩,λ x hx h=> ?_,?_⟩,hsm _⟩
  ·by_cases e:x=r
   ·subst e;rw[iG];exact hv
   ·rw[fU _ _ e];exact(hM.sub x hx).2
  ·by_cases e:x=r
   ·subst e;exact hrk
   ·rw[fU _ _ e]at h;exact hM.cov x hx h
  ·rw[List.getElem?_set_self o8,akZ hM.nodup hrk vQ]
 ·refine⟨ks++ [r],awZ _,⟨?_,λ x hx=> ?_,λ x hx h=> ?_,?_⟩,hsm _⟩
  ·rw[List.nodup_append];exact⟨hM.nodup,by simp,λ a ha b hb=>by rw[List.mem_singleton.1 hb];exact λ e=>hrk (e▸ha)⟩
  ·rcases List.mem_append.1 hx with h|h
   ·have e:x≠r:=λ e=>hrk (e▸h)
    exact⟨(hM.sub x h).1,by rw[fU _ _ e];exact(hM.sub x h).2⟩
   ·rw[List.mem_singleton.1 h];exact⟨hr,by rw[iG];exact hv⟩
  ·by_cases e:x=r
   ·subst e;simp
   ·rw[fU _ _ e]at h;simp[hM.cov x hx h]
  ·rw[List.getElem?_set_self o8,ak0 hrk vQ]
theorem kM.amL(hL:cD S up bx kr O)(hM:kM S bx st mp ks O){r:Nat}(hr:r<S.N)(h:st r=0):gR (bx r) (my bx st ks) 0=none:=
 xp λ y hy e=>by
  have:=hL.inj y r (hM.sub y hy).1 hr e;subst this;exact(hM.sub y hy).2 h
theorem kM.ahF(hL:cD S up bx kr O)(hM:kM S bx st mp ks O){r:Nat}(hr:r<S.N)(h:st r≠0):∃i,gR (bx r) (my bx st ks) 0=some (i,.v (.int .i64 (st r))):=by
 obtain⟨k,h1,_⟩:=xq (bx:=bx) (st:=st) (x:=r) (ks:=ks) (i:=0) (hM.cov r hr h) λ y hy e=>hL.inj y r (hM.sub y hy).1 hr e
 exact⟨_,h1⟩
end
structure arq(S:Net)(u0:Nat->Nat)(st:Nat->Int)(x:Nat):Prop where
 axt:∀g,g<S.N->st g=1->Dn S u0 g x
 black:∀g,g<S.N->st g=2->∃t,iC S u0 g t
 rng:∀g,g<S.N->st g=0∨st g=1∨st g=2
theorem x9{S:Net}{u0 bx kr:Nat->Nat}{mp:Nat}(hs:S.ok)(dJ:∀x,x<S.N->u0 x<S.N)(avm:∀x,x<S.N->∃r,cr u0 x r):
  ∀(m:Nat) {up:Nat->Nat} {O:List ae} {st:Nat->Int} {ks:List Nat} {x:Nat},cD S up bx kr O->(∀x,x<S.N->up x<S.N)->dy u0 up->kM S bx st mp ks O->x<S.N->arq S u0 st x->jS S st<=m->
  ∃cj O' re ks' res,hD Try.prog F.fi [.ptr (bx x) 1 0 0,.own mp] O (.v (.bool res)) O'/\cD S cj bx kr O'/\(∀x,x<S.N->cj x<S.N)/\dy u0 cj/\kM S bx re mp ks' O'/\lj S bx mp O O'/\
   (res=true->∃z,z<S.N/\Dn S u0 z z)/\(res=false->(∃t,iC S u0 x t)/\(∀g,g<S.N->(re g=1↔st g=1))/\(∀g,g<S.N->re g=2->∃t,iC S u0 g t)/\(∀g,g<S.N->re g=0∨re g=1∨re g=2)/\jS S re<=jS S st):=by
 intro m
 induction m using Nat.strongRecOn with
 |_ m ih=>
 intro up O st ks x hL aF he hM hx hA hm;obtain⟨r,pd⟩:=avm x hx;have jw:=pd.lt dJ hx;have hrr:cr u0 r r:= .here r pd.root;obtain⟨u1,O1,c1,L1,s1,e1,lt1,_⟩:=kF hL aF hx (he _ _ pd);have he1:=he.trans e1;have M1:=hM.same hL s1;have hkb:=gS L1 jw;have zJ:=M1.keys L1;have mf:=M1.ob
 have key:∃res O',(∃cj re ks' ok,res= .v (.bool ok)/\cD S cj bx kr O'/\(∀x,x<S.N->cj x<S.N)/\dy u0 cj/\kM S bx re mp ks' O'/\lj S bx mp O O'/\
   (ok=true->∃z,z<S.N/\Dn S u0 z z)/\(ok=false->(∃t,iC S u0 x t)/\(∀g,g<S.N->(re g=1↔st g=1))/\(∀g,g<S.N->re g=2->∃t,iC S u0 g t)/\(∀g,g<S.N->re g=0∨re g=1∨re g=2)/\jS S re<=jS S st))/\hD Try.prog F.fi [.ptr (bx x) 1 0 0,.own mp] O res O':=by
  refine pQ A.vG rfl ?_;simp only[A.fi,↓OD,OA,reduceEqDiff,reduceCtorEq,reduceAdd,reduceLT,reduceLeDiff,reduceIte];refine bj _ _ c1 ?_;simp only[↓OD,OA,reduceEqDiff,reduceCtorEq,reduceAdd,reduceLT,reduceLeDiff,reduceIte];by_cases h0:st r=0
  ·refine ahe mf hkb zJ (M1.amL L1 jw h0) ?_;simp only[↓OD,OA,reduceEqDiff,reduceCtorEq,reduceAdd,reduceLT,reduceLeDiff,reduceIte];refine rD mf hkb zJ ?_;obtain⟨ks2,L2,M2,sm2⟩:=L1.o5 M1 (v:=1) jw (by decide);generalize O1.set mp (.dc (.mp (jY (bx r) (.v (.int .i64 1)) (my bx st ks))))=O2 at L2 M2 sm2⊢;have hB:=L2.box r jw;unfold fQ at hB;simp only[hB,↓OD,OA,reduceEqDiff,reduceCtorEq,reduceAdd,reduceLT,reduceLeDiff,reduceIte];rw[ji L2 jw];simp only[↓OD,OA,reduceEqDiff,reduceCtorEq,reduceAdd,reduceLT,reduceLeDiff,reduceIte]
   refine cR (ι:=Nat×(Nat->Nat)×List ae×(Nat->Int)×List Nat)
    (λ q=>q.1<=(S.kids r).length/\cD S q.2.1 bx kr q.2.2.1/\(∀z,z<S.N->q.2.1 z<S.N)/\dy u0 q.2.1/\kM S bx q.2.2.2.1 mp q.2.2.2.2 q.2.2.1/\lj S bx mp O q.2.2.1/\(∀g,g<S.N->(q.2.2.2.1 g=1↔st g=1∨g=r))/\(∀g,g<S.N->q.2.2.2.1 g=2->∃t,iC S u0 g t)/\(∀g,g<S.N->q.2.2.2.1 g=0∨q.2.2.2.1 g=1∨q.2.2.2.1 g=2)/\jS S q.2.2.2.1<jS S st/\∀(j k:Nat),j<q.1->(S.kids r)[j]? =some k->∃t,iC S u0 k t)
    (λ q=>pc [(0,.ptr (bx r) 1 0 0),(1,.own mp),(22,kS S kr r),(23,.v (.int .i64 (S.kids r).length)),(24,.v (.int .i64 q.1))]) (λ q=>q.2.2.1) (λ q=>(S.kids r).length- q.1) (0,u1,O2,za st r 1,ks2)
    ⟨Nat.zero_le _,L2,lt1,he1,M2,(lj.of s1).trans sm2,λ g hg=> ?_,λ g hg h=> ?_,λ g hg=> ?_,ahZ jw h0 (by decide),λ j k hj=>by simp at hj⟩ (.of_eq rfl rfl) ?_
   ·by_cases e:g=r
    ·subst e;simp[iG]
    ·simp only[fU _ _ e,e,or_false]
   ·by_cases e:g=r
    ·subst e;simp[iG]at h
    ·simp only[fU _ _ e]at h;exact hA.black g hg h
   ·by_cases e:g=r
    ·subst e;simp[iG]
    ·simp only[fU _ _ e];exact hA.rng g hg
   rintro⟨i,u,Q,s,kk⟩ ⟨w1,w2,w3,w4,w5,w6,w7,w8,w9,w10,w11⟩;simp only at w1 w2 w3 w4 w5 w6 w7 w8 w9 w10 w11;by_cases hi:i<(S.kids r).length
   ·have di:decide ((i:Int)<((S.kids r).length:Int))=true:=decide_eq_true (by omega);obtain⟨p,hp⟩:∃p,(S.kids r)[i]? =some p:=⟨_,List.getElem?_eq_getElem hi⟩;have hpm:=List.mem_of_getElem? hp;have hpl:=hs.lt r jw p hpm
    have hnm:¬S.mX r:=λ h=>by
     have:=(hs.qJ r (hs.isMeta r jw h)).2;rw[this]at hpm;simp at hpm
    have hA':arq S u0 s p:=⟨λ g hg h=>by
     obtain⟨rp,hrp⟩:=avm p hpl;have hd:Dn S u0 r p:= .kid r r p p hrr hnm hpm ⟨rp,hrp,hrp⟩;rcases(w7 g hg).1 h with h|h
     ·exact .trans _ _ _ ((hA.axt g hg h).eqv ⟨r,pd,hrr⟩) hd
     ·subst h;exact hd,w8,w9⟩
    obtain⟨u',O',s',k',res,hc,l1,l2,l3,l4,l5,l6,l7⟩:=ih (jS S s) (by omega) w2 w3 w4 w5 hpl hA' (Nat.le_refl _);simp only[di,↓OD,OA,reduceEqDiff,reduceCtorEq,reduceAdd,reduceLT,reduceLeDiff,reduceIte];rw[me w2 jw hi];simp only[w2.row r jw (λ e=>by rw[e]at hi;simp at hi),cZ,ib hp,hi,AV.cells,↓OD,OA,reduceEqDiff,reduceCtorEq,reduceAdd,reduceLT,reduceLeDiff,reduceIte];refine bj _ _ hc ?_;cases res with
    |true=>
     simp only[↓OD,OA,reduceEqDiff,reduceCtorEq,reduceAdd,reduceLT,reduceLeDiff,reduceIte];exact ck (.inl rfl) ⟨u',s',k',true,by simp only[↓OD,OA,reduceEqDiff,reduceCtorEq,reduceAdd,reduceLT,reduceLeDiff,reduceIte],l1,l2,l3,l4,w6.trans l5,λ _=>l6 rfl,λ h=>by cases h⟩
    |false=>
     obtain⟨⟨t,ht⟩,g1,g2,g3,g4⟩:=l7 rfl;simp only[↓OD,OA,reduceEqDiff,reduceCtorEq,reduceAdd,reduceLT,reduceLeDiff,reduceIte];refine b6 (i+1,u',O',s',k') ⟨by show i+1<=_;omega,l1,l2,l3,l4,w6.trans l5,λ g hg=>(g1 g hg).trans (w7 g hg),g2,g3,by show jS S s'<_;omega,λ j k hj hk=> ?_⟩ (by show(S.kids r).length- (i+1)<(S.kids r).length- i;omega) (.of_eq (by rw[bm (by omega) (by have:=w2.few r jw;omega)];rfl) rfl);by_cases e:j=i
     ·subst e;rw[hp]at hk;cases hk;exact⟨t,ht⟩
     ·exact w11 j k (by simp only at hj;omega) hk
   ·have di:decide ((i:Int)<((S.kids r).length:Int))=false:=decide_eq_false (by omega);obtain⟨ks3,L3,M3,sm3⟩:=w2.o5 w5 (v:=2) jw (by decide)
    have tX:∃t,iC S u0 r t:=iC.ex pd.root λ k hk=>by
     obtain⟨j,hj⟩:=List.getElem?_of_mem hk;exact w11 j k (by have:=(List.getElem?_eq_some_iff.1 hj).1;omega) hj
    simp only[di,↓OD,OA,reduceEqDiff,reduceCtorEq,reduceAdd,reduceLT,reduceLeDiff,reduceIte];refine rD w5.ob (gS w2 jw) (w5.keys w2) ?_;simp only[↓OD,OA,reduceEqDiff,reduceCtorEq,reduceAdd,reduceLT,reduceLeDiff,reduceIte];refine ck (.inl rfl) ⟨u,za s r 2,ks3,false,by simp only[↓OD,OA,reduceEqDiff,reduceCtorEq,reduceAdd,reduceLT,reduceLeDiff,reduceIte],L3,w3,w4,M3,w6.trans sm3,λ h=>(by cases h),λ _=>⟨?_,λ g hg=> ?_,λ g hg h=> ?_,λ g hg=> ?_,?_⟩⟩
    ·obtain⟨t,ht⟩:=tX;exact⟨t,ht.eqv ⟨r,pd,hrr⟩⟩
    ·by_cases e:g=r
     ·subst e;rw[iG,h0];decide
     ·rw[fU _ _ e,w7 g hg];simp only[e,or_false]
    ·by_cases e:g=r
     ·subst e;exact tX
     ·rw[fU _ _ e]at h;exact w8 g hg h
    ·by_cases e:g=r
     ·subst e;rw[iG];exact .inr (.inr rfl)
     ·rw[fU _ _ e];exact w9 g hg
    ·have:=ah0 (S:=S) (st:=s) (re:=za s r 2) λ z hz h=>by
       by_cases e:z=r
       ·subst e;rw[iG]at h;exact absurd h (by decide)
       ·rwa [fU _ _ e]at h
     omega
  ·obtain⟨i,hf⟩:=M1.ahF L1 jw h0;have d0:decide (st r=0)=false:=decide_eq_false h0;refine xo mf hkb zJ hf ?_;simp only[d0,↓OD,OA,reduceEqDiff,reduceCtorEq,reduceAdd,reduceLT,reduceLeDiff,reduceIte];refine xo mf hkb zJ hf ?_;simp only[↓OD,OA,reduceEqDiff,reduceCtorEq,reduceAdd,reduceLT,reduceLeDiff,reduceIte];refine ck (.inl rfl) ⟨u1,st,ks,decide (st r=1),by simp only[↓OD,OA,reduceEqDiff,reduceCtorEq,reduceAdd,reduceLT,reduceLeDiff,reduceIte],L1,lt1,he1,M1,.of s1,λ h=>⟨r,jw,(hA.axt r jw (of_decide_eq_true h)).eqv ⟨r,pd,hrr⟩⟩,λ h=>⟨?_,λ _ _=>Iff.rfl,hA.black,hA.rng,Nat.le_refl _⟩⟩;have h1:=of_decide_eq_false h;rcases hA.rng r jw with h|h|h
   ·exact(h0 h).elim
   ·exact(h1 h).elim
   ·obtain⟨t,ht⟩:=hA.black r jw h;exact⟨t,ht.eqv ⟨r,pd,hrr⟩⟩
 obtain⟨res,O',⟨cj,re,ks',ok,rfl,h⟩,hc⟩:=key;exact⟨cj,O',re,ks',ok,hc,h⟩
end Go.Proofs.Ab
