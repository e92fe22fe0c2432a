/-
  Unify of the reference: how great each node's type is.
-/
import Derived.Test.YtfebhekplhjigaaWSu2
import Derived.Test.YtfebhekplhjigaaWUni5
open Int(toNat_natCast)
open List(getElem?_eq_none getElem?_set_ne map_cons sum_cons)
open Nat(reduceEqDiff reduceLeDiff reduceAdd reduceLT reduceMul)
set_option linter.unusedVariables false
set_option linter.unusedSimpArgs false
namespace Go.Proofs.Ab
open Go.Ab
set_option maxRecDepth 100000
set_option maxHeartbeats 4000000
def szs(sz:Nat->Int)(N:Nat):List AV:=(List.range N).map λ x=>aO (sz x)
theorem dN(sz:Nat->Int)(N:Nat):(szs sz N).length=N:=by simp[szs]
theorem vV{sz:Nat->Int}{N x:Nat}(h:x<N):(szs sz N).getD x .top=aO (sz x):=by simp[szs,List.getD,List.getElem?_range h]
theorem ajO{sz:Nat->Int}{N c:Nat}{v:Int}:(szs sz N).set c (aO v)=szs (nK sz c v) N:=by
 apply List.ext_getElem?;intro i;by_cases hi:i=c
 ·subst hi;by_cases hl:i<N
  ·rw[List.getElem?_set_self (by rwa [dN])];simp[szs,List.getElem?_range hl,nK]
  ·rw[getElem?_eq_none (by simp[dN];omega),getElem?_eq_none (by simp[dN];omega)]
 ·rw[getElem?_set_ne (λ e=>hi e.symm)];by_cases hl:i<N
  ·simp[szs,List.getElem?_range hl,nK,hi]
  ·rw[getElem?_eq_none (by simp[dN];omega),getElem?_eq_none (by simp[dN];omega)]
def r9(ts:List ad):Int:=1+(ts.map λ t=>dT t.dP).sum
theorem anf(ts:List ad)(t:ad):r9 (ts++ [t])=r9 ts+dT t.dP:=by
 unfold r9;rw[List.map_append,List.sum_append];simp;omega
theorem aqB(ts:List ad):r9 ts<=1+201*ts.length:=by
 induction ts with
 |nil=>simp[r9]
 |cons t ts ih=>
  have:=ot (t:=t);unfold r9 at ih⊢;simp only[map_cons,sum_cons,List.length_cons];omega
theorem agf(ts:List ad):1<=r9 ts:=by
 induction ts with
 |nil=>simp[r9]
 |cons t ts ih=>
  have:=ot (t:=t);unfold r9 at ih⊢;simp only[map_cons,sum_cons];omega
theorem ane(ts:List ad):min (r9 ts) 201=dT (1+(ts.map ad.dP).sum):=by
 induction ts with
 |nil=>simp[r9,dT]
 |cons t ts ih=>
  have h1:=ot (t:=t);have h2:=agf ts;unfold r9 dT at*;simp only[map_cons,sum_cons];omega
theorem kj.asO{S:Net}{up:Nat->Nat}:∀{l:List Nat} {ts:List ad},ts.length=l.length->(∀(i k:Nat),l[i]? =some k->∃t,ts[i]? =some t/\gC S up k t)->kj S up l ts
 | [],ts,h,_=>by obtain rfl:=List.eq_nil_of_length_eq_zero h;exact .nil
 |k::l,ts,h,hk=>by
  cases ts with
  |nil=>simp at h
  |cons t ts=>
   obtain⟨t',h1,h2⟩:=hk 0 k rfl;simp at h1;subst h1;exact .cons _ _ _ _ h2 (kj.asO (by simpa using h) λ i k' pr=>by simpa using hk (i+1) k' (by simpa using pr))
structure adf(S:Net)(u0:Nat->Nat)(nb tr kk ur:Nat)(aT:Nat->Nat)(sr:Nat)(sz:Nat->Int)(O:List aa):Prop where
 lay:kR S u0 nb tr kk ur aT O
 row:O[sr]? =some (.live 3 1 (szs sz S.N))
 sep:sr≠nb/\sr≠tr/\sr≠kk/\sr≠ur/\∀x,x<S.N->sr≠aT x
theorem adf.set{S:Net}{u0 aT:Nat->Nat}{nb tr kk ur sr:Nat}{sz vQ:Nat->Int}{O:List aa}(h:adf S u0 nb tr kk ur aT sr sz O):adf S u0 nb tr kk ur aT sr vQ (O.set sr (.live 3 1 (szs vQ S.N))):=by
 obtain⟨s1,s2,s3,s4,s5⟩:=h.sep;have hl:=h.lay;have hsl:=(List.getElem?_eq_some_iff.1 h.row).1;exact⟨⟨by rw[getElem?_set_ne s1];exact hl.box,by rw[getElem?_set_ne s2];exact hl.ty,by rw[getElem?_set_ne s3];exact hl.kids,λ x hx=>by rw[getElem?_set_ne (s5 x hx)];exact hl.za x hx,by rw[getElem?_set_ne s4];exact hl.up,hl.sep,hl.few,hl.small⟩,List.getElem?_set_self hsl,h.sep⟩
structure amN(S:Net)(u0:Nat->Nat)(sz:Nat->Int):Prop where
 done:∀g,g<S.N->0<sz g->∃t,gC S u0 g t/\sz g=dT t.dP
 rng:∀g,g<S.N->sz g= -1∨0<=sz g
theorem aaf{S:Net}{u0 aT:Nat->Nat}{nb tr kk ur sr:Nat}(hs:S.ok)(dv:∀x,x<S.N->u0 x<S.N)(aes:∀x,x<S.N->∃r,bw u0 x r):
  ∀(m:Nat) {O:List aa} {sz:Nat->Int} {x:Nat},adf S u0 nb tr kk ur aT sr sz O->x<S.N->amN S u0 sz->(∀g,g<S.N->sz g= -1->Dn S u0 g x)->dZ S sz<=m->
  ∃O' vQ ok,cF Try.prog F.eT [.ptr nb 1 0 0,aO (x:Nat),.row sr S.N,aO 201] O (.v (.bool ok)) O'/\adf S u0 nb tr kk ur aT sr vQ O'/\iX sr O O'/\
   (ok=false->∃z,z<S.N/\Dn S u0 z z)/\(ok=true->amN S u0 vQ/\(∀g,g<S.N->(vQ g= -1↔sz g= -1))/\(∀r,bw u0 x r->0<vQ r)/\dZ S vQ<=dZ S sz/\∀g,g<S.N->0<sz g->0<vQ g):=by
 intro m
 induction m using Nat.strongRecOn with
 |_ m ih=>
 intro O sz x hR hx hA hG hm;obtain⟨r,mG⟩:=aes x hx;have dV:=mG.lt dv hx;have xX:bw u0 r r:= .here r mG.root;have c1:=gD hR.lay dv hx mG;have cU:=hR.row;have gr:=vV (sz:=sz) dV;simp only[aO]at gr
 have key:∃res O',(∃vQ ok,res= .v (.bool ok)/\adf S u0 nb tr kk ur aT sr vQ O'/\iX sr O O'/\
   (ok=false->∃z,z<S.N/\Dn S u0 z z)/\(ok=true->amN S u0 vQ/\(∀g,g<S.N->(vQ g= -1↔sz g= -1))/\(∀r,bw u0 x r->0<vQ r)/\dZ S vQ<=dZ S sz/\∀g,g<S.N->0<sz g->0<vQ g))/\cF Try.prog F.eT [.ptr nb 1 0 0,aO (x:Nat),.row sr S.N,aO 201] O res O':=by
  refine jM A.yZ rfl ?_;simp only[A.eT,↓OD,OA,reduceEqDiff,reduceCtorEq,reduceAdd,reduceLT,reduceLeDiff,reduceIte];refine aj _ _ c1 ?_;simp only[aO,cU,dN,gr,AV.cells,toNat_natCast,↓OD,OA,reduceEqDiff,reduceCtorEq,reduceAdd,reduceLT,reduceLeDiff,reduceIte];by_cases h0:sz r=0
  ·have d0:decide (sz r=0)=true:=decide_eq_true h0;have e1:(szs sz S.N).set r (.v (.int .i64 (-1)))=szs (nK sz r (-1)) S.N:=ajO;have hR1:=hR.set (vQ:=nK sz r (-1));have ayg:=iX.set (ur:=sr) O (.live 3 1 (szs (nK sz r (-1)) S.N));simp only[d0,Bool.not_true,cU,dN,gr,AV.cells,toNat_natCast,e1,↓OD,OA,reduceEqDiff,reduceCtorEq,reduceAdd,reduceLT,reduceLeDiff,reduceIte];refine⟨by omega,by omega,dV,by omega,by omega,dV,?_⟩;generalize O.set sr (.live 3 1 (szs (nK sz r (-1)) S.N))=O1 at hR1 ayg⊢
   refine aQ (ι:=Nat×(Nat->Int)×List ad×List aa)
    (λ q=>q.1<=(S.kids r).length/\adf S u0 nb tr kk ur aT sr q.2.1 q.2.2.2/\iX sr O q.2.2.2/\amN S u0 q.2.1/\(∀g,g<S.N->(q.2.1 g= -1↔sz g= -1∨g=r))/\dZ S q.2.1<dZ S sz/\(∀g,g<S.N->0<sz g->0<q.2.1 g)/\q.2.2.1.length=q.1/\∀(j k:Nat),j<q.1->(S.kids r)[j]? =some k->∃t,q.2.2.1[j]? =some t/\gC S u0 k t)
    (λ q=>iA [(0,.ptr nb 1 0 0),(1,.v (.int .i64 (r:Nat))),(2,.row sr S.N),(3,.v (.int .i64 201)),(9,.v (.int .i64 (r9 q.2.2.1))),(10,.v (.int .i64 q.1))]) (λ q=>q.2.2.2) (λ q=>(S.kids r).length- q.1) (0,nK sz r (-1),[],O1)
    ⟨Nat.zero_le _,hR1,ayg,⟨λ g hg h=> ?_,λ g hg=> ?_⟩,λ g hg=> ?_,adh dV h0 (by decide),λ g hg h=>by
     have e:g≠r:=λ e=>by subst e;omega
     simp only[cI _ _ e];exact h,rfl,λ j k hj=>by simp at hj⟩ (.of_eq rfl rfl) ?_
   ·by_cases e:g=r
    ·subst e;simp only[dF]at h;omega
    ·simp only[cI _ _ e]at h⊢;exact hA.done g hg h
   ·by_cases e:g=r
    ·subst e;simp[dF]
    ·simp only[cI _ _ e];exact hA.rng g hg
   ·by_cases e:g=r
    ·subst e;simp[dF]
    ·simp only[cI _ _ e,e,or_false]
   rintro⟨i,s,ts,Q⟩ ⟨w1,w2,w3,w4,w5,w6,w9,w7,w8⟩;simp only at w1 w2 w3 w4 w5 w6 w7 w8 w9;have wb:=w2.lay.box;have wk:=w2.lay.kids;have wr:=w2.lay.za r dV;have avf:=w2.lay.few r dV;have gk:=ra (aT:=aT) dV;simp only[agY]at gk;have aEf:=aqB ts;have vS:=agf ts;by_cases hi:i<(S.kids r).length
   ·have di:decide ((i:Int)<((S.kids r).length:Int))=true:=decide_eq_true (by omega);obtain⟨p,hp⟩:∃p,(S.kids r)[i]? =some p:=⟨_,List.getElem?_eq_getElem hi⟩;have hpm:=List.mem_of_getElem? hp;have sn:=hs.lt r dV p hpm;have gp:=tV hp;simp only[aO]at gp
    have hnm:¬S.mq r:=λ h=>by
     have:=(hs.pj r (hs.isMeta r dV h)).2;rw[this]at hpm;simp at hpm
    obtain⟨rp,hrp⟩:=aes p sn;have auZ:=hrp.lt dv sn
    have hG':∀g,g<S.N->s g= -1->Dn S u0 g p:=λ g hg h=>by
     have hd:Dn S u0 r p:= .za r r p p xX hnm hpm ⟨rp,hrp,hrp⟩;rcases(w5 g hg).1 h with h|h
     ·exact .trans _ _ _ ((hG g hg h).eqv ⟨r,mG,xX⟩) hd
     ·subst h;exact hd
    obtain⟨O',s',ok,hc,l1,l2,l3,l4⟩:=ih (dZ S s) (by omega) w2 sn w4 hG' (Nat.le_refl _);simp only[wb,wk,wr,cS,gk,dB,gp,AV.cells,toNat_natCast,di,↓OD,OA,reduceEqDiff,reduceCtorEq,reduceAdd,reduceLT,reduceLeDiff,reduceIte];refine⟨by omega,by omega,dV,by omega,by omega,dV,by omega,by omega,hi,?_⟩;refine aj _ _ hc ?_;cases ok with
    |false=>
     simp only[Bool.not_false,↓OD,OA,reduceEqDiff,reduceCtorEq,reduceAdd,reduceLT,reduceLeDiff,reduceIte];exact aU (.inl rfl) ⟨s',false,by simp only[↓OD,OA,reduceEqDiff,reduceCtorEq,reduceAdd,reduceLT,reduceLeDiff,reduceIte],l1,w3.trans l2,λ _=>l3 rfl,λ h=>by cases h⟩
    |true=>
     obtain⟨g1,g2,g3,g4,g5⟩:=l4 rfl;obtain⟨tp,htp,aBb⟩:=g1.done rp auZ (g3 rp hrp);have vb:=l1.lay.box;have vk:=l1.lay.kids;have vr:=l1.lay.za r dV;have vs:=l1.row;have c2:=gD l1.lay dv sn hrp;have gs:=vV (sz:=s') auZ;simp only[aO]at gs c2;simp only[Bool.not_true,vb,vk,vr,cS,gk,dB,gp,AV.cells,toNat_natCast,↓OD,OA,reduceEqDiff,reduceCtorEq,reduceAdd,reduceLT,reduceLeDiff,reduceIte];refine⟨by omega,by omega,dV,by omega,by omega,hi,?_⟩;refine aj _ _ c2 ?_;simp only[vs,dN,gs,AV.cells,toNat_natCast,↓OD,OA,reduceEqDiff,reduceCtorEq,reduceAdd,reduceLT,reduceLeDiff,reduceIte];refine⟨by omega,by omega,auZ,?_⟩;have hcp:=ot (t:=tp);refine aL (i+1,s',ts++ [tp],O') ⟨by show i+1<=_;omega,l1,w3.trans l2,g1,λ g hg=>(g2 g hg).trans (w5 g hg),by show dZ S s'<_;omega,λ g hg h=>g5 g hg (w9 g hg h),by simp[w7],λ j k hj hk=> ?_⟩ (by show(S.kids r).length- (i+1)<(S.kids r).length- i;omega) (.of_eq ?_ rfl)
     ·simp only at hj;by_cases e:j=i
      ·subst e;rw[hp]at hk;cases hk;exact⟨tp,by rw[←w7];simp,htp.eqv ⟨rp,hrp,.here rp hrp.root⟩⟩
      ·obtain⟨t,t1,t2⟩:=w8 j k (by omega) hk;exact⟨t,by simp only;rw[List.getElem?_append_left (by omega)];exact t1,t2⟩
     ·rw[aBb,da (by omega) (by omega),da (by omega) (by omega),anf];rfl
   ·have di:decide ((i:Int)<((S.kids r).length:Int))=false:=decide_eq_false (by omega);have hie:i=(S.kids r).length:=by omega
    have ws:=w2.row;have gsr:=vV (sz:=s) dV;simp only[aO]at gsr
    obtain⟨t,hvt,pK⟩:∃t,gC S u0 r t/\min (r9 ts) 201=dT t.dP:=by
     have vR:kj S u0 (S.kids r) ts:=kj.asO (by omega) λ j k hk=>w8 j k (by have:=(List.getElem?_eq_some_iff.1 hk).1;omega) hk
     by_cases hme:S.mq r
     ·have hk0:=(hs.pj r (hs.isMeta r dV hme)).2;refine⟨eA r,.mt r r xX hme,?_⟩;have:ts= []:=List.eq_nil_of_length_eq_zero (by rw[w7,hie,hk0];rfl);subst this;rw[ad.pz];rfl
     ·exact⟨_,.node r r ts xX hme vR,by rw[ad.pz];exact ane ts⟩
    have hcp:=ot (t:=t);have e2:(szs s S.N).set r (.v (.int .i64 (dT t.dP)))=szs (nK s r (dT t.dP)) S.N:=ajO;simp only[wb,wk,wr,cS,gk,dB,AV.cells,toNat_natCast,di,↓OD,OA,reduceEqDiff,reduceCtorEq,reduceAdd,reduceLT,reduceLeDiff,reduceIte];refine⟨by omega,by omega,dV,?_⟩
    have fin:∃vQ ok,AV.v (.bool true)= .v (.bool ok)/\adf S u0 nb tr kk ur aT sr vQ (Q.set sr (.live 3 1 (szs (nK s r (dT t.dP)) S.N)))/\iX sr O (Q.set sr (.live 3 1 (szs (nK s r (dT t.dP)) S.N)))/\
     (ok=false->∃z,z<S.N/\Dn S u0 z z)/\(ok=true->amN S u0 vQ/\(∀g,g<S.N->(vQ g= -1↔sz g= -1))/\(∀r,bw u0 x r->0<vQ r)/\dZ S vQ<=dZ S sz/\∀g,g<S.N->0<sz g->0<vQ g):=by
     refine⟨nK s r (dT t.dP),true,rfl,w2.set,w3.trans (.set _ _),(λ h=>by cases h),λ _=>⟨⟨λ g hg h=> ?_,λ g hg=> ?_⟩,λ g hg=> ?_,λ r' pF=> ?_,?_,λ g hg h=> ?_⟩⟩
     ·by_cases e:g=r
      ·subst e;exact⟨t,hvt,dF _ _ _⟩
      ·rw[cI _ _ e]at h⊢;exact w4.done g hg h
     ·by_cases e:g=r
      ·subst e;rw[dF];exact .inr (by omega)
      ·rw[cI _ _ e];exact w4.rng g hg
     ·by_cases e:g=r
      ·subst e;rw[dF,h0];omega
      ·rw[cI _ _ e,w5 g hg];simp only[e,or_false]
     ·have:=mG.rF pF;subst this;rw[dF];omega
     ·have:=adi (S:=S) (st:=s) (uH:=nK s r (dT t.dP)) λ z hz h=>by
        by_cases e:z=r
        ·subst e;rw[dF]at h;omega
        ·rwa [cI _ _ e]at h
      omega
     ·by_cases e:g=r
      ·subst e;omega
      ·rw[cI _ _ e];exact w9 g hg h
    by_cases abS:201<r9 ts
    ·have db:decide ((201:Int)<r9 ts)=true:=decide_eq_true abS;have ao9:dT t.dP=201:=by omega
     rw[ao9]at e2 fin;simp only[db,ws,dN,gsr,AV.cells,toNat_natCast,e2,↓OD,OA,reduceEqDiff,reduceCtorEq,reduceAdd,reduceLT,reduceLeDiff,reduceIte];refine⟨by omega,by omega,dV,?_⟩;try simp only[↓OD,OA,reduceEqDiff,reduceCtorEq,reduceAdd,reduceLT,reduceLeDiff,reduceIte]
     exact aU (.inl rfl) fin
    ·have db:decide ((201:Int)<r9 ts)=false:=decide_eq_false abS;have ao9:dT t.dP=r9 ts:=by omega
     rw[ao9]at e2 fin;simp only[db,ws,dN,gsr,AV.cells,toNat_natCast,e2,↓OD,OA,reduceEqDiff,reduceCtorEq,reduceAdd,reduceLT,reduceLeDiff,reduceIte];refine⟨by omega,by omega,dV,?_⟩;try simp only[↓OD,OA,reduceEqDiff,reduceCtorEq,reduceAdd,reduceLT,reduceLeDiff,reduceIte]
     exact aU (.inl rfl) fin
  ·have d0:decide (sz r=0)=false:=decide_eq_false h0;simp only[d0,Bool.not_false,cU,dN,gr,AV.cells,toNat_natCast,↓OD,OA,reduceEqDiff,reduceCtorEq,reduceAdd,reduceLT,reduceLeDiff,reduceIte];refine⟨by omega,by omega,dV,by omega,by omega,dV,?_⟩;try simp only[↓OD,OA,reduceEqDiff,reduceCtorEq,reduceAdd,reduceLT,reduceLeDiff,reduceIte]
   refine aU (.inl rfl) ⟨sz,decide (0<sz r),by simp only[↓OD,OA,reduceEqDiff,reduceCtorEq,reduceAdd,reduceLT,reduceLeDiff,reduceIte],hR,.refl O,λ h=>⟨r,dV,?_⟩,λ h=>⟨hA,λ _ _=>Iff.rfl,λ r' pF=>by have:=mG.rF pF;subst this;exact of_decide_eq_true h,Nat.le_refl _,λ _ _ h=>h⟩⟩;have h1:=of_decide_eq_false h;rcases hA.rng r dV with h|h
   ·exact(hG r dV h).eqv ⟨r,mG,xX⟩
   ·omega
 obtain⟨res,O',⟨vQ,ok,rfl,h⟩,hc⟩:=key;exact⟨O',vQ,ok,hc,h⟩
end Go.Proofs.Ab
