/-
  Unify of the reference: how great each node's type is.
-/
import Derived.Test.YtfebhekplhjigaaWSu2
import Derived.Test.YtfebhekplhjigaaWUni5
open Int(toNat_natCast)
open List(getElem?_eq_none getElem?_set_ne map_cons sum_cons)
open Nat(reduceEqDiff reduceLeDiff reduceAdd reduceLT reduceMul)
set_option linter.unusedSimpArgs false
set_option linter.unusedVariables false
namespace Go.Proofs.Ab
open Go.Ab
set_option maxRecDepth 100000
set_option maxHeartbeats 4000000
def xY(sz:Nat->Int)(N:Nat):List AV:=(List.range N).map λ x=>au (sz x)
theorem ec(sz:Nat->Int)(N:Nat):(xY sz N).length=N:=by simp[xY]
theorem td{sz:Nat->Int}{N x:Nat}(h:x<N):(xY sz N).getD x .top=au (sz x):=by simp[xY,List.getD,List.getElem?_range h]
theorem aiS{sz:Nat->Int}{N c:Nat}{v:Int}:(xY sz N).set c (au v)=xY (mE sz c v) N:=by
 apply List.ext_getElem?;intro i;by_cases hi:i=c
 ·subst hi;by_cases hl:i<N
  ·rw[List.getElem?_set_self (by rwa [ec])];simp[xY,List.getElem?_range hl,mE]
  ·rw[getElem?_eq_none (by simp[ec];omega),getElem?_eq_none (by simp[ec];omega)]
 ·rw[getElem?_set_ne (λ e=>hi e.symm)];by_cases hl:i<N
  ·simp[xY,List.getElem?_range hl,mE,hi]
  ·rw[getElem?_eq_none (by simp[ec];omega),getElem?_eq_none (by simp[ec];omega)]
def pH(ts:List aa):Int:=1+(ts.map λ t=>ej t.dw).sum
theorem amp(ts:List aa)(t:aa):pH (ts++ [t])=pH ts+ej t.dw:=by
 unfold pH;rw[List.map_append,List.sum_append];simp;omega
theorem aqe(ts:List aa):pH ts<=1+201*ts.length:=by
 induction ts with
 |nil=>simp[pH]
 |cons t ts ih=>
  have:=m6 (t:=t);unfold pH at ih⊢;simp only[map_cons,sum_cons,List.length_cons];omega
theorem aez(ts:List aa):1<=pH ts:=by
 induction ts with
 |nil=>simp[pH]
 |cons t ts ih=>
  have:=m6 (t:=t);unfold pH at ih⊢;simp only[map_cons,sum_cons];omega
theorem amo(ts:List aa):min (pH ts) 201=ej (1+(ts.map aa.dw).sum):=by
 induction ts with
 |nil=>simp[pH,ej]
 |cons t ts ih=>
  have h1:=m6 (t:=t);have h2:=aez ts;unfold pH ej at*;simp only[map_cons,sum_cons];omega
theorem jQ.asF{S:Net}{up:Nat->Nat}:∀{l:List Nat} {ts:List aa},ts.length=l.length->(∀(i k:Nat),l[i]? =some k->∃t,ts[i]? =some t/\gP S up k t)->jQ S up l ts
 | [],ts,h,_=>by obtain rfl:=List.eq_nil_of_length_eq_zero h;exact .nil
 |k::l,ts,h,hk=>by
  cases ts with
  |nil=>simp at h
  |cons t ts=>
   obtain⟨t',h1,h2⟩:=hk 0 k rfl;simp at h1;subst h1;exact .cons _ _ _ _ h2 (jQ.asF (by simpa using h) λ i k' nH=>by simpa using hk (i+1) k' (by simpa using nH))
structure abr(S:Net)(u0:Nat->Nat)(nb tr kk ur:Nat)(aW:Nat->Nat)(sr:Nat)(sz:Nat->Int)(O:List ad):Prop where
 lay:kq S u0 nb tr kk ur aW O
 row:O[sr]? =some (.live 3 1 (xY sz S.N))
 sep:sr≠nb/\sr≠tr/\sr≠kk/\sr≠ur/\∀x,x<S.N->sr≠aW x
theorem abr.set{S:Net}{u0 aW:Nat->Nat}{nb tr kk ur sr:Nat}{sz ta:Nat->Int}{O:List ad}(h:abr S u0 nb tr kk ur aW sr sz O):abr S u0 nb tr kk ur aW sr ta (O.set sr (.live 3 1 (xY ta S.N))):=by
 obtain⟨s1,s2,s3,s4,s5⟩:=h.sep;have hl:=h.lay;have hsl:=(List.getElem?_eq_some_iff.1 h.row).1;exact⟨⟨by rw[getElem?_set_ne s1];exact hl.box,by rw[getElem?_set_ne s2];exact hl.ty,by rw[getElem?_set_ne s3];exact hl.kids,λ x hx=>by rw[getElem?_set_ne (s5 x hx)];exact hl.wK x hx,by rw[getElem?_set_ne s4];exact hl.up,hl.sep,hl.few,hl.small⟩,List.getElem?_set_self hsl,h.sep⟩
structure alV(S:Net)(u0:Nat->Nat)(sz:Nat->Int):Prop where
 done:∀g,g<S.N->0<sz g->∃t,gP S u0 g t/\sz g=ej t.dw
 rng:∀g,g<S.N->sz g= -1∨0<=sz g
theorem x6{S:Net}{u0 aW:Nat->Nat}{nb tr kk ur sr:Nat}(hs:S.ok)(fZ:∀x,x<S.N->u0 x<S.N)(acC:∀x,x<S.N->∃r,bI u0 x r):
  ∀(m:Nat) {O:List ad} {sz:Nat->Int} {x:Nat},abr S u0 nb tr kk ur aW sr sz O->x<S.N->alV S u0 sz->(∀g,g<S.N->sz g= -1->Dn S u0 g x)->eA S sz<=m->
  ∃O' ta ok,fE Try.prog F.fa [.ptr nb 1 0 0,au (x:Nat),.row sr S.N,au 201] O (.v (.bool ok)) O'/\abr S u0 nb tr kk ur aW sr ta O'/\iJ sr O O'/\
   (ok=false->∃z,z<S.N/\Dn S u0 z z)/\(ok=true->alV S u0 ta/\(∀g,g<S.N->(ta g= -1↔sz g= -1))/\(∀r,bI u0 x r->0<ta r)/\eA S ta<=eA S sz/\∀g,g<S.N->0<sz g->0<ta g):=by
 intro m
 induction m using Nat.strongRecOn with
 |_ m ih=>
 intro O sz x hR hx hA hG hm;obtain⟨r,ma⟩:=acC x hx;have ep:=ma.lt fZ hx;have vh:bI u0 r r:= .here r ma.root;have c1:=gR hR.lay fZ hx ma;have dm:=hR.row;have gr:=td (sz:=sz) ep;simp only[au]at gr
 have key:∃res O',(∃ta ok,res= .v (.bool ok)/\abr S u0 nb tr kk ur aW sr ta O'/\iJ sr O O'/\
   (ok=false->∃z,z<S.N/\Dn S u0 z z)/\(ok=true->alV S u0 ta/\(∀g,g<S.N->(ta g= -1↔sz g= -1))/\(∀r,bI u0 x r->0<ta r)/\eA S ta<=eA S sz/\∀g,g<S.N->0<sz g->0<ta g))/\fE Try.prog F.fa [.ptr nb 1 0 0,au (x:Nat),.row sr S.N,au 201] O res O':=by
  refine jx A.wz rfl ?_;simp only[A.fa,↓OD,OA,reduceEqDiff,reduceCtorEq];refine aD _ _ c1 ?_;simp only[au,dm,ec,gr,AV.cells,toNat_natCast,↓OD,OA,reduceEqDiff,reduceCtorEq];by_cases h0:sz r=0
  ·have d0:decide (sz r=0)=true:=decide_eq_true h0;have e1:(xY sz S.N).set r (.v (.int .i64 (-1)))=xY (mE sz r (-1)) S.N:=aiS;have hR1:=hR.set (ta:=mE sz r (-1));have ayu:=iJ.set (ur:=sr) O (.live 3 1 (xY (mE sz r (-1)) S.N));simp only[d0,Bool.not_true,dm,ec,gr,AV.cells,toNat_natCast,e1,↓OD,OA,reduceEqDiff,reduceCtorEq];refine⟨by omega,by omega,ep,by omega,by omega,ep,?_⟩;generalize O.set sr (.live 3 1 (xY (mE sz r (-1)) S.N))=O1 at hR1 ayu⊢
   refine bd (ι:=Nat×(Nat->Int)×List aa×List ad)
    (λ q=>q.1<=(S.kids r).length/\abr S u0 nb tr kk ur aW sr q.2.1 q.2.2.2/\iJ sr O q.2.2.2/\alV S u0 q.2.1/\(∀g,g<S.N->(q.2.1 g= -1↔sz g= -1∨g=r))/\eA S q.2.1<eA S sz/\(∀g,g<S.N->0<sz g->0<q.2.1 g)/\q.2.2.1.length=q.1/\∀(j k:Nat),j<q.1->(S.kids r)[j]? =some k->∃t,q.2.2.1[j]? =some t/\gP S u0 k t)
    (λ q=>jw [(0,.ptr nb 1 0 0),(1,.v (.int .i64 (r:Nat))),(2,.row sr S.N),(3,.v (.int .i64 201)),(9,.v (.int .i64 (pH q.2.2.1))),(10,.v (.int .i64 q.1))]) (λ q=>q.2.2.2) (λ q=>(S.kids r).length- q.1) (0,mE sz r (-1),[],O1)
    ⟨Nat.zero_le _,hR1,ayu,⟨λ g hg h=> ?_,λ g hg=> ?_⟩,λ g hg=> ?_,abu ep h0 (by decide),λ g hg h=>by
     have e:g≠r:=λ e=>by subst e;omega
     simp only[cV _ _ e];exact h,rfl,λ j k hj=>by simp at hj⟩ (.of_eq rfl rfl) ?_
   ·by_cases e:g=r
    ·subst e;simp only[dT]at h;omega
    ·simp only[cV _ _ e]at h⊢;exact hA.done g hg h
   ·by_cases e:g=r
    ·subst e;simp[dT]
    ·simp only[cV _ _ e];exact hA.rng g hg
   ·by_cases e:g=r
    ·subst e;simp[dT]
    ·simp only[cV _ _ e,e,or_false]
   rintro⟨i,s,ts,Q⟩ ⟨w1,w2,w3,w4,w5,w6,w9,w7,w8⟩;simp only at w1 w2 w3 w4 w5 w6 w7 w8 w9;have wb:=w2.lay.box;have wk:=w2.lay.kids;have wr:=w2.lay.wK r ep;have avn:=w2.lay.few r ep;have gk:=oZ (aW:=aW) ep;simp only[afj]at gk;have aEE:=aqe ts;have hsp:=aez ts;by_cases hi:i<(S.kids r).length
   ·have di:decide ((i:Int)<((S.kids r).length:Int))=true:=decide_eq_true (by omega);obtain⟨p,hp⟩:∃p,(S.kids r)[i]? =some p:=⟨_,List.getElem?_eq_getElem hi⟩;have hpm:=List.mem_of_getElem? hp;have uw:=hs.lt r ep p hpm;have gp:=qY hp;simp only[au]at gp
    have hnm:¬S.lh r:=λ h=>by
     have:=(hs.nC r (hs.isMeta r ep h)).2;rw[this]at hpm;simp at hpm
    obtain⟨rp,hrp⟩:=acC p uw;have au7:=hrp.lt fZ uw
    have hG':∀g,g<S.N->s g= -1->Dn S u0 g p:=λ g hg h=>by
     have hd:Dn S u0 r p:= .wK r r p p vh hnm hpm ⟨rp,hrp,hrp⟩;rcases(w5 g hg).1 h with h|h
     ·exact .trans _ _ _ ((hG g hg h).eqv ⟨r,ma,vh⟩) hd
     ·subst h;exact hd
    obtain⟨O',s',ok,hc,l1,l2,l3,l4⟩:=ih (eA S s) (by omega) w2 uw w4 hG' (Nat.le_refl _);simp only[wb,wk,wr,dg,gk,dQ,gp,AV.cells,toNat_natCast,di,↓OD,OA,reduceEqDiff,reduceCtorEq,reduceAdd,reduceLeDiff];refine⟨by omega,by omega,ep,by omega,by omega,ep,by omega,by omega,hi,?_⟩;refine aD _ _ hc ?_;cases ok with
    |false=>
     simp only[Bool.not_false,↓OD,OA,reduceEqDiff,reduceCtorEq];exact aY (.inl rfl) ⟨s',false,by simp only[OA],l1,w3.trans l2,λ _=>l3 rfl,λ h=>by cases h⟩
    |true=>
     obtain⟨g1,g2,g3,g4,g5⟩:=l4 rfl;obtain⟨tp,htp,aBA⟩:=g1.done rp au7 (g3 rp hrp);have vb:=l1.lay.box;have vk:=l1.lay.kids;have vr:=l1.lay.wK r ep;have vs:=l1.row;have c2:=gR l1.lay fZ uw hrp;have gs:=td (sz:=s') au7;simp only[au]at gs c2;simp only[Bool.not_true,vb,vk,vr,dg,gk,dQ,gp,AV.cells,toNat_natCast,↓OD,OA,reduceEqDiff,reduceCtorEq,reduceAdd,reduceLeDiff];refine⟨by omega,by omega,ep,by omega,by omega,hi,?_⟩;refine aD _ _ c2 ?_;simp only[vs,ec,gs,AV.cells,toNat_natCast,↓OD,OA,reduceEqDiff,reduceCtorEq];refine⟨by omega,by omega,au7,?_⟩;have hcp:=m6 (t:=tp);refine a6 (i+1,s',ts++ [tp],O') ⟨by show i+1<=_;omega,l1,w3.trans l2,g1,λ g hg=>(g2 g hg).trans (w5 g hg),by show eA S s'<_;omega,λ g hg h=>g5 g hg (w9 g hg h),by simp[w7],λ j k hj hk=> ?_⟩ (by show(S.kids r).length- (i+1)<(S.kids r).length- i;omega) (.of_eq ?_ rfl)
     ·simp only at hj;by_cases e:j=i
      ·subst e;rw[hp]at hk;cases hk;exact⟨tp,by rw[←w7];simp,htp.eqv ⟨rp,hrp,.here rp hrp.root⟩⟩
      ·obtain⟨t,t1,t2⟩:=w8 j k (by omega) hk;exact⟨t,by simp only;rw[List.getElem?_append_left (by omega)];exact t1,t2⟩
     ·rw[aBA,bh (by omega) (by omega),bh (by omega) (by omega),amp];rfl
   ·have di:decide ((i:Int)<((S.kids r).length:Int))=false:=decide_eq_false (by omega);have hie:i=(S.kids r).length:=by omega
    have ws:=w2.row;have gsr:=td (sz:=s) ep;simp only[au]at gsr
    obtain⟨t,hvt,oJ⟩:∃t,gP S u0 r t/\min (pH ts) 201=ej t.dw:=by
     have nd:jQ S u0 (S.kids r) ts:=jQ.asF (by omega) λ j k hk=>w8 j k (by have:=(List.getElem?_eq_some_iff.1 hk).1;omega) hk
     by_cases hme:S.lh r
     ·have hk0:=(hs.nC r (hs.isMeta r ep hme)).2;refine⟨cN r,.mt r r vh hme,?_⟩;have:ts= []:=List.eq_nil_of_length_eq_zero (by rw[w7,hie,hk0];rfl);subst this;rw[aa.lA];rfl
     ·exact⟨_,.node r r ts vh hme nd,by rw[aa.lA];exact amo ts⟩
    have hcp:=m6 (t:=t);have e2:(xY s S.N).set r (.v (.int .i64 (ej t.dw)))=xY (mE s r (ej t.dw)) S.N:=aiS;simp only[wb,wk,wr,dg,gk,dQ,AV.cells,toNat_natCast,di,↓OD,OA,reduceEqDiff,reduceCtorEq,reduceAdd,reduceLeDiff];refine⟨by omega,by omega,ep,?_⟩
    have fin:∃ta ok,AV.v (.bool true)= .v (.bool ok)/\abr S u0 nb tr kk ur aW sr ta (Q.set sr (.live 3 1 (xY (mE s r (ej t.dw)) S.N)))/\iJ sr O (Q.set sr (.live 3 1 (xY (mE s r (ej t.dw)) S.N)))/\
     (ok=false->∃z,z<S.N/\Dn S u0 z z)/\(ok=true->alV S u0 ta/\(∀g,g<S.N->(ta g= -1↔sz g= -1))/\(∀r,bI u0 x r->0<ta r)/\eA S ta<=eA S sz/\∀g,g<S.N->0<sz g->0<ta g):=by
     refine⟨mE s r (ej t.dw),true,rfl,w2.set,w3.trans (.set _ _),(λ h=>by cases h),λ _=>⟨⟨λ g hg h=> ?_,λ g hg=> ?_⟩,λ g hg=> ?_,λ r' ou=> ?_,?_,λ g hg h=> ?_⟩⟩
     ·by_cases e:g=r
      ·subst e;exact⟨t,hvt,dT _ _ _⟩
      ·rw[cV _ _ e]at h⊢;exact w4.done g hg h
     ·by_cases e:g=r
      ·subst e;rw[dT];exact .inr (by omega)
      ·rw[cV _ _ e];exact w4.rng g hg
     ·by_cases e:g=r
      ·subst e;rw[dT,h0];omega
      ·rw[cV _ _ e,w5 g hg];simp only[e,or_false]
     ·have:=ma.pf ou;subst this;rw[dT];omega
     ·have:=abv (S:=S) (st:=s) (rK:=mE s r (ej t.dw)) λ z hz h=>by
        by_cases e:z=r
        ·subst e;rw[dT]at h;omega
        ·rwa [cV _ _ e]at h
      omega
     ·by_cases e:g=r
      ·subst e;omega
      ·rw[cV _ _ e];exact w9 g hg h
    by_cases vp:201<pH ts
    ·have db:decide ((201:Int)<pH ts)=true:=decide_eq_true vp;have aot:ej t.dw=201:=by omega
     rw[aot]at e2 fin;simp only[db,ws,ec,gsr,AV.cells,toNat_natCast,e2,↓OD,OA,reduceEqDiff];refine⟨by omega,by omega,ep,?_⟩;try simp only[↓OD,OA,reduceEqDiff,reduceCtorEq,reduceAdd,reduceLT,reduceLeDiff,reduceIte]
     exact aY (.inl rfl) fin
    ·have db:decide ((201:Int)<pH ts)=false:=decide_eq_false vp;have aot:ej t.dw=pH ts:=by omega
     rw[aot]at e2 fin;simp only[db,ws,ec,gsr,AV.cells,toNat_natCast,e2,↓OD,OA,reduceEqDiff];refine⟨by omega,by omega,ep,?_⟩;try simp only[↓OD,OA,reduceEqDiff,reduceCtorEq,reduceAdd,reduceLT,reduceLeDiff,reduceIte]
     exact aY (.inl rfl) fin
  ·have d0:decide (sz r=0)=false:=decide_eq_false h0;simp only[d0,Bool.not_false,dm,ec,gr,AV.cells,toNat_natCast,↓OD,OA,reduceEqDiff,reduceCtorEq];refine⟨by omega,by omega,ep,by omega,by omega,ep,?_⟩;try simp only[↓OD,OA,reduceEqDiff,reduceCtorEq,reduceAdd,reduceLT,reduceLeDiff,reduceIte]
   refine aY (.inl rfl) ⟨sz,decide (0<sz r),by simp only[OA],hR,.refl O,λ h=>⟨r,ep,?_⟩,λ h=>⟨hA,λ _ _=>Iff.rfl,λ r' ou=>by have:=ma.pf ou;subst this;exact of_decide_eq_true h,Nat.le_refl _,λ _ _ h=>h⟩⟩;have h1:=of_decide_eq_false h;rcases hA.rng r ep with h|h
   ·exact(hG r ep h).eqv ⟨r,ma,vh⟩
   ·omega
 obtain⟨res,O',⟨ta,ok,rfl,h⟩,hc⟩:=key;exact⟨O',ta,ok,hc,h⟩
end Go.Proofs.Ab
