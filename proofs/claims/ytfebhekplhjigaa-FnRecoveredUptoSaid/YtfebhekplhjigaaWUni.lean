/-
  Unify of the program: nodes in memory, find.
-/
import Derived.Test.YtfebhekplhjigaaPUni
import Derived.Test.YtfebhekplhjigaaCSameTy
import Derived.Test.YtfebhekplhjigaaCFree
import Derived.Test.YtfebhekplhjigaaGM
import Derived.Test.YtfebhekplhjigaaAbM5
import Derived.Test.YtfebhekplhjigaaSU
open Nat(reduceEqDiff reduceLeDiff reduceAdd reduceLT reduceMul)
set_option linter.unusedVariables false
set_option linter.unusedSimpArgs false
namespace Go.Ab
set_option maxRecDepth 100000
inductive kL(up:Nat->Nat):Nat->Nat->Nat->Prop
 |here (x:Nat):up x=x->kL up 0 x x
 |step (n x r:Nat):up x≠x->kL up n (up x) r->kL up (n+1) x r
theorem kL.of{up:Nat->Nat}{x r:Nat}(h:cr up x r):∃n,kL up n x r:=by
 induction h with
 |here x h=>exact⟨0,.here x h⟩
 |step x r h _ ih=>obtain⟨n,hn⟩:=ih;exact⟨n+1,.step n x r h hn⟩
theorem kL.to{up:Nat->Nat}{n x r:Nat}(h:kL up n x r):cr up x r:=by
 induction h with
 |here x h=>exact .here x h
 |step n x r h _ ih=>exact .step x r h ih
theorem kL.qq{up:Nat->Nat}{n m x r s:Nat}(h:kL up n x r):kL up m x s->n=m:=by
 induction h generalizing m with
 |here x h=>intro k;cases k with
  |here _ _=>rfl
  |step _ _ _ k _=>exact(k h).elim
 |step n x r h _ ih=>intro k;cases k with
  |here _ k=>exact(h k).elim
  |step m _ _ _ k=>rw[ih k]
theorem kL.ax7{up:Nat->Nat}{m x r:Nat}(h:kL up m x r){n c s p:Nat}(hc:kL up n c s)(aF:m<n):kL (cT up c p) m x r:=by
 induction h with
 |here x h=>
  have hx:x≠c:=λ e=>by subst e;have:=hc.qq (.here _ h);omega
  exact .here x (by unfold cT;rw[if_neg hx];exact h)
 |step m x r h k ih=>
  have hx:x≠c:=λ e=>by subst e;have:=hc.qq (.step m _ r h k);omega
  have hu:cT up c p x=up x:=by unfold cT;rw[if_neg hx]
  exact .step m x r (by rw[hu];exact h) (by rw[hu];exact ih (by omega))
end Go.Ab
namespace Go.Proofs.Ab
open Go.Ab
set_option maxRecDepth 100000
set_option maxHeartbeats 4000000
def kS(S:Net)(kr:Nat->Nat)(x:Nat):AV:=if S.kids x= []then .aw else .row (kr x) (S.kids x).length
def upC(bx:Nat->Nat)(up:Nat->Nat)(x:Nat):AV:=if up x=x then .v (.pointer none)else .ptr (bx (up x)) 1 0 0
def fQ(S:Net)(up bx kr:Nat->Nat)(x:Nat):ae:= .live 66 5 [.agg [aA (S.ty x).Kind,aA (S.ty x).N,ch (S.ty x).Name,kS S kr x,upC bx up x]]
def jX(bx:Nat->Nat)(l:List Nat):List AV:=l.map λ k=> .ptr (bx k) 1 0 0
structure cD(S:Net)(up bx kr:Nat->Nat)(O:List ae):Prop where
 box:∀x,x<S.N->O[bx x]? =some (fQ S up bx kr x)
 row:∀x,x<S.N->S.kids x≠[]->O[kr x]? =some (.live 64 1 (jX bx (S.kids x)))
 inj:∀x y,x<S.N->y<S.N->bx x=bx y->x=y
 sep:∀x y,x<S.N->y<S.N->S.kids y≠[]->kr y≠bx x
 few:∀x,x<S.N->(S.kids x).length<=1048576
def jL(S:Net)(bx:Nat->Nat)(O O':List ae):Prop:=O.length<=O'.length/\∀n,n<O.length->(∀x,x<S.N->n≠bx x)->O'[n]? =O[n]?
theorem jL.refl{S:Net}{bx:Nat->Nat}(O:List ae):jL S bx O O:=⟨Nat.le_refl _,λ _ _ _=>rfl⟩
theorem jL.trans{S:Net}{bx:Nat->Nat}{O O' oY:List ae}(h:jL S bx O O')(k:jL S bx O' oY):jL S bx O oY:=
 ⟨Nat.le_trans h.1 k.1,λ n hn hx=>(k.2 n (Nat.lt_of_lt_of_le hn h.1) hx).trans (h.2 n hn hx)⟩
theorem cD.lt{S:Net}{up bx kr:Nat->Nat}{O:List ae}(h:cD S up bx kr O){x:Nat}(hx:x<S.N):bx x<O.length:=(List.getElem?_eq_some_iff.1 (h.box x hx)).1
theorem cD.aqy{S:Net}{up bx kr:Nat->Nat}{O:List ae}(h:cD S up bx kr O){c p:Nat}(hc:c<S.N):cD S (cT up c p) bx kr (O.set (bx c) (fQ S (cT up c p) bx kr c))/\jL S bx O (O.set (bx c) (fQ S (cT up c p) bx kr c)):=by
 refine⟨⟨λ x hx=> ?_,λ x hx hk=> ?_,h.inj,h.sep,h.few⟩,by simp,λ n hn hx=>by rw[List.getElem?_set_ne (λ e=>hx c hc e.symm)]⟩
 ·by_cases hxc:x=c
  ·subst hxc;exact List.getElem?_set_self (h.lt hc)
  ·rw[List.getElem?_set_ne (λ e=>hxc (h.inj c x hc hx e).symm),h.box x hx];have:upC bx (cT up c p) x=upC bx up x:=by unfold upC cT;simp only[if_neg hxc]
   unfold fQ;rw[this]
 ·rw[List.getElem?_set_ne (λ e=>h.sep c x hc hx hk e.symm)];exact h.row x hx hk
theorem po{bx up:Nat->Nat}{x:Nat}(h:up x=x):upC bx up x= .v (.pointer none):=if_pos h
theorem aa1{bx up:Nat->Nat}{x:Nat}(h:up x≠x):upC bx up x= .ptr (bx (up x)) 1 0 0:=if_neg h
theorem kF{S:Net}{up bx kr:Nat->Nat}{O:List ae}(hL:cD S up bx kr O)(aF:∀x,x<S.N->up x<S.N){x r:Nat}(hx:x<S.N)(hr:cr up x r):
  ∃cj O',hD Try.prog F.fH [.ptr (bx x) 1 0 0] O (.ptr (bx r) 1 0 0) O'/\cD S cj bx kr O'/\jL S bx O O'/\dy up cj/\(∀z,z<S.N->cj z<S.N)/\(∀z,z<S.N->(cj z=z↔up z=z)):=by
 have key:∃res O',(res= .ptr (bx r) 1 0 0/\∃cj,cD S cj bx kr O'/\jL S bx O O'/\dy up cj/\(∀z,z<S.N->cj z<S.N)/\(∀z,z<S.N->(cj z=z↔up z=z)))/\hD Try.prog F.fH [.ptr (bx x) 1 0 0] O res O':=by
  obtain⟨n0,hn0⟩:=kL.of hr;refine pQ A.ab4 rfl ?_;simp only[A.fH,↓OD,OA,reduceEqDiff,reduceCtorEq,reduceAdd,reduceLT,reduceLeDiff,reduceIte]
  refine cR (ι:=(Nat->Nat)×List ae×Nat×Nat) (λ q=>cD S q.1 bx kr q.2.1/\jL S bx O q.2.1/\dy up q.1/\(∀z,z<S.N->q.1 z<S.N)/\(∀z,z<S.N->(q.1 z=z↔up z=z))/\kL q.1 q.2.2.1 q.2.2.2 r/\q.2.2.2<S.N)
   (λ q=>pc [(0,.ptr (bx q.2.2.2) 1 0 0)]) (λ q=>q.2.1) (λ q=>q.2.2.1) (up,O,n0,x)
   ⟨hL,.refl O,λ _ _ h=>h,aF,λ _ _=>Iff.rfl,hn0,hx⟩ (.of_eq rfl rfl) ?_
  rintro⟨u,Q,n,y⟩ ⟨h1,h2,h3,h4,h5,h6,h7⟩;simp only at h1 h2 h3 h4 h5 h6 h7;have hb:=h1.box y h7;have hyl:=h1.lt h7;unfold fQ at hb;cases h6 with
  |here _ pG=>
   rw[po pG]at hb;simp only[hb,aA,ch,↓OD,OA,reduceEqDiff,reduceCtorEq,reduceAdd,reduceLT,reduceLeDiff,reduceIte];exact ck (.inl rfl) ⟨by simp only[↓OD,OA,reduceEqDiff,reduceCtorEq,reduceAdd,reduceLT,reduceLeDiff,reduceIte],u,h1,h2,h3,h4,h5⟩
  |step m _ _ bB amg=>
   have h8:=h4 y h7;have y7:=h1.box (u y) h8;unfold fQ at y7;rw[aa1 bB]at hb;cases amg with
   |here _ pG=>
    rw[po pG]at y7;simp only[hb,y7,aA,ch,↓OD,OA,reduceEqDiff,reduceCtorEq,reduceAdd,reduceLT,reduceLeDiff,reduceIte];exact b6 (u,Q,0,u y) ⟨h1,h2,h3,h4,h5,.here _ pG,h8⟩ (show 0<0+1 by omega) (.of_eq rfl rfl)
   |step k _ _ adT agn=>
    rw[aa1 adT]at y7;have hn1:kL u (k+1+1) y r:= .step _ _ _ bB (.step _ _ _ adT agn);obtain⟨l1,l2⟩:=h1.aqy (c:=y) (p:=u (u y)) h7;have hha:=cr.axl hn1.to bB;have huy:cT u y (u (u y)) y=u (u y):=by unfold cT;rw[if_pos rfl]
    have awQ:u (u y)≠y:=λ e=>by
     have:=agn;rw[e]at this;have:=hn1.qq this;omega
    have hbS:∀v,(Q.set (bx y) v)[bx y]? =some v:=λ v=>List.getElem?_set_self hyl
    have dL:fQ S (cT u y (u (u y))) bx kr y= .live 66 5 [.agg [aA (S.ty y).Kind,aA (S.ty y).N,ch (S.ty y).Name,kS S kr y,.ptr (bx (u (u y))) 1 0 0]]:=by
     unfold fQ;rw[aa1 (by rw[huy];exact awQ),huy]
    rw[dL]at l1 l2;have uY:(kS S kr y).cg=true:=by unfold kS;split<;>rfl
    have hb3:=h1.box (u (u y)) (h4 _ h8);unfold fQ at hb3;simp only[hb,y7,hb3,hbS,uY,aA,ch,↓OD,OA,reduceEqDiff,reduceCtorEq,reduceAdd,reduceLT,reduceLeDiff,reduceIte]
    exact b6 (cT u y (u (u y)),_,k,u (u y)) ⟨l1,h2.trans l2,λ x r hr=>hha x r (h3 x r hr),p7 h4 (h4 _ (h4 y h7)),λ z hz=>by
     by_cases hzy:z=y
     ·subst hzy;exact⟨λ e=>(awQ (huy.symm.trans e)).elim,λ e=>(bB ((h5 z hz).2 e)).elim⟩
     ·have e:cT u y (u (u y)) z=u z:=by unfold cT;rw[if_neg hzy]
      show cT u y (u (u y)) z=z↔up z=z;rw[e];exact h5 z hz,agn.ax7 hn1 (by omega),h4 _ (h4 y h7)⟩ (show k<k+1+1 by omega) (.of_eq rfl rfl)
 obtain⟨res,O',⟨rfl,cj,h⟩,hc⟩:=key;exact⟨cj,O',hc,h⟩
end Go.Proofs.Ab
