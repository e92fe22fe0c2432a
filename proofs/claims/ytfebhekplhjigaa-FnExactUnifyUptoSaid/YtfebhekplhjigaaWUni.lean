/-
  Unify of the program: nodes in memory, find.
-/
import Derived.Test.YtfebhekplhjigaaPUni
import Derived.Test.YtfebhekplhjigaaCSameTy
import Derived.Test.YtfebhekplhjigaaCFree
import Derived.Test.YtfebhekplhjigaaGM
import Derived.Test.YtfebhekplhjigaaAbM5
import Derived.Test.YtfebhekplhjigaaSU
open Nat(reduceEqDiff reduceLeDiff reduceAdd reduceLT reduceMul)
set_option linter.unusedVariables false
set_option linter.unusedSimpArgs false
namespace Go.Ab
set_option maxRecDepth 100000
inductive kN(up:Nat->Nat):Nat->Nat->Nat->Prop
 |here (x:Nat):up x=x->kN up 0 x x
 |step (n x r:Nat):up x≠x->kN up n (up x) r->kN up (n+1) x r
theorem kN.of{up:Nat->Nat}{x r:Nat}(h:bw up x r):∃n,kN up n x r:=by
 induction h with
 |here x h=>exact⟨0,.here x h⟩
 |step x r h _ ih=>obtain⟨n,hn⟩:=ih;exact⟨n+1,.step n x r h hn⟩
theorem kN.to{up:Nat->Nat}{n x r:Nat}(h:kN up n x r):bw up x r:=by
 induction h with
 |here x h=>exact .here x h
 |step n x r h _ ih=>exact .step x r h ih
theorem kN.rF{up:Nat->Nat}{n m x r s:Nat}(h:kN up n x r):kN up m x s->n=m:=by
 induction h generalizing m with
 |here x h=>intro k;cases k with
  |here _ _=>rfl
  |step _ _ _ k _=>exact(k h).elim
 |step n x r h _ ih=>intro k;cases k with
  |here _ k=>exact(h k).elim
  |step m _ _ _ k=>rw[ih k]
theorem kN.azJ{up:Nat->Nat}{m x r:Nat}(h:kN up m x r){n c s p:Nat}(hc:kN up n c s)(aw:m<n):kN (bH up c p) m x r:=by
 induction h with
 |here x h=>
  have hx:x≠c:=λ e=>by subst e;have:=hc.rF (.here _ h);omega
  exact .here x (by unfold bH;rw[if_neg hx];exact h)
 |step m x r h k ih=>
  have hx:x≠c:=λ e=>by subst e;have:=hc.rF (.step m _ r h k);omega
  have hu:bH up c p x=up x:=by unfold bH;rw[if_neg hx]
  exact .step m x r (by rw[hu];exact h) (by rw[hu];exact ih (by omega))
end Go.Ab
namespace Go.Proofs.Ab
open Go.Ab
set_option maxRecDepth 100000
set_option maxHeartbeats 4000000
def mF(S:Net)(kr:Nat->Nat)(x:Nat):AV:=if S.kids x= []then .aA else .row (kr x) (S.kids x).length
def upC(bx:Nat->Nat)(up:Nat->Nat)(x:Nat):AV:=if up x=x then .v (.pointer none)else .ptr (bx (up x)) 1 0 0
def fM(S:Net)(up bx kr:Nat->Nat)(x:Nat):aa:= .live 66 5 [.agg [aO (S.ty x).Kind,aO (S.ty x).N,cv (S.ty x).Name,mF S kr x,upC bx up x]]
def lg(bx:Nat->Nat)(l:List Nat):List AV:=l.map λ k=> .ptr (bx k) 1 0 0
structure ca(S:Net)(up bx kr:Nat->Nat)(O:List aa):Prop where
 box:∀x,x<S.N->O[bx x]? =some (fM S up bx kr x)
 row:∀x,x<S.N->S.kids x≠[]->O[kr x]? =some (.live 64 1 (lg bx (S.kids x)))
 inj:∀x y,x<S.N->y<S.N->bx x=bx y->x=y
 sep:∀x y,x<S.N->y<S.N->S.kids y≠[]->kr y≠bx x
 few:∀x,x<S.N->(S.kids x).length<=1048576
def kM(S:Net)(bx:Nat->Nat)(O O':List aa):Prop:=O.length<=O'.length/\∀n,n<O.length->(∀x,x<S.N->n≠bx x)->O'[n]? =O[n]?
theorem kM.refl{S:Net}{bx:Nat->Nat}(O:List aa):kM S bx O O:=⟨Nat.le_refl _,λ _ _ _=>rfl⟩
theorem kM.trans{S:Net}{bx:Nat->Nat}{O O' oR:List aa}(h:kM S bx O O')(k:kM S bx O' oR):kM S bx O oR:=
 ⟨Nat.le_trans h.1 k.1,λ n hn hx=>(k.2 n (Nat.lt_of_lt_of_le hn h.1) hx).trans (h.2 n hn hx)⟩
theorem ca.lt{S:Net}{up bx kr:Nat->Nat}{O:List aa}(h:ca S up bx kr O){x:Nat}(hx:x<S.N):bx x<O.length:=(List.getElem?_eq_some_iff.1 (h.box x hx)).1
theorem ca.ajZ{S:Net}{up bx kr:Nat->Nat}{O:List aa}(h:ca S up bx kr O){c p:Nat}(hc:c<S.N):ca S (bH up c p) bx kr (O.set (bx c) (fM S (bH up c p) bx kr c))/\kM S bx O (O.set (bx c) (fM S (bH up c p) bx kr c)):=by
 refine⟨⟨λ x hx=> ?_,λ x hx hk=> ?_,h.inj,h.sep,h.few⟩,by simp,λ n hn hx=>by rw[List.getElem?_set_ne (λ e=>hx c hc e.symm)]⟩
 ·by_cases hxc:x=c
  ·subst hxc;exact List.getElem?_set_self (h.lt hc)
  ·rw[List.getElem?_set_ne (λ e=>hxc (h.inj c x hc hx e).symm),h.box x hx];have:upC bx (bH up c p) x=upC bx up x:=by unfold upC bH;simp only[if_neg hxc]
   unfold fM;rw[this]
 ·rw[List.getElem?_set_ne (λ e=>h.sep c x hc hx hk e.symm)];exact h.row x hx hk
theorem sA{bx up:Nat->Nat}{x:Nat}(h:up x=x):upC bx up x= .v (.pointer none):=if_pos h
theorem aep{bx up:Nat->Nat}{x:Nat}(h:up x≠x):upC bx up x= .ptr (bx (up x)) 1 0 0:=if_neg h
theorem mu{S:Net}{up bx kr:Nat->Nat}{O:List aa}(hL:ca S up bx kr O)(aw:∀x,x<S.N->up x<S.N){x r:Nat}(hx:x<S.N)(hr:bw up x r):
  ∃bh O',cF Try.prog F.fC [.ptr (bx x) 1 0 0] O (.ptr (bx r) 1 0 0) O'/\ca S bh bx kr O'/\kM S bx O O'/\df up bh/\(∀z,z<S.N->bh z<S.N)/\(∀z,z<S.N->(bh z=z↔up z=z)):=by
 have key:∃res O',(res= .ptr (bx r) 1 0 0/\∃bh,ca S bh bx kr O'/\kM S bx O O'/\df up bh/\(∀z,z<S.N->bh z<S.N)/\(∀z,z<S.N->(bh z=z↔up z=z)))/\cF Try.prog F.fC [.ptr (bx x) 1 0 0] O res O':=by
  obtain⟨n0,hn0⟩:=kN.of hr;refine jM A.afl rfl ?_;simp only[A.fC,↓OD,OA,reduceEqDiff,reduceCtorEq,reduceAdd,reduceLT,reduceLeDiff,reduceIte]
  refine aQ (ι:=(Nat->Nat)×List aa×Nat×Nat) (λ q=>ca S q.1 bx kr q.2.1/\kM S bx O q.2.1/\df up q.1/\(∀z,z<S.N->q.1 z<S.N)/\(∀z,z<S.N->(q.1 z=z↔up z=z))/\kN q.1 q.2.2.1 q.2.2.2 r/\q.2.2.2<S.N)
   (λ q=>iA [(0,.ptr (bx q.2.2.2) 1 0 0)]) (λ q=>q.2.1) (λ q=>q.2.2.1) (up,O,n0,x)
   ⟨hL,.refl O,λ _ _ h=>h,aw,λ _ _=>Iff.rfl,hn0,hx⟩ (.of_eq rfl rfl) ?_
  rintro⟨u,Q,n,y⟩ ⟨h1,h2,h3,h4,h5,h6,h7⟩;simp only at h1 h2 h3 h4 h5 h6 h7;have hb:=h1.box y h7;have hyl:=h1.lt h7;unfold fM at hb;cases h6 with
  |here _ rT=>
   rw[sA rT]at hb;simp only[hb,aO,cv,↓OD,OA,reduceEqDiff,reduceCtorEq,reduceAdd,reduceLT,reduceLeDiff,reduceIte];exact aU (.inl rfl) ⟨by simp only[↓OD,OA,reduceEqDiff,reduceCtorEq,reduceAdd,reduceLT,reduceLeDiff,reduceIte],u,h1,h2,h3,h4,h5⟩
  |step m _ _ bk qo=>
   have h8:=h4 y h7;have hb2:=h1.box (u y) h8;unfold fM at hb2;rw[aep bk]at hb;cases qo with
   |here _ rT=>
    rw[sA rT]at hb2;simp only[hb,hb2,aO,cv,↓OD,OA,reduceEqDiff,reduceCtorEq,reduceAdd,reduceLT,reduceLeDiff,reduceIte];exact aL (u,Q,0,u y) ⟨h1,h2,h3,h4,h5,.here _ rT,h8⟩ (show 0<0+1 by omega) (.of_eq rfl rfl)
   |step k _ _ ahj ajb=>
    rw[aep ahj]at hb2;have hn1:kN u (k+1+1) y r:= .step _ _ _ bk (.step _ _ _ ahj ajb);obtain⟨l1,l2⟩:=h1.ajZ (c:=y) (p:=u (u y)) h7;have hha:=bw.ay4 hn1.to bk;have huy:bH u y (u (u y)) y=u (u y):=by unfold bH;rw[if_pos rfl]
    have ayw:u (u y)≠y:=λ e=>by
     have:=ajb;rw[e]at this;have:=hn1.rF this;omega
    have hbS:∀v,(Q.set (bx y) v)[bx y]? =some v:=λ v=>List.getElem?_set_self hyl
    have dE:fM S (bH u y (u (u y))) bx kr y= .live 66 5 [.agg [aO (S.ty y).Kind,aO (S.ty y).N,cv (S.ty y).Name,mF S kr y,.ptr (bx (u (u y))) 1 0 0]]:=by
     unfold fM;rw[aep (by rw[huy];exact ayw),huy]
    rw[dE]at l1 l2;have xk:(mF S kr y).bO=true:=by unfold mF;split<;>rfl
    have hb3:=h1.box (u (u y)) (h4 _ h8);unfold fM at hb3;simp only[hb,hb2,hb3,hbS,xk,aO,cv,↓OD,OA,reduceEqDiff,reduceCtorEq,reduceAdd,reduceLT,reduceLeDiff,reduceIte]
    exact aL (bH u y (u (u y)),_,k,u (u y)) ⟨l1,h2.trans l2,λ x r hr=>hha x r (h3 x r hr),qI h4 (h4 _ (h4 y h7)),λ z hz=>by
     by_cases hzy:z=y
     ·subst hzy;exact⟨λ e=>(ayw (huy.symm.trans e)).elim,λ e=>(bk ((h5 z hz).2 e)).elim⟩
     ·have e:bH u y (u (u y)) z=u z:=by unfold bH;rw[if_neg hzy]
      show bH u y (u (u y)) z=z↔up z=z;rw[e];exact h5 z hz,ajb.azJ hn1 (by omega),h4 _ (h4 y h7)⟩ (show k<k+1+1 by omega) (.of_eq rfl rfl)
 obtain⟨res,O',⟨rfl,bh,h⟩,hc⟩:=key;exact⟨bh,O',hc,h⟩
end Go.Proofs.Ab
