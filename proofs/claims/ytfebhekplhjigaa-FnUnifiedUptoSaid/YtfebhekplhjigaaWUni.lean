/-
  Unify of the program: nodes in memory, find.
-/
import Derived.Test.YtfebhekplhjigaaPUni
import Derived.Test.YtfebhekplhjigaaCSameTy
import Derived.Test.YtfebhekplhjigaaCFree
import Derived.Test.YtfebhekplhjigaaGM
import Derived.Test.YtfebhekplhjigaaAbM5
import Derived.Test.YtfebhekplhjigaaSU
open Nat(reduceEqDiff reduceLeDiff reduceAdd reduceLT reduceMul)
set_option linter.unusedSimpArgs false
set_option linter.unusedVariables false
namespace Go.Ab
set_option maxRecDepth 100000
inductive kf(up:Nat->Nat):Nat->Nat->Nat->Prop
 |here (x:Nat):up x=x->kf up 0 x x
 |step (n x r:Nat):up x≠x->kf up n (up x) r->kf up (n+1) x r
theorem kf.of{up:Nat->Nat}{x r:Nat}(h:bI up x r):∃n,kf up n x r:=by
 induction h with
 |here x h=>exact⟨0,.here x h⟩
 |step x r h _ ih=>obtain⟨n,hn⟩:=ih;exact⟨n+1,.step n x r h hn⟩
theorem kf.to{up:Nat->Nat}{n x r:Nat}(h:kf up n x r):bI up x r:=by
 induction h with
 |here x h=>exact .here x h
 |step n x r h _ ih=>exact .step x r h ih
theorem kf.pf{up:Nat->Nat}{n m x r s:Nat}(h:kf up n x r):kf up m x s->n=m:=by
 induction h generalizing m with
 |here x h=>intro k;cases k with
  |here _ _=>rfl
  |step _ _ _ k _=>exact(k h).elim
 |step n x r h _ ih=>intro k;cases k with
  |here _ k=>exact(h k).elim
  |step m _ _ _ k=>rw[ih k]
theorem kf.az0{up:Nat->Nat}{m x r:Nat}(h:kf up m x r){n c s p:Nat}(hc:kf up n c s)(aF:m<n):kf (bV up c p) m x r:=by
 induction h with
 |here x h=>
  have hx:x≠c:=λ e=>by subst e;have:=hc.pf (.here _ h);omega
  exact .here x (by unfold bV;rw[if_neg hx];exact h)
 |step m x r h k ih=>
  have hx:x≠c:=λ e=>by subst e;have:=hc.pf (.step m _ r h k);omega
  have hu:bV up c p x=up x:=by unfold bV;rw[if_neg hx]
  exact .step m x r (by rw[hu];exact h) (by rw[hu];exact ih (by omega))
end Go.Ab
namespace Go.Proofs.Ab
open Go.Ab
set_option maxRecDepth 100000
set_option maxHeartbeats 4000000
def lE(S:Net)(kr:Nat->Nat)(x:Nat):AV:=if S.kids x= []then .aw else .row (kr x) (S.kids x).length
def upC(bx:Nat->Nat)(up:Nat->Nat)(x:Nat):AV:=if up x=x then .v (.pointer none)else .ptr (bx (up x)) 1 0 0
def fY(S:Net)(up bx kr:Nat->Nat)(x:Nat):ad:= .live 66 5 [.agg [au (S.ty x).Kind,au (S.ty x).N,bZ (S.ty x).Name,lE S kr x,upC bx up x]]
def kD(bx:Nat->Nat)(l:List Nat):List AV:=l.map λ k=> .ptr (bx k) 1 0 0
structure cv(S:Net)(up bx kr:Nat->Nat)(O:List ad):Prop where
 box:∀x,x<S.N->O[bx x]? =some (fY S up bx kr x)
 row:∀x,x<S.N->S.kids x≠[]->O[kr x]? =some (.live 64 1 (kD bx (S.kids x)))
 inj:∀x y,x<S.N->y<S.N->bx x=bx y->x=y
 sep:∀x y,x<S.N->y<S.N->S.kids y≠[]->kr y≠bx x
 few:∀x,x<S.N->(S.kids x).length<=1048576
def ke(S:Net)(bx:Nat->Nat)(O O':List ad):Prop:=O.length<=O'.length/\∀n,n<O.length->(∀x,x<S.N->n≠bx x)->O'[n]? =O[n]?
theorem ke.refl{S:Net}{bx:Nat->Nat}(O:List ad):ke S bx O O:=⟨Nat.le_refl _,λ _ _ _=>rfl⟩
theorem ke.trans{S:Net}{bx:Nat->Nat}{O O' nc:List ad}(h:ke S bx O O')(k:ke S bx O' nc):ke S bx O nc:=
 ⟨Nat.le_trans h.1 k.1,λ n hn hx=>(k.2 n (Nat.lt_of_lt_of_le hn h.1) hx).trans (h.2 n hn hx)⟩
theorem cv.lt{S:Net}{up bx kr:Nat->Nat}{O:List ad}(h:cv S up bx kr O){x:Nat}(hx:x<S.N):bx x<O.length:=(List.getElem?_eq_some_iff.1 (h.box x hx)).1
theorem cv.aiZ{S:Net}{up bx kr:Nat->Nat}{O:List ad}(h:cv S up bx kr O){c p:Nat}(hc:c<S.N):cv S (bV up c p) bx kr (O.set (bx c) (fY S (bV up c p) bx kr c))/\ke S bx O (O.set (bx c) (fY S (bV up c p) bx kr c)):=by
 refine⟨⟨λ x hx=> ?_,λ x hx hk=> ?_,h.inj,h.sep,h.few⟩,by simp,λ n hn hx=>by rw[List.getElem?_set_ne (λ e=>hx c hc e.symm)]⟩
 ·by_cases hxc:x=c
  ·subst hxc;exact List.getElem?_set_self (h.lt hc)
  ·rw[List.getElem?_set_ne (λ e=>hxc (h.inj c x hc hx e).symm),h.box x hx];have:upC bx (bV up c p) x=upC bx up x:=by unfold upC bV;simp only[if_neg hxc]
   unfold fY;rw[this]
 ·rw[List.getElem?_set_ne (λ e=>h.sep c x hc hx hk e.symm)];exact h.row x hx hk
theorem pZ{bx up:Nat->Nat}{x:Nat}(h:up x=x):upC bx up x= .v (.pointer none):=if_pos h
theorem acz{bx up:Nat->Nat}{x:Nat}(h:up x≠x):upC bx up x= .ptr (bx (up x)) 1 0 0:=if_neg h
theorem lq{S:Net}{up bx kr:Nat->Nat}{O:List ad}(hL:cv S up bx kr O)(aF:∀x,x<S.N->up x<S.N){x r:Nat}(hx:x<S.N)(hr:bI up x r):
  ∃bw O',fE Try.prog F.fO [.ptr (bx x) 1 0 0] O (.ptr (bx r) 1 0 0) O'/\cv S bw bx kr O'/\ke S bx O O'/\dy up bw/\(∀z,z<S.N->bw z<S.N)/\(∀z,z<S.N->(bw z=z↔up z=z)):=by
 have key:∃res O',(res= .ptr (bx r) 1 0 0/\∃bw,cv S bw bx kr O'/\ke S bx O O'/\dy up bw/\(∀z,z<S.N->bw z<S.N)/\(∀z,z<S.N->(bw z=z↔up z=z)))/\fE Try.prog F.fO [.ptr (bx x) 1 0 0] O res O':=by
  obtain⟨n0,hn0⟩:=kf.of hr;refine jx A.adG rfl ?_;simp only[A.fO,↓OD,OA,reduceCtorEq]
  refine bd (ι:=(Nat->Nat)×List ad×Nat×Nat) (λ q=>cv S q.1 bx kr q.2.1/\ke S bx O q.2.1/\dy up q.1/\(∀z,z<S.N->q.1 z<S.N)/\(∀z,z<S.N->(q.1 z=z↔up z=z))/\kf q.1 q.2.2.1 q.2.2.2 r/\q.2.2.2<S.N)
   (λ q=>jw [(0,.ptr (bx q.2.2.2) 1 0 0)]) (λ q=>q.2.1) (λ q=>q.2.2.1) (up,O,n0,x)
   ⟨hL,.refl O,λ _ _ h=>h,aF,λ _ _=>Iff.rfl,hn0,hx⟩ (.of_eq rfl rfl) ?_
  rintro⟨u,Q,n,y⟩ ⟨h1,h2,h3,h4,h5,h6,h7⟩;simp only at h1 h2 h3 h4 h5 h6 h7;have hb:=h1.box y h7;have hyl:=h1.lt h7;unfold fY at hb;cases h6 with
  |here _ py=>
   rw[pZ py]at hb;simp only[hb,au,bZ,↓OD,OA,reduceEqDiff,reduceCtorEq,reduceAdd];exact aY (.inl rfl) ⟨by simp only[OA],u,h1,h2,h3,h4,h5⟩
  |step m _ _ bn afB=>
   have h8:=h4 y h7;have hb2:=h1.box (u y) h8;unfold fY at hb2;rw[acz bn]at hb;cases afB with
   |here _ py=>
    rw[pZ py]at hb2;simp only[hb,hb2,au,bZ,↓OD,OA,reduceEqDiff,reduceCtorEq,reduceAdd];exact a6 (u,Q,0,u y) ⟨h1,h2,h3,h4,h5,.here _ py,h8⟩ (show 0<0+1 by omega) (.of_eq rfl rfl)
   |step k _ _ afF ah9=>
    rw[acz afF]at hb2;have hn1:kf u (k+1+1) y r:= .step _ _ _ bn (.step _ _ _ afF ah9);obtain⟨l1,l2⟩:=h1.aiZ (c:=y) (p:=u (u y)) h7;have hha:=bI.azg hn1.to bn;have huy:bV u y (u (u y)) y=u (u y):=by unfold bV;rw[if_pos rfl]
    have ayK:u (u y)≠y:=λ e=>by
     have:=ah9;rw[e]at this;have:=hn1.pf this;omega
    have hbS:∀v,(Q.set (bx y) v)[bx y]? =some v:=λ v=>List.getElem?_set_self hyl
    have dM:fY S (bV u y (u (u y))) bx kr y= .live 66 5 [.agg [au (S.ty y).Kind,au (S.ty y).N,bZ (S.ty y).Name,lE S kr y,.ptr (bx (u (u y))) 1 0 0]]:=by
     unfold fY;rw[acz (by rw[huy];exact ayK),huy]
    rw[dM]at l1 l2;have vj:(lE S kr y).cg=true:=by unfold lE;split<;>rfl
    have hb3:=h1.box (u (u y)) (h4 _ h8);unfold fY at hb3;simp only[hb,hb2,hb3,hbS,au,bZ,↓OD,OA,reduceEqDiff,reduceCtorEq,reduceAdd]
    exact a6 (bV u y (u (u y)),_,k,u (u y)) ⟨l1,h2.trans l2,λ x r hr=>hha x r (h3 x r hr),oM h4 (h4 _ (h4 y h7)),λ z hz=>by
     by_cases hzy:z=y
     ·subst hzy;exact⟨λ e=>(ayK (huy.symm.trans e)).elim,λ e=>(bn ((h5 z hz).2 e)).elim⟩
     ·have e:bV u y (u (u y)) z=u z:=by unfold bV;rw[if_neg hzy]
      show bV u y (u (u y)) z=z↔up z=z;rw[e];exact h5 z hz,ah9.az0 hn1 (by omega),h4 _ (h4 y h7)⟩ (show k<k+1+1 by omega) (.of_eq rfl rfl)
 obtain⟨res,O',⟨rfl,bw,h⟩,hc⟩:=key;exact⟨bw,O',hc,h⟩
end Go.Proofs.Ab
