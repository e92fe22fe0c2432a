/-
  TYPES MADE ONE, the plain law: tables of nodes; sizes.
-/
import Derived.Test.YtfebhekplhjigaaPUni
set_option linter.unusedVariables false
set_option linter.unusedSimpArgs false
namespace Go.Ab
set_option maxRecDepth 100000
def my(bx:Nat->Nat)(st:Nat->Int)(ks:List Nat):List (AV×AV):=ks.map λ x=>(.ptr (bx x) 1 0 0,.v (.int .i64 (st x)))
def za(st:Nat->Int)(c:Nat)(v:Int):Nat->Int:=λ x=>if x=c then v else st x
theorem iG(st:Nat->Int)(c:Nat)(v:Int):za st c v c=v:=if_pos rfl
theorem fU(st:Nat->Int){c x:Nat}(v:Int)(h:x≠c):za st c v x=st x:=if_neg h
theorem xp{bx:Nat->Nat}{st:Nat->Int}{j:Nat}:∀{ks:List Nat} {i:Nat},(∀x∈ks,bx x≠j)->gR j (my bx st ks) i=none
 | [],_,_=>rfl
 |x::ks,i,h=>by
  show(if j=bx x then _ else gR j (my bx st ks) (i+1))=none;rw[if_neg (λ e=>h x (by simp) e.symm)];exact xp λ y hy=>h y (by simp[hy])
theorem xq{bx:Nat->Nat}{st:Nat->Int}{x:Nat}:∀{ks:List Nat} {i:Nat},x∈ks->(∀y∈ks,bx y=bx x->y=x)->∃k,gR (bx x) (my bx st ks) i=some (i+k,.v (.int .i64 (st x)))/\ks[k]? =some x
 | [],_,h,_=>by simp at h
 |y::ks,i,h,hj=>by
  show∃k,(if bx x=bx y then some (i,.v (.int .i64 (st y)))else gR (bx x) (my bx st ks) (i+1))=_/\_;by_cases e:bx x=bx y
  ·have:=hj y (by simp) e.symm;subst this;exact⟨0,by rw[if_pos rfl];rfl,rfl⟩
  ·rw[if_neg e]
   have hx:x∈ks:=by
    rcases List.mem_cons.1 h with h|h
    ·subst h;exact(e rfl).elim
    ·exact h
   obtain⟨k,h1,h2⟩:=xq (i:=i+1) hx λ y hy=>hj y (by simp[hy])
   exact⟨k+1,by rw[h1];congr 2;omega,by simpa using h2⟩
theorem ak0{bx:Nat->Nat}{st:Nat->Int}{x:Nat}{v:Int}{ks:List Nat}(h:x∉ks)(hj:∀y∈ks,bx y=bx x->y=x):jY (bx x) (.v (.int .i64 v)) (my bx st ks)=my bx (za st x v) (ks++ [x]):=by
 unfold jY;rw[xp λ y hy e=>h (by rw[←hj y hy e];exact hy)]
 show my bx st ks++ [(.ptr (bx x) 1 0 0,.v (.int .i64 v))]=_;unfold my;rw[List.map_append];congr 1
 ·exact List.map_congr_left λ y hy=>by rw[fU _ _ (by intro e;subst e;exact h hy)]
 ·simp[iG]
theorem akZ{bx:Nat->Nat}{st:Nat->Int}{x:Nat}{v:Int}{ks:List Nat}(hn:ks.Nodup)(h:x∈ks)(hj:∀y∈ks,bx y=bx x->y=x):jY (bx x) (.v (.int .i64 v)) (my bx st ks)=my bx (za st x v) ks:=by
 obtain⟨k,h1,h2⟩:=xq (st:=st) (i:=0) h hj;unfold jY;rw[h1];simp only[Nat.zero_add];apply List.ext_getElem?;intro i;have hk:=(List.getElem?_eq_some_iff.1 h2).1;by_cases hi:i=k
 ·subst hi;rw[List.getElem?_set_self (by simpa [my]using hk)];unfold my;rw[List.getElem?_map,h2];simp[iG]
 ·rw[List.getElem?_set_ne (λ e=>hi e.symm)];unfold my;rw[List.getElem?_map,List.getElem?_map];cases hy:ks[i]? with
  |none=>rfl
  |some y=>
   have:y≠x:=λ e=>by
    subst e;obtain⟨a1,a2⟩:=List.getElem?_eq_some_iff.1 hy;obtain⟨b1,b2⟩:=List.getElem?_eq_some_iff.1 h2;have:=(List.getElem_inj hn).1 (a2.trans b2.symm);exact hi this
   simp[fU _ _ this]
def jS(S:Net)(st:Nat->Int):Nat:=(List.range S.N).countP λ x=>decide (st x=0)
end Go.Ab
