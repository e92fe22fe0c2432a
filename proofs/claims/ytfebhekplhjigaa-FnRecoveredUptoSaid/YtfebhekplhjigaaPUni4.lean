/-
  TYPES MADE ONE, the plain law: types that may be asked.
-/
import Derived.Test.YtfebhekplhjigaaPUni3
open Bool(and_eq_true)
open List(all_eq_true)
set_option linter.unusedVariables false
set_option linter.unusedSimpArgs false
namespace Go.Ab
set_option maxRecDepth 100000
theorem aa.sy{x:aa}(h:x.iU=true)(h9:9<=x.Kind/\x.Kind<=11):x.Name=⟨#[]⟩/\x.Kids= []/\0<=x.N:=by
 rw[aa.iw,and_eq_true]at h;have hn:=h.1;have n1:¬(x.Kind=1∨x.Kind=2∨x.Kind=3∨x.Kind=4):=by omega
 have n2:x.Kind≠5:=by omega
 have n3:x.Kind≠6:=by omega
 have n4:x.Kind≠7:=by omega
 have n5:x.Kind≠8:=by omega
 have n6:x.Kind=9∨x.Kind=10∨x.Kind=11:=by omega
 unfold aa.eT at hn;rw[if_neg n1,if_neg n2,if_neg n3,if_neg n4,if_neg n5,if_pos n6]at hn;simp only[and_eq_true,Bool.or_eq_true,decide_eq_true_eq]at hn;obtain⟨⟨h1,_⟩,h2,h3⟩:=hn;refine⟨?_,List.eq_nil_of_length_eq_zero h2,h3⟩;rcases h1 with h1|h1
 ·omega
 ·rw[h1];rfl
theorem xH{n k:Int}{y:aa}:∀{l:List aa},y∈l->n∈y.bC k->n∈aa.gH l k
 |x::l,h,hn=>by
  rw[aa.gH,List.mem_append];rcases List.mem_cons.1 h with h|h
  ·subst h;exact .inl hn
  ·exact .inr (xH h hn)
theorem yD{m:Int}(x:aa)(h:x.iU=true)(hf:∀n∈x.bC 11,n<m):x.allM λ n=>∃j:Nat,j<m.toNat/\n=j:=by
 have hk:∀y∈x.Kids,y.allM λ n=>∃j:Nat,j<m.toNat/\n=j:=λ y hy=>by
  have ho:y.iU=true:=by
   rw[aa.iw,and_eq_true,all_eq_true]at h;exact h.2 y hy
  exact yD y ho λ n hn=>hf n (by rw[aa.kI,List.mem_append];exact .inr (xH hy hn))
 have h0:x.Kind=11->x.Name=⟨#[]⟩/\x.Kids= []/\∃j:Nat,j<m.toNat/\x.N=j:=λ sU=>by
  obtain⟨h1,h2,h3⟩:=aa.sy h ⟨by omega,by omega⟩;have:=hf x.N (by rw[aa.kI,if_pos sU];simp);exact⟨h1,h2,x.N.toNat,by omega,by omega⟩
 rw[x.ug];exact⟨h0,(aa.lM _ _).2 hk⟩
termination_by SizeOf.sizeOf x
decreasing_by exact aa.cP hy
theorem aff{m:Int}{x:aa}(h:jy m x=true):x.iU=true/\x.allM λ n=>∃j:Nat,j<m.toNat/\n=j:=by
 unfold jy at h;simp only[and_eq_true,all_eq_true,decide_eq_true_eq]at h;exact⟨h.1.1,yD x h.1.1 h.2⟩
theorem iC.iU{S:Net}{up:Nat->Nat}(hs:S.ok)(hl:∀x,x<S.N->up x<S.N)(ho:∀x,x<S.N->(S.ty x).iU=true):∀(n x:Nat) (t:aa),x<S.N->SizeOf.sizeOf t<=n->iC S up x t->t.iU=true:=by
 intro n
 induction n with
 |zero=>intro x t _ h;have:0<SizeOf.sizeOf t:=by cases t;simp;omega
        omega
 |succ n ih=>
  intro x t hx h hv;cases hv with
  |mt _ r hr hm=>
   have h1:=ho r (hr.lt hl hx);rw[(hs.qJ r (hs.isMeta r (hr.lt hl hx) hm)).1]at h1;exact h1
  |node _ r ts hr hm nh=>
   have jw:=hr.lt hl hx;have h1:=ho r jw;rw[aa.iw,and_eq_true]at h1⊢;obtain⟨q1,q2⟩:=lF.at nh;refine⟨?_,List.all_eq_true.2 λ t ht=> ?_⟩
   ·have h2:=h1.1;have e:(S.ty r).Kids.length=ts.length:=by rw[hs.xT r jw,List.length_map,q1]
    unfold aa.eT at h2⊢;rw[e]at h2;exact h2
   ·have ht':t∈ts:=ht;obtain⟨i,hi⟩:=List.getElem?_of_mem ht';have hil:=(List.getElem?_eq_some_iff.1 hi).1;have hk:(S.kids r)[i]? =some ((S.kids r)[i]'(by omega)):=List.getElem?_eq_getElem (by omega);obtain⟨t',ht2,hvt⟩:=q2 i _ hk;rw[hi]at ht2;cases ht2
    exact ih _ t (hs.lt r jw _ (List.mem_of_getElem? hk)) (by
     have:SizeOf.sizeOf t<SizeOf.sizeOf (aa.mk (S.ty r).Kind (S.ty r).N (S.ty r).Name ts):=gP (show t∈ts from ht');omega) hvt
theorem pY.ash{S:Net}{up:Nat->Nat}{qs:List (Nat×Nat)}{ps:List (aa×aa)}(h:pY S up qs ps){τ:Int->aa}(hτ:∀k:Nat,k<S.M->iC S up k (τ k)):∀t∈(List.range S.M).map (λ k:Nat=>τ k),t.iU=true:=λ t ht=>by
 obtain⟨k,hk,rfl⟩:=List.mem_map.1 ht;have ot:=List.mem_range.1 hk;exact iC.iU h.ok h.uf.lt h.okm _ k _ (Nat.lt_of_lt_of_le ot h.ok.le) (Nat.le_refl _) (hτ k ot)
theorem qD{m:Int}{a b:List aa}(h:dA m a b=true):0<=m/\m<=300/\a.length=b.length/\a.length<=200/\∀t,t∈a∨t∈b->t.iU=true/\t.allM λ n=>∃j:Nat,j<m.toNat/\n=j:=by
 unfold dA at h;simp only[and_eq_true,decide_eq_true_eq,all_eq_true,ld]at h;obtain⟨⟨⟨h1,h2⟩,h3⟩,h4⟩:=h;exact⟨h1.1,h1.2,h2,h3,λ t ht=>aff (h4 t (List.mem_append.2 ht))⟩
end Go.Ab
