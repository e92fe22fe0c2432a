/-
  THE FUNCTIONS OF PACKAGE slices that are reached (printed by wip/tool/slib.py).
-/
import Derived.Test.YtfebhekplhjigaaST
import Derived.Test.YtfebhekplhjigaaGM
set_option linter.unusedVariables false
set_option linter.unusedSimpArgs false
set_option linter.defProp false
namespace Go.Proofs.Ab
open Go.Ab
set_option maxRecDepth 100000
theorem idxF_Ty (l : List VTy) (g : FuncId) (caps : List AV) (p : VTy → Bool) (hl : l.length ≤ 1073741824) (hcaps : AV.norefs caps = true) (hc : ∀ x ∈ l, PCon Try.prog g (VTy.av x :: caps) (.v (.bool (p x)))) : PCon Try.prog F.slices_IndexFunc__impl_Ty_impl_Ty [.sl (l.map VTy.av), .fn g caps] (.v (.int .i64 (idxR p l 0))) :=
  T.slices_IndexFunc__impl_Ty_impl_Ty_con rfl (by simp [AV.norefs, AV.noref, (norefsM (f := VTy.av) (l := l) VTy.noref), hcaps]) (idxF_T p VTy.shape hl hc)
theorem idxE_int (l : List Int) (s) (hl : l.length ≤ 1073741824) : PCon Try.prog F.slices_Index__int_int [.sl (l.map avI), avI s] (.v (.int .i64 (idxR (fun y => decide (s = y)) l 0))) :=
  T.slices_Index__int_int_con rfl (by simp [AV.norefs, AV.noref, (norefsM (f := avI) (l := l) fun _ => rfl)]) (idxE_T (g := fun y => .int .i64 y) (fun x y K h => eqlI _ x y K h) (by omega))
theorem idxE_string (l : List ByteArray) (s) (hl : l.length ≤ 1073741824) : PCon Try.prog F.slices_Index__string_string [.sl (l.map avB), avB s] (.v (.int .i64 (idxR (fun y => decide (s = y)) l 0))) :=
  T.slices_Index__string_string_con rfl (by simp [AV.norefs, AV.noref, (norefsM (f := avB) (l := l) fun _ => rfl)]) (idxE_T (g := fun y => .string y) (fun x y K h => eqlS x y K h) (by omega))
theorem eqF_Ty (l m : List VTy) (g : FuncId) (caps : List AV) (p : VTy → VTy → Bool) (hl : l.length ≤ 1073741824) (hcaps : AV.norefs caps = true) (hc : ∀ x ∈ l, ∀ y ∈ m, PCon Try.prog g (VTy.av x :: VTy.av y :: caps) (.v (.bool (p x y)))) : PCon Try.prog F.slices_EqualFunc__impl_Ty__impl_Ty_impl_Ty_impl_Ty [.sl (l.map VTy.av), .sl (m.map VTy.av), .fn g caps] (.v (.bool (all2 p l m))) :=
  T.slices_EqualFunc__impl_Ty__impl_Ty_impl_Ty_impl_Ty_con rfl (by simp [AV.norefs, AV.noref, (norefsM (f := VTy.av) (l := l) VTy.noref), (norefsM (f := VTy.av) (l := m) VTy.noref), hcaps]) (eqF_T p VTy.shape hl hc)
theorem anyF_Ty (l : List VTy) (g : FuncId) (caps : List AV) (p : VTy → Bool) (hl : l.length ≤ 1073741824) (hcaps : AV.norefs caps = true) (hc : ∀ x ∈ l, PCon Try.prog g (VTy.av x :: caps) (.v (.bool (p x)))) : PCon Try.prog F.slices_ContainsFunc__impl_Ty_impl_Ty [.sl (l.map VTy.av), .fn g caps] (.v (.bool (l.any p))) :=
  T.slices_ContainsFunc__impl_Ty_impl_Ty_con rfl (by simp [AV.norefs, AV.noref, (norefsM (f := VTy.av) (l := l) VTy.noref), hcaps]) (anyF_T (idxF_Ty l g caps p hl hcaps hc))
theorem contE_int (l : List Int) (s) (hl : l.length ≤ 1073741824) : PCon Try.prog F.slices_Contains__int_int [.sl (l.map avI), avI s] (.v (.bool (l.any fun y => decide (s = y)))) :=
  T.slices_Contains__int_int_con rfl (by simp [AV.norefs, AV.noref, (norefsM (f := avI) (l := l) fun _ => rfl)]) (anyF_T (idxE_int l s hl))
theorem contE_string (l : List ByteArray) (s) (hl : l.length ≤ 1073741824) : PCon Try.prog F.slices_Contains__string_string [.sl (l.map avB), avB s] (.v (.bool (l.any fun y => decide (s = y)))) :=
  T.slices_Contains__string_string_con rfl (by simp [AV.norefs, AV.noref, (norefsM (f := avB) (l := l) fun _ => rfl)]) (anyF_T (idxE_string l s hl))
end Go.Proofs.Ab
