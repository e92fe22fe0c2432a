/-
  THE FUNCTIONS OF PACKAGE slices that are reached (printed by wip/tool/slib.py).
-/
import Derived.Test.YtnkpfblgkonpoaaST
import Derived.Test.YtnkpfblgkonpoaaGM

set_option linter.unusedVariables false
set_option linter.unusedSimpArgs false
set_option linter.defProp false

namespace Go.Proofs.Ab
open Go.Ab
set_option maxRecDepth 100000

theorem eqF_Ty (l m : List VTy) (g : FuncId) (caps : List AV) (p : VTy → VTy → Bool) (hl : l.length ≤ 1073741824) (hcaps : AV.norefs caps = true) (hc : ∀ x ∈ l, ∀ y ∈ m, PCon Try.prog g (VTy.av x :: VTy.av y :: caps) (.v (.bool (p x y)))) : PCon Try.prog F.slices_EqualFunc__impl_Ty__impl_Ty_impl_Ty_impl_Ty [.sl (l.map VTy.av), .sl (m.map VTy.av), .fn g caps] (.v (.bool (all2 p l m))) :=
  T.slices_EqualFunc__impl_Ty__impl_Ty_impl_Ty_impl_Ty_con rfl (by simp [AV.norefs, AV.noref, (norefsM (f := VTy.av) (l := l) VTy.noref), (norefsM (f := VTy.av) (l := m) VTy.noref), hcaps]) (eqF_T p VTy.shape hl hc)
end Go.Proofs.Ab
