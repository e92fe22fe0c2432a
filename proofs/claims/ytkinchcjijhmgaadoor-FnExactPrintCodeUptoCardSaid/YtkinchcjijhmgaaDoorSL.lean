/-
  THE FUNCTIONS OF PACKAGE slices that are reached (printed by wip/tool/slib.py).
-/
import Derived.Test.YtkinchcjijhmgaaDoorST
import Derived.Test.YtkinchcjijhmgaaDoorGM
set_option linter.unusedVariables false
set_option linter.unusedSimpArgs false
set_option linter.defProp false
namespace Go.Proofs.Ab
open Go.Ab
set_option maxRecDepth 100000
theorem idxF_Instr (l : List VInstr) (g : FuncId) (caps : List AV) (p : VInstr → Bool) (hl : l.length ≤ 1073741824) (hcaps : AV.norefs caps = true) (hc : ∀ x ∈ l, PCon Tryd.prog g (VInstr.av x :: caps) (.v (.bool (p x)))) : PCon Tryd.prog F.slices_IndexFunc__impl_Instr_impl_Instr [.sl (l.map VInstr.av), .fn g caps] (.v (.int .i64 (idxR p l 0))) :=
  T.slices_IndexFunc__impl_Instr_impl_Instr_con rfl (by simp [AV.norefs, AV.noref, (norefsM (f := VInstr.av) (l := l) VInstr.noref), hcaps]) (idxF_T p VInstr.shape hl hc)
theorem anyF_Instr (l : List VInstr) (g : FuncId) (caps : List AV) (p : VInstr → Bool) (hl : l.length ≤ 1073741824) (hcaps : AV.norefs caps = true) (hc : ∀ x ∈ l, PCon Tryd.prog g (VInstr.av x :: caps) (.v (.bool (p x)))) : PCon Tryd.prog F.slices_ContainsFunc__impl_Instr_impl_Instr [.sl (l.map VInstr.av), .fn g caps] (.v (.bool (l.any p))) :=
  T.slices_ContainsFunc__impl_Instr_impl_Instr_con rfl (by simp [AV.norefs, AV.noref, (norefsM (f := VInstr.av) (l := l) VInstr.noref), hcaps]) (anyF_T (idxF_Instr l g caps p hl hcaps hc))
end Go.Proofs.Ab
