/-
  THE FUNCTIONS OF PACKAGE slices that are reached (printed by wip/tool/slib.py).
-/
import Derived.Test.YtlhnahogacofoaaDoorST
import Derived.Test.YtlhnahogacofoaaDoorGM
set_option linter.unusedVariables false
set_option linter.unusedSimpArgs false
set_option linter.defProp false
namespace Go.Proofs.Ab
open Go.Ab
set_option maxRecDepth 100000
theorem idxE_string (l : List ByteArray) (s) (hl : l.length ≤ 1073741824) : PCon Tryd.prog F.slices_Index__string_string [.sl (l.map avB), avB s] (.v (.int .i64 (idxR (fun y => decide (s = y)) l 0))) :=
  T.slices_Index__string_string_con rfl (by simp [AV.norefs, AV.noref, (norefsM (f := avB) (l := l) fun _ => rfl)]) (idxE_T (g := fun y => .string y) (fun x y K h => eqlS x y K h) (by omega))
theorem contE_string (l : List ByteArray) (s) (hl : l.length ≤ 1073741824) : PCon Tryd.prog F.slices_Contains__string_string [.sl (l.map avB), avB s] (.v (.bool (l.any fun y => decide (s = y)))) :=
  T.slices_Contains__string_string_con rfl (by simp [AV.norefs, AV.noref, (norefsM (f := avB) (l := l) fun _ => rfl)]) (anyF_T (idxE_string l s hl))
end Go.Proofs.Ab
