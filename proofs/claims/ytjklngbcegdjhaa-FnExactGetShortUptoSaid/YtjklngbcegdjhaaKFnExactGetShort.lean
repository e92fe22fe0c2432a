/- Part of a proof: the functions that the law reaches, walked by the abstract logic of the texts Ab. -/
import Derived.Test.YtjklngbcegdjhaaCByte

set_option linter.unusedVariables false
set_option linter.unusedSimpArgs false
set_option linter.defProp false
namespace Go.Proofs.Ab
open Go.Ab
theorem law_FnExactGetShort (x0 : List Int) (x1 : Int) (hb : x0.length ≤ 1048576) (ho0 : ∀ y ∈ x0, 0 ≤ y ∧ y < 256) (_ : inR x1) : PCon Try.prog F.laws_FnExactGetShort [.sl (x0.map fun y => .v (.int .u8 y)), .v (.int .i64 x1)] (.v (.bool true)) := law_GetShort x0 ho0 hb x1
end Go.Proofs.Ab
