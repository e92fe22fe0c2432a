/- Part of a proof: the functions that the law reaches, walked by the abstract logic of the texts Ab. -/
import Derived.Test.YtjklngbcegdjhaaCByte

set_option linter.unusedVariables false
set_option linter.unusedSimpArgs false
set_option linter.defProp false
namespace Go.Proofs.Ab
open Go.Ab
theorem law_FnExactPutShort (x0 : Int) (_ : 0 ≤ 1048576) (ho0 : inR x0) : PCon Try.prog F.laws_FnExactPutShort [.v (.int .i64 x0)] (.v (.bool true)) := law_PutShort x0 (by unfold inR at ho0; omega) (by unfold inR at ho0; omega)
end Go.Proofs.Ab
