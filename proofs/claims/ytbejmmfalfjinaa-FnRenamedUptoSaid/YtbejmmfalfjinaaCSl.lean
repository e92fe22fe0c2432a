/-
  LISTS OF STRINGS AND NUMBERS, searched and compared.
-/
import Derived.Test.YtbejmmfalfjinaaSL
set_option linter.unusedVariables false
set_option linter.unusedSimpArgs false
set_option linter.defProp false
namespace Go.Proofs.Ab
open Go.Ab
set_option maxRecDepth 100000
set_option maxHeartbeats 4000000
theorem norS (l : List ByteArray) : AV.norefs (l.map avB) = true := norefsM (f := avB) (fun _ => rfl)
end Go.Proofs.Ab
