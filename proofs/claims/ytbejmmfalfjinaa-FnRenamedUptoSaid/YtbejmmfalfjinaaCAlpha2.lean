/-
  TREES THAT ARE ALIKE BUT FOR THE NAMES THAT THEY BIND: the other walk, and the law's contracts.
-/
import Derived.Test.YtbejmmfalfjinaaCAlpha
import Derived.Test.YtbejmmfalfjinaaGM
set_option linter.unusedVariables false
set_option linter.unusedSimpArgs false
set_option linter.defProp false
namespace Go.Ab
set_option maxRecDepth 100000
set_option maxHeartbeats 4000000
/- Exps that are right -/
end Go.Ab
namespace Go.Proofs.Ab
open Go.Ab
set_option maxRecDepth 100000
set_option maxHeartbeats 4000000
end Go.Proofs.Ab
