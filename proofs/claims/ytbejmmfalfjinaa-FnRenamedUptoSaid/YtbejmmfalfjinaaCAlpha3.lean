/-
  TREES THAT ARE ALIKE BUT FOR THE NAMES THAT THEY BIND: the other walk over Exps, and the law's contracts.
-/
import Derived.Test.YtbejmmfalfjinaaCAlpha2
set_option linter.unusedVariables false
set_option linter.unusedSimpArgs false
set_option linter.defProp false
namespace Go.Proofs.Ab
open Go.Ab
set_option maxRecDepth 100000
set_option maxHeartbeats 4000000
end Go.Proofs.Ab
