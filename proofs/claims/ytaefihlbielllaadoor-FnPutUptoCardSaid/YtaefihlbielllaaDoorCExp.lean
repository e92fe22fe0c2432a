/-
  TREES THAT ARE RIGHT: patterns, Exps, types, programs.
-/
import Derived.Test.YtaefihlbielllaaDoorCTok
import Derived.Test.YtaefihlbielllaaDoorSL
set_option linter.unusedVariables false
set_option linter.unusedSimpArgs false
set_option linter.defProp false
namespace Go.Ab
set_option maxRecDepth 100000
set_option maxHeartbeats 4000000
/- patterns -/
/- Exps -/
end Go.Ab
namespace Go.Proofs.Ab
open Go.Ab
set_option maxRecDepth 100000
set_option maxHeartbeats 4000000
end Go.Proofs.Ab
