/-
  THE FUNCTIONS OF PACKAGE slices that are reached (printed by wip/tool/slib.py).
-/
import Derived.Test.YtaefihlbielllaaST
import Derived.Test.YtaefihlbielllaaGM
set_option linter.unusedVariables false
set_option linter.unusedSimpArgs false
set_option linter.defProp false
namespace Go.Proofs.Ab
open Go.Ab
set_option maxRecDepth 100000
end Go.Proofs.Ab
