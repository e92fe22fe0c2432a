/-
  strconv.Itoa AND strings.Join.
-/
import Derived.Test.YtlhnahogacofoaaDoorGM
import Derived.Test.YtlhnahogacofoaaDoorPShelf
import Derived.Test.YtlhnahogacofoaaDoorST
set_option linter.unusedVariables false
set_option linter.unusedSimpArgs false
set_option linter.defProp false
namespace Go.Proofs.Ab
open Go.Ab
set_option maxRecDepth 100000
set_option maxHeartbeats 4000000
end Go.Proofs.Ab
