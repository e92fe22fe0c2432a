/-
  WHAT THE LEXER GIVES IS NO GREATER THAN ITS TEXT; tokens marked and held.
-/
import Derived.Test.YtlhnahogacofoaaDoorCLexI
import Derived.Test.YtlhnahogacofoaaDoorCOwn0
set_option linter.unusedVariables false
set_option linter.unusedSimpArgs false
set_option linter.defProp false
namespace Go.Ab
open Go.Proofs.Ab
set_option maxRecDepth 100000
set_option maxHeartbeats 4000000
end Go.Ab
namespace Go.Proofs.Ab
open Go.Ab
set_option maxRecDepth 100000
set_option maxHeartbeats 4000000
end Go.Proofs.Ab
