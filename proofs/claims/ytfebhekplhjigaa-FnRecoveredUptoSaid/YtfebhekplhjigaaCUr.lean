/-
  Unify of the reference: what may be asked.
-/
import Derived.Test.YtfebhekplhjigaaPUni4
import Derived.Test.YtfebhekplhjigaaCSiz
import Derived.Test.YtfebhekplhjigaaCFree
import Derived.Test.YtfebhekplhjigaaCSmall
set_option linter.unusedVariables false
set_option linter.unusedSimpArgs false
namespace Go.Proofs.Ab
open Go.Ab
set_option maxRecDepth 100000
set_option maxHeartbeats 4000000
set_option maxHeartbeats 4000000
theorem abo(x:aa)(hk:x.iU=true)(hb:x.wt<=1048576):tf Try.prog F.jf [x.av,aA 11] false 3 1 ((aQ [] (x.bC 11)).map aA):=by
 have:=ac0 x 11 hb;rw[hk]at this;exact this
end Go.Proofs.Ab
