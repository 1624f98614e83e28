/-
  Layer 3, the reference: Crash.
-/
import Derived.Test.YthmbjmknifkbaaaDiskE
import Derived.Test.YthmbjmknifkbaaaDiskRefA
namespace Go.Proofs.Ythmbjmknifkbaaa
open Go.RowKit
set_option maxHeartbeats 4000000
set_option maxRecDepth 100000
set_option linter.unusedVariables false
set_option linter.unusedSimpArgs false

end Go.Proofs.Ythmbjmknifkbaaa
