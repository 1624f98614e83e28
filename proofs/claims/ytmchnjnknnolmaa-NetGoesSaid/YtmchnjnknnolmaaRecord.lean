/-
  Contracts of package record: has, Check: what each call returns, for every argument; new memory alone is written.
-/
import Derived.Test.YtmchnjnknnolmaaRecordPlain
import Derived.Test.YtmchnjnknnolmaaNumRef
import Derived.Test.YtmchnjnknnolmaaBallotRef
namespace Go.Proofs.Ytmchnjnknnolmaa
open Go.RowKit Bal
set_option maxHeartbeats 1000000
set_option maxRecDepth 100000
set_option linter.unusedVariables false
set_option linter.unusedSimpArgs false

def rE (k g s b : Int) (n : Nat) : Int := if Rp.mayB k g s b n then 0 else 8
end Go.Proofs.Ytmchnjnknnolmaa
