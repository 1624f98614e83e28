/-
  Layer 4 in plain Lean: records on a disk: opened, added, written anew; what a crash leaves of them.
-/
import Derived.Test.YthmbjmknifkbaaaDiskPlain
import Derived.Test.YthmbjmknifkbaaaFramePlain
import Derived.Test.YthmbjmknifkbaaaFrameJoin
namespace Go.Proofs.Ythmbjmknifkbaaa
open Go.RowKit
set_option linter.unusedVariables false
set_option linter.unusedSimpArgs false
namespace Wa
open Dp

def opened (d : Disk) : Disk × List (List UInt8) × Int :=
  if Dp.mayD d = true then
    (if (Nm.cut (Dp.seen d)).2 = (Dp.seen d).length then (d, (Nm.cut (Dp.seen d)).1, 0)
     else if (Dp.write d ⟨true, (Dp.seen d).take (Nm.cut (Dp.seen d)).2⟩).2 = 0 then ((Dp.write d ⟨true, (Dp.seen d).take (Nm.cut (Dp.seen d)).2⟩).1, (Nm.cut (Dp.seen d)).1, 0)
     else (Dp.zeroD, [], (Dp.write d ⟨true, (Dp.seen d).take (Nm.cut (Dp.seen d)).2⟩).2))
  else (Dp.zeroD, [], 30)
/-- Writes, one behind the other, as long as none is refused. -/
def adds : Disk → List (List UInt8) → Disk × Int
  | d, [] => (d, 0)
  | d, t :: l => if (Dp.write d ⟨false, Nm.txt t⟩).2 = 0 then adds (Dp.write d ⟨false, Nm.txt t⟩).1 l else (Dp.zeroD, (Dp.write d ⟨false, Nm.txt t⟩).2)
def add (d : Disk) (l : List (List UInt8)) : Disk × Int :=
  if Dp.mayD d = true then
    (if l.all (fun t => decide (t.length ≤ 4096)) = true then
      (if (Nm.cut (Dp.seen d)).2 = (Dp.seen d).length then adds d l else (Dp.zeroD, 8))
     else (Dp.zeroD, 3))
  else (Dp.zeroD, 30)
def reset (d : Disk) (l : List (List UInt8)) : Disk × Int :=
  if Dp.mayD d = true then (if joinOk l = true then Dp.write d ⟨true, Nm.join l⟩ else (Dp.zeroD, 3)) else (Dp.zeroD, 30)
end Wa
end Go.Proofs.Ythmbjmknifkbaaa
