/-
  Layer 6: the chapter's own test whether it is alive; the walk of QuorumMeets: two majorities have a node in common.
-/
import Derived.Test.YtaoekfgeggopbaaQuorum
namespace Go.Proofs.Ytaoekfgeggopbaa
open Go.RowKit
set_option maxHeartbeats 1000000
set_option maxRecDepth 100000
set_option linter.unusedVariables false

theorem newI (w : World) (l : List Int) (cs : Array Value) (h : cs.toList = ci l) : Reads (w.alloc (.cells cs 3)) (w.heap.size + 1) 1 (some ⟨w.heap.size, 0, none⟩) l.length (ci l) := by
  have := Reads.new w 3 cs
  rw [h] at this
  have e : cs.size = l.length := by rw [← Array.length_toList, h, ci_length]
  rwa [e] at this
end Go.Proofs.Ytaoekfgeggopbaa
