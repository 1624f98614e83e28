/-
  The walk of FrameTorn: joined frames, broken off anywhere.
-/
import Derived.Test.YthmbjmknifkbaaaFrameLit
import Derived.Test.YthmbjmknifkbaaaTexts
namespace Go.Proofs.Ythmbjmknifkbaaa
open Go.RowKit
set_option maxHeartbeats 1000000
set_option maxRecDepth 100000
set_option linter.unusedVariables false

/-- Strings, byte by byte. -/
def tbT (l : List ByteArray) : List (List UInt8) := l.map fun s => s.data.toList
theorem tbT_S (l : List ByteArray) : (tbT l).map S = l := by
  unfold tbT
  rw [List.map_map]
  conv => rhs; rw [← List.map_id l]
  apply List.map_congr_left
  intro s _
  exact S_of s
theorem joinOk_take {l : List (List UInt8)} (h : joinOk l = true) (k : Nat) : joinOk (l.take k) = true := by
  obtain ⟨h1, h2⟩ := joinOk_all h
  exact joinOk_yes (fun t ht => h1 t (List.mem_of_mem_take ht)) (Nat.le_trans (join_take_le l k) h2)

end Go.Proofs.Ythmbjmknifkbaaa
