/-
  Layer 3: disk.Crash.
-/
import Derived.Test.YthmbjmknifkbaaaDiskC
namespace Go.Proofs.Ythmbjmknifkbaaa
open Go.RowKit
set_option maxHeartbeats 4000000
set_option maxRecDepth 100000
set_option linter.unusedVariables false
set_option linter.unusedSimpArgs false

theorem take_min (l : List UInt8) (m : Nat) : l.take (min m l.length) = l.take m := by
  by_cases h : m ≤ l.length
  · rw [Nat.min_eq_left h]
  · rw [Nat.min_eq_right (by omega), List.take_of_length_le (Nat.le_refl _), List.take_of_length_le (by omega)]
theorem part_none {l : List HP} {k : Nat} (h : l.length ≤ k) (m : Nat) : Dp.part (l.map HP.put) k m = [] := by
  unfold Dp.part
  rw [List.getElem?_eq_none (by simpa using h)]
theorem part_some {l : List HP} {k : Nat} {p : HP} (h : l[k]? = some p) (m : Nat) : Dp.part (l.map HP.put) k m = if p.sw then [] else p.d.take m := by
  unfold Dp.part
  rw [List.getElem?_map, h]
  rfl

end Go.Proofs.Ythmbjmknifkbaaa
