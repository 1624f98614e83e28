/-
  record.Read: its closure by a contract of its own: what is left of the bytes lies in a box, and whether something was wrong in another one; the call's answer.
-/
import Derived.Test.YtmchnjnknnolmaaRecord
import Derived.Test.YtmchnjnknnolmaaConv
namespace Go.Proofs.Ytmchnjnknnolmaa
open Go.RowKit Bal
set_option maxHeartbeats 1000000
set_option maxRecDepth 100000
set_option linter.unusedVariables false
set_option linter.unusedSimpArgs false

/-- How many bytes the next number takes. -/
def nk (l : List UInt8) : Nat := match Nm.get l with | some p => p.2 | none => 0
theorem nk_le (l : List UInt8) : nk l ≤ l.length := by
  unfold nk
  cases h : Nm.get l with
  | none => exact Nat.zero_le _
  | some p => obtain ⟨m, k⟩ := p; exact (Nm.get_back h).2.2.1
theorem next_drop (l : List UInt8) (b : Bool) : (Rp.next (l, b)).2.1 = l.drop (nk l) := by
  unfold Rp.next nk
  cases h : Nm.get l with
  | none => simp
  | some p => simp
theorem and255 (k : Nat) (hk : k < 9223372036854775808) : bits .and .i64 (k : Int) 255 = ((k % 256 : Nat) : Int) := by
  have h := i64_and_nat k 255 hk (by omega)
  have e : k &&& 255 = k % 256 := Nat.and_two_pow_sub_one_eq_mod k 8
  rw [e] at h
  exact h

theorem cutA_zero (A : Option Addr) (c : Nat) : cutA A c 0 = A := by
  unfold cutA
  split
  · rfl
  · cases A with
    | none => rfl
    | some a => simp [Addr.add]
end Go.Proofs.Ytmchnjnknnolmaa
