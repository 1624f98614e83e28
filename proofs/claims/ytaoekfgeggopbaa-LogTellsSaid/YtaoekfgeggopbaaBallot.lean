/-
  Contracts of the functions of package ballot and of its reference: what each call returns, for every argument; no call changes memory.
-/
import Derived.Test.YtaoekfgeggopbaaProg
import Derived.WalkKit
import Derived.WalkSpells
import Derived.WalkLawsBesides
import Derived.Lib.Hide
namespace Go.Proofs.Ytaoekfgeggopbaa
open Go.RowKit

namespace Bal
theorem ret2 {a b c d : Int} (h : a = c) (k : b = d) : Ending.returned (.tuple #[.int .i64 a, .int .i64 b]) = .returned (.tuple #[.int .i64 c, .int .i64 d]) := by rw [h, k]
theorem ret3 {a b x c d y : Int} (h : a = c) (k : b = d) (l : x = y) : Ending.returned (.tuple #[.int .i64 a, .int .i64 b, .int .i64 x]) = .returned (.tuple #[.int .i64 c, .int .i64 d, .int .i64 y]) := by rw [h, k, l]

/-- May a ballot be? -/
def may (b : Int) : Bool := decide (8 ≤ b ∧ b ≤ 8388613 ∧ b % 8 < 6)
theorem may_yes {b : Int} (h : may b = true) : 8 ≤ b ∧ b ≤ 8388613 ∧ b % 8 < 6 := of_decide_eq_true h
theorem may_no {b : Int} (h : may b = false) : ¬ (8 ≤ b ∧ b ≤ 8388613 ∧ b % 8 < 6) := of_decide_eq_false h
theorem may_mk {b : Int} (h : 8 ≤ b ∧ b ≤ 8388613 ∧ b % 8 < 6) : may b = true := decide_eq_true h
theorem may_not {b : Int} (h : ¬ (8 ≤ b ∧ b ≤ 8388613 ∧ b % 8 < 6)) : may b = false := decide_eq_false h

/-- The least ballot of node n above a. -/
def nx (a n : Int) : Int := if a / 8 * 8 + n ≤ a ∨ a / 8 * 8 + n < 8 then a / 8 * 8 + n + 8 else a / 8 * 8 + n
theorem nx_facts {a n : Int} (h0 : 0 ≤ a) (h1 : 0 ≤ n) (h2 : n < 6) : a < nx a n ∧ nx a n ≤ a + 16 ∧ nx a n % 8 = n ∧ 8 ≤ nx a n ∧ (∀ b, 8 ≤ b → b % 8 = n → a < b → nx a n ≤ b) := by
  unfold nx
  split
  · refine ⟨by omega, by omega, by omega, by omega, fun b _ _ _ => by omega⟩
  · refine ⟨by omega, by omega, by omega, by omega, fun b _ _ _ => by omega⟩
theorem tdiv_neg {b : Int} (h : b < 0) : b.tdiv 8 ≤ 0 := by
  have := Int.tdiv_eq_ediv (a := b) (b := 8)
  rw [this]
  split
  · omega
  · have : Int.sign 8 = 1 := rfl
    omega
end Bal
open Bal

section
variable (w : World)
set_option maxHeartbeats 400000
set_option linter.unusedVariables false

end
end Go.Proofs.Ytaoekfgeggopbaa
