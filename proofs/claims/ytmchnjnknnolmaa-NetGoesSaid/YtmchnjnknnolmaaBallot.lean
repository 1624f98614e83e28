/-
  Contracts of the functions of package ballot and of its reference: what each call returns, for every argument; no call changes memory.
-/
import Derived.Test.YtmchnjnknnolmaaProg
import Derived.WalkKit
import Derived.WalkSpells
import Derived.WalkLawsBesides
import Derived.Lib.Hide
namespace Go.Proofs.Ytmchnjnknnolmaa
open Go.RowKit

namespace Bal
theorem ret2 {a b c d : Int} (h : a = c) (k : b = d) : Ending.returned (.tuple #[.int .i64 a, .int .i64 b]) = .returned (.tuple #[.int .i64 c, .int .i64 d]) := by rw [h, k]
theorem ret3 {a b x c d y : Int} (h : a = c) (k : b = d) (l : x = y) : Ending.returned (.tuple #[.int .i64 a, .int .i64 b, .int .i64 x]) = .returned (.tuple #[.int .i64 c, .int .i64 d, .int .i64 y]) := by rw [h, k, l]

/-- May a ballot be? -/
def may (b : Int) : Bool := decide (8 ≤ b ∧ b ≤ 8388613 ∧ b % 8 < 6)
theorem may_yes {b : Int} (h : may b = true) : 8 ≤ b ∧ b ≤ 8388613 ∧ b % 8 < 6 := of_decide_eq_true h
theorem may_no {b : Int} (h : may b = false) : ¬ (8 ≤ b ∧ b ≤ 8388613 ∧ b % 8 < 6) := of_decide_eq_false h
theorem may_mk {b : Int} (h : 8 ≤ b ∧ b ≤ 8388613 ∧ b % 8 < 6) : may b = true := decide_eq_true h
theorem may_not {b : Int} (h : ¬ (8 ≤ b ∧ b ≤ 8388613 ∧ b % 8 < 6)) : may b = false := decide_eq_false h

/-- The least ballot of node n above a. -/
def nx (a n : Int) : Int := if a / 8 * 8 + n ≤ a ∨ a / 8 * 8 + n < 8 then a / 8 * 8 + n + 8 else a / 8 * 8 + n
theorem nx_facts {a n : Int} (h0 : 0 ≤ a) (h1 : 0 ≤ n) (h2 : n < 6) : a < nx a n ∧ nx a n ≤ a + 16 ∧ nx a n % 8 = n ∧ 8 ≤ nx a n ∧ (∀ b, 8 ≤ b → b % 8 = n → a < b → nx a n ≤ b) := by
  unfold nx
  split
  · refine ⟨by omega, by omega, by omega, by omega, fun b _ _ _ => by omega⟩
  · refine ⟨by omega, by omega, by omega, by omega, fun b _ _ _ => by omega⟩
theorem tdiv_neg {b : Int} (h : b < 0) : b.tdiv 8 ≤ 0 := by
  have := Int.tdiv_eq_ediv (a := b) (b := 8)
  rw [this]
  split
  · omega
  · have : Int.sign 8 = 1 := rfl
    omega
end Bal
open Bal

section
variable (w : World)
set_option maxHeartbeats 400000
set_option linter.unusedVariables false

theorem node_yes (n : Int) (h : 0 ≤ n) (h' : n < 6) : Calls Try.prog 144 #[.int .i64 n] w fun e w' => e = .returned (.bool true) ∧ w = w' := by
  go_enter Try.func144, Try.ntmps144
  go_wp2
  go_ret
  exact ⟨rfl, rfl⟩
theorem node_no (n : Int) (h : ¬ (0 ≤ n ∧ n < 6)) : Calls Try.prog 144 #[.int .i64 n] w fun e w' => e = .returned (.bool false) ∧ w = w' := by
  by_cases h0 : 0 ≤ n
  · have h1 : 6 ≤ n := by omega
    have h2 : decide (n < 6) = false := by simp; omega
    clear h
    go_enter Try.func144, Try.ntmps144
    go_wp2
    go_ret
    exact ⟨rfl, rfl⟩
  · have h1 : n < 0 := by omega
    clear h h0
    go_enter Try.func144, Try.ntmps144
    go_wp2
    go_ret
    exact ⟨rfl, rfl⟩

theorem of_ok (b : Int) (h : may b = true) : Calls Try.prog 143 #[.int .i64 b] w fun e w' => e = .returned (.tuple #[.int .i64 (b / 8), .int .i64 (b % 8), .int .i64 0]) ∧ w = w' := by
  obtain ⟨h1, h2, h3⟩ := may_yes h
  clear h
  have h4 : 0 ≤ b % 8 := by omega
  have h5 : 1 ≤ b / 8 := by omega
  have h6 : b / 8 ≤ 1048576 := by omega
  go_enter Try.func143, Try.ntmps143
  go_wp2_with (go_at_call 144; refine (node_yes _ _ (by omega) (by omega)).mono ?_; rintro e w' ⟨rfl, rfl⟩)
  go_ret3
  exact ⟨rfl, rfl⟩

theorem of_bad (b : Int) (lo : -9223372036854775808 ≤ b) (hi : b ≤ 9223372036854775807) (h : may b = false) : Calls Try.prog 143 #[.int .i64 b] w fun e w' => e = .returned (.tuple #[.int .i64 0, .int .i64 0, .int .i64 50]) ∧ w = w' := by
  have h1 := may_no h
  clear h
  by_cases c0 : 0 ≤ b
  · by_cases c1 : b < 8
    · have h5 : b / 8 < 1 := by omega
      clear h1
      go_enter Try.func143, Try.ntmps143
      go_wp2
      go_ret3
      exact ⟨rfl, rfl⟩
    · have h5 : 1 ≤ b / 8 := by omega
      by_cases c2 : 1048576 < b / 8
      · clear h1
        go_enter Try.func143, Try.ntmps143
        go_wp2
        go_ret3
        exact ⟨rfl, rfl⟩
      · have h6 : 6 ≤ b % 8 := by omega
        clear h1
        go_enter Try.func143, Try.ntmps143
        go_wp2_with (go_at_call 144; refine (node_no _ _ (by omega)).mono ?_; rintro e w' ⟨rfl, rfl⟩)
        go_ret3
        exact ⟨rfl, rfl⟩
  · have h5 := tdiv_neg (b := b) (by omega)
    clear h1
    go_enter Try.func143, Try.ntmps143
    go_wp2
    go_ret3
    exact ⟨rfl, rfl⟩

theorem check_ok (b : Int) (h : may b = true) : Calls Try.prog 141 #[.int .i64 b] w fun e w' => e = .returned (.int .i64 0) ∧ w = w' := by
  go_enter Try.func141, Try.ntmps141
  go_wp2_with (go_at_call 143; refine (of_ok _ _ h).mono ?_; rintro e w' ⟨rfl, rfl⟩)
  go_ret
  exact ⟨rfl, rfl⟩
theorem check_bad (b : Int) (lo : -9223372036854775808 ≤ b) (hi : b ≤ 9223372036854775807) (h : may b = false) : Calls Try.prog 141 #[.int .i64 b] w fun e w' => e = .returned (.int .i64 50) ∧ w = w' := by
  go_enter Try.func141, Try.ntmps141
  go_wp2_with (go_at_call 143; refine (of_bad _ _ lo hi h).mono ?_; rintro e w' ⟨rfl, rfl⟩)
  go_ret
  exact ⟨rfl, rfl⟩

end
end Go.Proofs.Ytmchnjnknnolmaa
