/-
  Contracts of the reference of layer 5: May, Of, Check: what each call returns, for every argument; no call changes memory.
-/
import Derived.Test.YtmchnjnknnolmaaBallot
namespace Go.Proofs.Ytmchnjnknnolmaa
open Go.RowKit Bal

section
variable (w : World)
set_option maxHeartbeats 400000
set_option linter.unusedVariables false

theorem rmay_yes (b : Int) (h : may b = true) : Calls Try.prog 130 #[.int .i64 b] w fun e w' => e = .returned (.bool true) ∧ w = w' := by
  obtain ⟨h1, h2, h3⟩ := may_yes h
  clear h
  go_enter Try.func130, Try.ntmps130
  go_wp2
  go_ret
  exact ⟨by simp, rfl⟩
theorem rmay_no (b : Int) (h : may b = false) : Calls Try.prog 130 #[.int .i64 b] w fun e w' => e = .returned (.bool false) ∧ w = w' := by
  have h1 := may_no h
  clear h
  by_cases c1 : 8 ≤ b
  · by_cases c2 : b ≤ 8388613
    · have c3 : 6 ≤ b % 8 := by omega
      clear h1
      go_enter Try.func130, Try.ntmps130
      go_wp2
      go_ret
      exact ⟨by simp; omega, rfl⟩
    · clear h1
      have c3 : decide (b ≤ 8388613) = false := by simp; omega
      go_enter Try.func130, Try.ntmps130
      go_wp2
      go_ret
      exact ⟨rfl, rfl⟩
  · clear h1
    have c3 : decide (8 ≤ b) = false := by simp; omega
    go_enter Try.func130, Try.ntmps130
    go_wp2
    go_ret
    exact ⟨rfl, rfl⟩
end
end Go.Proofs.Ytmchnjnknnolmaa
