/-
  Contracts of num.Put.
-/
import Derived.Test.YtaoekfgeggopbaaNum
namespace Go.Proofs.Ytaoekfgeggopbaa
open Go.RowKit
set_option maxHeartbeats 400000
set_option maxRecDepth 100000
set_option linter.unusedVariables false

/-! ### Put -/
theorem nput_ok (n : Int) (w : World) (h0 : 0 ≤ n) (h1 : n ≤ 1099511627776) :
    Calls Try.prog 70 #[.int .i64 n] w fun e w' => ∃ A c, e = .returned (.tuple #[.slice A (Nm.enc n.toNat).length c, .int .i64 0]) ∧ w'.ownsRow w.heap.size 5 1 (.slice A (Nm.enc n.toNat).length c) (Nm.enc n.toNat).length (cb (Nm.enc n.toNat)) ∧ Below w.heap.size w w' := by
  go_enter Try.func70, Try.ntmps70
  go_wp2_with (first | (go_at_call 93; refine (in_yes _ _ h0 h1).mono ?_; rintro e w' ⟨rfl, rfl⟩) | (go_at_call 94; refine (put_any w.heap.size _ 0 [] n w (World.ownsRow_nil _ _ _ _) (by omega) h0 (by omega) (Nat.le_refl _)).mono ?_; rintro e w' ⟨v', rfl, h2, h3⟩))
  have HO := Lib.hid h2
  have HG := Lib.hid h3
  clear h2 h3
  go_ret2
  have h2 := HO.out
  rw [Nat.zero_add, List.nil_append] at h2
  obtain ⟨A, c, rfl, hr, _, _⟩ := own_form h2
  exact ⟨A, c, rfl, h2, HG.out.below (Nat.le_refl _) (by simp [Value.ownBlock])⟩
/-- Put, its bytes and their number under names. -/
theorem nput_is (n : Int) (l : List UInt8) (k : Nat) (w : World) (h0 : 0 ≤ n) (h1 : n ≤ 1099511627776) (hl : Nm.enc n.toNat = l) (hk : l.length = k) :
    Calls Try.prog 70 #[.int .i64 n] w fun e w' => ∃ A c, e = .returned (.tuple #[.slice A k c, .int .i64 0]) ∧ w'.ownsRow w.heap.size 5 1 (.slice A k c) k (cb l) ∧ Below w.heap.size w w' := by
  subst hk hl
  exact nput_ok n w h0 h1
theorem nput_bad (n : Int) (w : World) (h : ¬ (0 ≤ n ∧ n ≤ 1099511627776)) : Calls Try.prog 70 #[.int .i64 n] w fun e w' => e = .returned (.tuple #[.slice none 0 0, .int .i64 2]) ∧ w = w' := by
  go_enter Try.func70, Try.ntmps70
  go_wp2_with (go_at_call 93; refine (in_no _ _ h).mono ?_; rintro e w' ⟨rfl, rfl⟩)
  go_ret2
  exact ⟨rfl, rfl⟩
theorem nput_or (n : Int) (w : World) : Calls Try.prog 70 #[.int .i64 n] w fun e w' => ∃ A k c x, e = .returned (.tuple #[.slice A k c, .int .i64 x]) ∧ Below w.heap.size w w' := by
  by_cases h : 0 ≤ n ∧ n ≤ 1099511627776
  · refine (nput_ok n w h.1 h.2).mono ?_
    rintro e w' ⟨A, c, rfl, _, hb⟩
    exact ⟨A, _, c, 0, rfl, hb⟩
  · refine (nput_bad n w h).mono ?_
    rintro e w' ⟨rfl, rfl⟩
    exact ⟨none, 0, 0, 2, rfl, Below.refl _ _⟩
end Go.Proofs.Ytaoekfgeggopbaa
