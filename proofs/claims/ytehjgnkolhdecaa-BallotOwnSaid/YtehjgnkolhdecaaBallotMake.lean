/-
  Contracts of ballot.Make, ballot.Next, and of the reference of layer 5: what each call returns, for every argument; no call changes memory.
-/
import Derived.Test.YtehjgnkolhdecaaBallotRef
namespace Go.Proofs.Ytehjgnkolhdecaa
open Go.RowKit Bal

section
variable (w : World)
set_option maxHeartbeats 400000

theorem make_ok (r n : Int) (h1 : 1 ≤ r) (h2 : r ≤ 1048576) (h3 : 0 ≤ n) (h4 : n < 6) : Calls Try.prog 24 #[.int .i64 r, .int .i64 n] w fun e w' => e = .returned (.tuple #[.int .i64 (r * 8 + n), .int .i64 0]) ∧ w = w' := by
  go_enter Try.func24, Try.ntmps24
  go_wp2_with (go_at_call 38; refine (node_yes _ _ (by omega) (by omega)).mono ?_; rintro e w' ⟨rfl, rfl⟩)
  go_ret2
  exact ⟨rfl, rfl⟩
theorem make_bad (r n : Int) (h : ¬ (1 ≤ r ∧ r ≤ 1048576 ∧ 0 ≤ n ∧ n < 6)) : Calls Try.prog 24 #[.int .i64 r, .int .i64 n] w fun e w' => e = .returned (.tuple #[.int .i64 0, .int .i64 2]) ∧ w = w' := by
  by_cases c1 : 1 ≤ r
  · by_cases c2 : r ≤ 1048576
    · have c3 : ¬ (0 ≤ n ∧ n < 6) := by omega
      have H := Lib.hid c3
      clear h c3
      go_enter Try.func24, Try.ntmps24
      go_wp2_with (go_at_call 38; refine (node_no _ _ H.out).mono ?_; rintro e w' ⟨rfl, rfl⟩)
      go_ret2
      exact ⟨rfl, rfl⟩
    · clear h
      go_enter Try.func24, Try.ntmps24
      go_wp2
      go_ret2
      exact ⟨rfl, rfl⟩
  · clear h
    go_enter Try.func24, Try.ntmps24
    go_wp2
    go_ret2
    exact ⟨rfl, rfl⟩
theorem next_arg (a n : Int) (h : ¬ (0 ≤ n ∧ n < 6 ∧ 0 ≤ a ∧ a ≤ 8388613)) : Calls Try.prog 16 #[.int .i64 a, .int .i64 n] w fun e w' => e = .returned (.tuple #[.int .i64 0, .int .i64 2]) ∧ w = w' := by
  by_cases c1 : 0 ≤ n ∧ n < 6
  · have c2 : ¬ (0 ≤ a ∧ a ≤ 8388613) := by omega
    obtain ⟨c1, c3⟩ := c1
    by_cases c4 : 0 ≤ a
    · have c5 : 8388613 < a := by omega
      clear h c2
      go_enter Try.func16, Try.ntmps16
      go_wp2_with (go_at_call 38; refine (node_yes _ _ (by omega) (by omega)).mono ?_; rintro e w' ⟨rfl, rfl⟩)
      go_ret2
      exact ⟨rfl, rfl⟩
    · clear h c2
      go_enter Try.func16, Try.ntmps16
      go_wp2_with (go_at_call 38; refine (node_yes _ _ (by omega) (by omega)).mono ?_; rintro e w' ⟨rfl, rfl⟩)
      go_ret2
      exact ⟨rfl, rfl⟩
  · have H := Lib.hid c1
    clear h c1
    go_enter Try.func16, Try.ntmps16
    go_wp2_with (go_at_call 38; refine (node_no _ _ H.out).mono ?_; rintro e w' ⟨rfl, rfl⟩)
    go_ret2
    exact ⟨rfl, rfl⟩

theorem next_ok (a n : Int) (h1 : 0 ≤ n) (h2 : n < 6) (h3 : 0 ≤ a) (h4 : a ≤ 8388613) (h5 : nx a n ≤ 8388613) : Calls Try.prog 16 #[.int .i64 a, .int .i64 n] w fun e w' => e = .returned (.tuple #[.int .i64 (nx a n), .int .i64 0]) ∧ w = w' := by
  unfold nx at h5 ⊢
  by_cases c : a / 8 * 8 + n ≤ a ∨ a / 8 * 8 + n < 8
  · rw [if_pos c] at h5 ⊢
    by_cases c1 : a / 8 * 8 + n ≤ a
    · clear c
      go_enter Try.func16, Try.ntmps16
      go_wp2_with (go_at_call 38; refine (node_yes _ _ (by omega) (by omega)).mono ?_; rintro e w' ⟨rfl, rfl⟩)
      go_ret2
      exact ⟨rfl, rfl⟩
    · have c2 : a / 8 * 8 + n < 8 := by omega
      clear c
      go_enter Try.func16, Try.ntmps16
      go_wp2_with (go_at_call 38; refine (node_yes _ _ (by omega) (by omega)).mono ?_; rintro e w' ⟨rfl, rfl⟩)
      go_ret2
      exact ⟨rfl, rfl⟩
  · rw [if_neg c] at h5 ⊢
    have c1 : a < a / 8 * 8 + n := by omega
    have c2 : 8 ≤ a / 8 * 8 + n := by omega
    clear c
    go_enter Try.func16, Try.ntmps16
    go_wp2_with (go_at_call 38; refine (node_yes _ _ (by omega) (by omega)).mono ?_; rintro e w' ⟨rfl, rfl⟩)
    go_ret2
    exact ⟨rfl, rfl⟩

theorem next_full (a n : Int) (h1 : 0 ≤ n) (h2 : n < 6) (h3 : 0 ≤ a) (h4 : a ≤ 8388613) (h5 : 8388613 < nx a n) : Calls Try.prog 16 #[.int .i64 a, .int .i64 n] w fun e w' => e = .returned (.tuple #[.int .i64 0, .int .i64 9]) ∧ w = w' := by
  unfold nx at h5
  by_cases c : a / 8 * 8 + n ≤ a ∨ a / 8 * 8 + n < 8
  · rw [if_pos c] at h5
    by_cases c1 : a / 8 * 8 + n ≤ a
    · clear c
      go_enter Try.func16, Try.ntmps16
      go_wp2_with (go_at_call 38; refine (node_yes _ _ (by omega) (by omega)).mono ?_; rintro e w' ⟨rfl, rfl⟩)
      go_ret2
      exact ⟨rfl, rfl⟩
    · exfalso
      omega
  · rw [if_neg c] at h5
    exfalso
    omega
/-! ### the reference -/
theorem rnode_yes (n : Int) (h : 0 ≤ n) (h' : n < 6) : Calls Try.prog 43 #[.int .i64 n] w fun e w' => e = .returned (.bool true) ∧ w = w' := by
  go_enter Try.func43, Try.ntmps43
  go_wp2
  go_ret
  exact ⟨rfl, rfl⟩
theorem rnode_no (n : Int) (h : ¬ (0 ≤ n ∧ n < 6)) : Calls Try.prog 43 #[.int .i64 n] w fun e w' => e = .returned (.bool false) ∧ w = w' := by
  by_cases h0 : 0 ≤ n
  · have h1 : 6 ≤ n := by omega
    have h2 : decide (n < 6) = false := by simp; omega
    clear h
    go_enter Try.func43, Try.ntmps43
    go_wp2
    go_ret
    exact ⟨rfl, rfl⟩
  · have h1 : n < 0 := by omega
    clear h h0
    go_enter Try.func43, Try.ntmps43
    go_wp2
    go_ret
    exact ⟨rfl, rfl⟩
theorem rmake_ok (r n : Int) (h1 : 1 ≤ r) (h2 : r ≤ 1048576) (h3 : 0 ≤ n) (h4 : n < 6) : Calls Try.prog 26 #[.int .i64 r, .int .i64 n] w fun e w' => e = .returned (.tuple #[.int .i64 (r * 8 + n), .int .i64 0]) ∧ w = w' := by
  go_enter Try.func26, Try.ntmps26
  go_wp2_with (go_at_call 43; refine (rnode_yes _ _ (by omega) (by omega)).mono ?_; rintro e w' ⟨rfl, rfl⟩)
  go_ret2
  exact ⟨rfl, rfl⟩
theorem rmake_bad (r n : Int) (h : ¬ (1 ≤ r ∧ r ≤ 1048576 ∧ 0 ≤ n ∧ n < 6)) : Calls Try.prog 26 #[.int .i64 r, .int .i64 n] w fun e w' => e = .returned (.tuple #[.int .i64 0, .int .i64 2]) ∧ w = w' := by
  by_cases c1 : 1 ≤ r
  · by_cases c2 : r ≤ 1048576
    · have c3 : ¬ (0 ≤ n ∧ n < 6) := by omega
      have H := Lib.hid c3
      clear h c3
      go_enter Try.func26, Try.ntmps26
      go_wp2_with (go_at_call 43; refine (rnode_no _ _ H.out).mono ?_; rintro e w' ⟨rfl, rfl⟩)
      go_ret2
      exact ⟨rfl, rfl⟩
    · clear h
      go_enter Try.func26, Try.ntmps26
      go_wp2
      go_ret2
      exact ⟨rfl, rfl⟩
  · clear h
    go_enter Try.func26, Try.ntmps26
    go_wp2
    go_ret2
    exact ⟨rfl, rfl⟩

theorem rnext_arg (a n : Int) (h : ¬ (0 ≤ n ∧ n < 6 ∧ 0 ≤ a ∧ a ≤ 8388613)) : Calls Try.prog 28 #[.int .i64 a, .int .i64 n] w fun e w' => e = .returned (.tuple #[.int .i64 0, .int .i64 2]) ∧ w = w' := by
  by_cases c1 : 0 ≤ n ∧ n < 6
  · have c2 : ¬ (0 ≤ a ∧ a ≤ 8388613) := by omega
    obtain ⟨c1, c3⟩ := c1
    by_cases c4 : 0 ≤ a
    · have c5 : 8388613 < a := by omega
      clear h c2
      go_enter Try.func28, Try.ntmps28
      go_wp2_with (go_at_call 43; refine (rnode_yes _ _ (by omega) (by omega)).mono ?_; rintro e w' ⟨rfl, rfl⟩)
      go_ret2
      exact ⟨rfl, rfl⟩
    · clear h c2
      go_enter Try.func28, Try.ntmps28
      go_wp2_with (go_at_call 43; refine (rnode_yes _ _ (by omega) (by omega)).mono ?_; rintro e w' ⟨rfl, rfl⟩)
      go_ret2
      exact ⟨rfl, rfl⟩
  · have H := Lib.hid c1
    clear h c1
    go_enter Try.func28, Try.ntmps28
    go_wp2_with (go_at_call 43; refine (rnode_no _ _ H.out).mono ?_; rintro e w' ⟨rfl, rfl⟩)
    go_ret2
    exact ⟨rfl, rfl⟩

/-- The next round, as the reference has it. -/
theorem nx_ref {a n : Int} (h0 : 0 ≤ a) (h1 : 0 ≤ n) (h2 : n < 6) : nx a n = (if n ≤ a % 8 then a / 8 + 1 else if a / 8 < 1 then 1 else a / 8) * 8 + n := by
  unfold nx
  split <;> split <;> (try split) <;> omega

theorem rnext_ok (a n : Int) (h1 : 0 ≤ n) (h2 : n < 6) (h3 : 0 ≤ a) (h4 : a ≤ 8388613) (h5 : nx a n ≤ 8388613) : Calls Try.prog 28 #[.int .i64 a, .int .i64 n] w fun e w' => e = .returned (.tuple #[.int .i64 (nx a n), .int .i64 0]) ∧ w = w' := by
  have hf := nx_ref h3 h1 h2
  rw [hf] at h5 ⊢
  clear hf
  by_cases c : n ≤ a % 8
  · rw [if_pos c] at h5 ⊢
    have c0 : 0 ≤ a % 8 := by omega
    have c1 : 1 ≤ a / 8 + 1 := by omega
    have c2 : a / 8 + 1 ≤ 1048576 := by omega
    go_enter Try.func28, Try.ntmps28
    go_wp2_with (go_at_call 43; refine (rnode_yes _ _ (by omega) (by omega)).mono ?_; rintro e w' ⟨rfl, rfl⟩)
    go_ret2
    exact ⟨ret2 (by omega) rfl, rfl⟩
  · rw [if_neg c] at h5 ⊢
    have c0 : 0 ≤ a % 8 := by omega
    by_cases c1 : a / 8 < 1
    · rw [if_pos c1] at h5 ⊢
      go_enter Try.func28, Try.ntmps28
      go_wp2_with (go_at_call 43; refine (rnode_yes _ _ (by omega) (by omega)).mono ?_; rintro e w' ⟨rfl, rfl⟩)
      go_ret2
      exact ⟨ret2 (by omega) rfl, rfl⟩
    · rw [if_neg c1] at h5 ⊢
      have c2 : a / 8 ≤ 1048576 := by omega
      go_enter Try.func28, Try.ntmps28
      go_wp2_with (go_at_call 43; refine (rnode_yes _ _ (by omega) (by omega)).mono ?_; rintro e w' ⟨rfl, rfl⟩)
      go_ret2
      exact ⟨ret2 (by omega) rfl, rfl⟩

theorem rnext_full (a n : Int) (h1 : 0 ≤ n) (h2 : n < 6) (h3 : 0 ≤ a) (h4 : a ≤ 8388613) (h5 : 8388613 < nx a n) : Calls Try.prog 28 #[.int .i64 a, .int .i64 n] w fun e w' => e = .returned (.tuple #[.int .i64 0, .int .i64 9]) ∧ w = w' := by
  have hf := nx_ref h3 h1 h2
  rw [hf] at h5
  clear hf
  by_cases c : n ≤ a % 8
  · rw [if_pos c] at h5
    have c0 : 0 ≤ a % 8 := by omega
    have c1 : 1 ≤ a / 8 + 1 := by omega
    have c2 : 1048576 < a / 8 + 1 := by omega
    go_enter Try.func28, Try.ntmps28
    go_wp2_with (go_at_call 43; refine (rnode_yes _ _ (by omega) (by omega)).mono ?_; rintro e w' ⟨rfl, rfl⟩)
    go_ret2
    exact ⟨rfl, rfl⟩
  · rw [if_neg c] at h5
    exfalso
    split at h5 <;> omega

theorem rof_ok (b : Int) (h : may b = true) : Calls Try.prog 27 #[.int .i64 b] w fun e w' => e = .returned (.tuple #[.int .i64 (b / 8), .int .i64 (b % 8), .int .i64 0]) ∧ w = w' := by
  obtain ⟨h1, h2, h3⟩ := may_yes h
  go_enter Try.func27, Try.ntmps27
  go_wp2_with (go_at_call 44; refine (rmay_yes _ _ h).mono ?_; rintro e w' ⟨rfl, rfl⟩)
  go_ret3
  exact ⟨rfl, rfl⟩
theorem rof_bad (b : Int) (h : may b = false) : Calls Try.prog 27 #[.int .i64 b] w fun e w' => e = .returned (.tuple #[.int .i64 0, .int .i64 0, .int .i64 50]) ∧ w = w' := by
  go_enter Try.func27, Try.ntmps27
  go_wp2_with (go_at_call 44; refine (rmay_no _ _ h).mono ?_; rintro e w' ⟨rfl, rfl⟩)
  go_ret3
  exact ⟨rfl, rfl⟩
theorem rcheck_ok (b : Int) (h : may b = true) : Calls Try.prog 29 #[.int .i64 b] w fun e w' => e = .returned (.int .i64 0) ∧ w = w' := by
  go_enter Try.func29, Try.ntmps29
  go_wp2_with (go_at_call 44; refine (rmay_yes _ _ h).mono ?_; rintro e w' ⟨rfl, rfl⟩)
  go_ret
  exact ⟨rfl, rfl⟩
theorem rcheck_bad (b : Int) (h : may b = false) : Calls Try.prog 29 #[.int .i64 b] w fun e w' => e = .returned (.int .i64 50) ∧ w = w' := by
  go_enter Try.func29, Try.ntmps29
  go_wp2_with (go_at_call 44; refine (rmay_no _ _ h).mono ?_; rintro e w' ⟨rfl, rfl⟩)
  go_ret
  exact ⟨rfl, rfl⟩

/-! ### both sides at once -/
theorem make_both (r n : Int) : ∃ x e : Int, (∀ w, Calls Try.prog 24 #[.int .i64 r, .int .i64 n] w fun E w' => E = .returned (.tuple #[.int .i64 x, .int .i64 e]) ∧ w = w') ∧ ∀ w, Calls Try.prog 26 #[.int .i64 r, .int .i64 n] w fun E w' => E = .returned (.tuple #[.int .i64 x, .int .i64 e]) ∧ w = w' := by
  by_cases c : 1 ≤ r ∧ r ≤ 1048576 ∧ 0 ≤ n ∧ n < 6
  · obtain ⟨c1, c2, c3, c4⟩ := c
    exact ⟨_, _, fun w => make_ok w r n c1 c2 c3 c4, fun w => rmake_ok w r n c1 c2 c3 c4⟩
  · exact ⟨_, _, fun w => make_bad w r n c, fun w => rmake_bad w r n c⟩
theorem of_both (b : Int) (lo : -9223372036854775808 ≤ b) (hi : b ≤ 9223372036854775807) : ∃ x y e : Int, (∀ w, Calls Try.prog 17 #[.int .i64 b] w fun E w' => E = .returned (.tuple #[.int .i64 x, .int .i64 y, .int .i64 e]) ∧ w = w') ∧ ∀ w, Calls Try.prog 27 #[.int .i64 b] w fun E w' => E = .returned (.tuple #[.int .i64 x, .int .i64 y, .int .i64 e]) ∧ w = w' := by
  rcases Bool.eq_false_or_eq_true (may b) with h | h
  · exact ⟨_, _, _, fun w => of_ok w b h, fun w => rof_ok w b h⟩
  · exact ⟨_, _, _, fun w => of_bad w b lo hi h, fun w => rof_bad w b h⟩
theorem check_both (b : Int) (lo : -9223372036854775808 ≤ b) (hi : b ≤ 9223372036854775807) : ∃ e : Int, (∀ w, Calls Try.prog 25 #[.int .i64 b] w fun E w' => E = .returned (.int .i64 e) ∧ w = w') ∧ ∀ w, Calls Try.prog 29 #[.int .i64 b] w fun E w' => E = .returned (.int .i64 e) ∧ w = w' := by
  rcases Bool.eq_false_or_eq_true (may b) with h | h
  · exact ⟨_, fun w => check_ok w b h, fun w => rcheck_ok w b h⟩
  · exact ⟨_, fun w => check_bad w b lo hi h, fun w => rcheck_bad w b h⟩
theorem next_both (a n : Int) : ∃ x e : Int, (∀ w, Calls Try.prog 16 #[.int .i64 a, .int .i64 n] w fun E w' => E = .returned (.tuple #[.int .i64 x, .int .i64 e]) ∧ w = w') ∧ ∀ w, Calls Try.prog 28 #[.int .i64 a, .int .i64 n] w fun E w' => E = .returned (.tuple #[.int .i64 x, .int .i64 e]) ∧ w = w' := by
  by_cases c : 0 ≤ n ∧ n < 6 ∧ 0 ≤ a ∧ a ≤ 8388613
  · obtain ⟨c1, c2, c3, c4⟩ := c
    by_cases d : nx a n ≤ 8388613
    · exact ⟨_, _, fun w => next_ok w a n c1 c2 c3 c4 d, fun w => rnext_ok w a n c1 c2 c3 c4 d⟩
    · exact ⟨_, _, fun w => next_full w a n c1 c2 c3 c4 (by omega), fun w => rnext_full w a n c1 c2 c3 c4 (by omega)⟩
  · exact ⟨_, _, fun w => next_arg w a n c, fun w => rnext_arg w a n c⟩
theorem of_make (r n : Int) (h1 : 1 ≤ r) (h2 : r ≤ 1048576) (h3 : 0 ≤ n) (h4 : n < 6) : Calls Try.prog 17 #[.int .i64 (r * 8 + n)] w fun E w' => E = .returned (.tuple #[.int .i64 r, .int .i64 n, .int .i64 0]) ∧ w = w' := by
  have h := of_ok w (r * 8 + n) (may_mk ⟨by omega, by omega, by omega⟩)
  rw [show (r * 8 + n) / 8 = r by omega, show (r * 8 + n) % 8 = n by omega] at h
  exact h

/-! ### alive -/
theorem alive05 : Calls Try.prog 15 #[] w fun e w' => e = .returned (.bool true) ∧ w = w' := by
  go_enter Try.func15, Try.ntmps15
  go_wp2_with (first | (go_at_call 24; refine (make_ok _ _ _ (by omega) (by omega) (by omega) (by omega)).mono ?_; rintro e w' ⟨rfl, rfl⟩) | (go_at_call 16; refine (next_ok _ _ _ (by omega) (by omega) (by omega) (by omega) (by decide)).mono ?_; rintro e w' ⟨rfl, rfl⟩))
  go_ret
  exact ⟨rfl, rfl⟩
end
end Go.Proofs.Ytehjgnkolhdecaa
