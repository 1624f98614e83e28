/-
  The walks of the four statements of layer 5 (ballot): each returns true and leaves memory as it was.
-/
import Derived.Test.YtehjgnkolhdecaaBallotMake
namespace Go.Proofs.Ytehjgnkolhdecaa
open Go.RowKit Bal
set_option maxHeartbeats 400000
set_option linter.unusedVariables false

theorem ballotNext_walk (a n b : Int) (w : World) (ha : -9223372036854775808 ≤ a ∧ a ≤ 9223372036854775807) (hn : -9223372036854775808 ≤ n ∧ n ≤ 9223372036854775807) (hb : -9223372036854775808 ≤ b ∧ b ≤ 9223372036854775807) :
    Calls Try.prog 4 #[.int .i64 a, .int .i64 n, .int .i64 b] w fun e w' => e = .returned (.bool true) ∧ Below w.heap.size w w' := by
  obtain ⟨ha1, ha2⟩ := ha
  obtain ⟨hn1, hn2⟩ := hn
  obtain ⟨hb1, hb2⟩ := hb
  have HA := Lib.hid (alive05 w)
  by_cases c : 0 ≤ n ∧ n < 6 ∧ 0 ≤ a ∧ a ≤ 8388613
  · obtain ⟨c1, c2, c3, c4⟩ := c
    have hf := nx_facts c3 c1 c2
    by_cases d : nx a n ≤ 8388613
    · have HC := Lib.hid (next_ok w a n c1 c2 c3 c4 d)
      generalize nx a n = x at HC hf d
      obtain ⟨f1, f2, f3, f4, f5⟩ := hf
      have hx : may x = true := may_mk ⟨f4, d, by omega⟩
      have HO := Lib.hid (of_ok w x hx)
      clear hx
      have hg := f5 b
      have e1 : (x % 8 != n) = false := by simp [f3]
      have e0 : 0 ≤ x % 8 := by omega
      clear f5
      have H3 := Lib.hid f3
      clear f3
      rcases Bool.eq_false_or_eq_true (may b) with hm | hm
      · have hy := may_yes hm
        have HB := Lib.hid (of_ok w b hm)
        clear hm
        obtain ⟨y1, y2, y3⟩ := hy
        have y4 : 0 ≤ b % 8 := by omega
        have hb3 : (b % 8 != n) = true ∨ (b % 8 != n) = false := by cases (b % 8 != n) <;> simp
        rcases hb3 with hb3 | hb3
        · clear hg
          go_enter Try.func4, Try.ntmps4
          go_wp2_with (first | (with_reducible refine HA.out.mono ?_; rintro e w' ⟨rfl, rfl⟩) | (with_reducible refine HC.out.mono ?_; rintro e w' ⟨rfl, rfl⟩) | (with_reducible refine HO.out.mono ?_; rintro e w' ⟨rfl, rfl⟩) | (with_reducible refine HB.out.mono ?_; rintro e w' ⟨rfl, rfl⟩))
          go_ret
          exact ⟨rfl, Below.refl _ _⟩
        · have hg2 : b ≤ a ∨ x ≤ b := by
            rcases Int.lt_or_le a b with h | h
            · exact Or.inr (hg y1 (by simpa using hb3) h)
            · exact Or.inl h
          clear hg
          rcases hg2 with hg2 | hg2
          · go_enter Try.func4, Try.ntmps4
            go_wp2_with (first | (with_reducible refine HA.out.mono ?_; rintro e w' ⟨rfl, rfl⟩) | (with_reducible refine HC.out.mono ?_; rintro e w' ⟨rfl, rfl⟩) | (with_reducible refine HO.out.mono ?_; rintro e w' ⟨rfl, rfl⟩) | (with_reducible refine HB.out.mono ?_; rintro e w' ⟨rfl, rfl⟩))
            go_ret
            exact ⟨rfl, Below.refl _ _⟩
          · go_enter Try.func4, Try.ntmps4
            go_wp2_with (first | (with_reducible refine HA.out.mono ?_; rintro e w' ⟨rfl, rfl⟩) | (with_reducible refine HC.out.mono ?_; rintro e w' ⟨rfl, rfl⟩) | (with_reducible refine HO.out.mono ?_; rintro e w' ⟨rfl, rfl⟩) | (with_reducible refine HB.out.mono ?_; rintro e w' ⟨rfl, rfl⟩))
            go_ret
            exact ⟨rfl, Below.refl _ _⟩
      · have HB := Lib.hid (of_bad w b hb1 hb2 hm)
        clear hm hg
        go_enter Try.func4, Try.ntmps4
        go_wp2_with (first | (with_reducible refine HA.out.mono ?_; rintro e w' ⟨rfl, rfl⟩) | (with_reducible refine HC.out.mono ?_; rintro e w' ⟨rfl, rfl⟩) | (with_reducible refine HO.out.mono ?_; rintro e w' ⟨rfl, rfl⟩) | (with_reducible refine HB.out.mono ?_; rintro e w' ⟨rfl, rfl⟩))
        go_ret
        exact ⟨rfl, Below.refl _ _⟩
    · have HC := Lib.hid (next_full w a n c1 c2 c3 c4 (by omega))
      clear hf d
      go_enter Try.func4, Try.ntmps4
      go_wp2_with (first | (with_reducible refine HA.out.mono ?_; rintro e w' ⟨rfl, rfl⟩) | (with_reducible refine HC.out.mono ?_; rintro e w' ⟨rfl, rfl⟩))
      go_ret
      exact ⟨rfl, Below.refl _ _⟩
  · have HC := Lib.hid (next_arg w a n c)
    clear c
    go_enter Try.func4, Try.ntmps4
    go_wp2_with (first | (with_reducible refine HA.out.mono ?_; rintro e w' ⟨rfl, rfl⟩) | (with_reducible refine HC.out.mono ?_; rintro e w' ⟨rfl, rfl⟩))
    go_ret
    exact ⟨rfl, Below.refl _ _⟩
theorem ballotTells_walk (r n b : Int) (w : World) (hr : -9223372036854775808 ≤ r ∧ r ≤ 9223372036854775807) (hn : -9223372036854775808 ≤ n ∧ n ≤ 9223372036854775807) (hb : -9223372036854775808 ≤ b ∧ b ≤ 9223372036854775807) :
    Calls Try.prog 8 #[.int .i64 r, .int .i64 n, .int .i64 b] w fun e w' => e = .returned (.bool true) ∧ Below w.heap.size w w' := by
  obtain ⟨x1, e1, a1, b1⟩ := make_both r n
  obtain ⟨x2, y2, e2, a2, b2⟩ := of_both b hb.1 hb.2
  obtain ⟨x3, e3, a3, b3⟩ := next_both b n
  obtain ⟨e4, a4, b4⟩ := check_both b hb.1 hb.2
  have A1 := Lib.hid (a1 w)
  have B1 := Lib.hid (b1 w)
  have A2 := Lib.hid (a2 w)
  have B2 := Lib.hid (b2 w)
  have A3 := Lib.hid (a3 w)
  have B3 := Lib.hid (b3 w)
  have A4 := Lib.hid (a4 w)
  have B4 := Lib.hid (b4 w)
  clear a1 b1 a2 b2 a3 b3 a4 b4
  go_enter Try.func8, Try.ntmps8
  go_wp2_with (first | (with_reducible refine A1.out.mono ?_; rintro e w' ⟨rfl, rfl⟩) | (with_reducible refine B1.out.mono ?_; rintro e w' ⟨rfl, rfl⟩) | (with_reducible refine A2.out.mono ?_; rintro e w' ⟨rfl, rfl⟩) | (with_reducible refine B2.out.mono ?_; rintro e w' ⟨rfl, rfl⟩) | (with_reducible refine A3.out.mono ?_; rintro e w' ⟨rfl, rfl⟩) | (with_reducible refine B3.out.mono ?_; rintro e w' ⟨rfl, rfl⟩) | (with_reducible refine A4.out.mono ?_; rintro e w' ⟨rfl, rfl⟩) | (with_reducible refine B4.out.mono ?_; rintro e w' ⟨rfl, rfl⟩))
  go_ret
  exact ⟨rfl, Below.refl _ _⟩

theorem ballotNames_walk (w : World) : Calls Try.prog 7 #[] w fun e w' => e = .returned (.bool true) ∧ Below w.heap.size w w' := by
  have H0 := Lib.hid (alive05 w)
  have H1 : Hid (Calls Try.prog 24 #[.int .i64 1, .int .i64 0] w fun E w' => E = .returned (.tuple #[.int .i64 8, .int .i64 0]) ∧ w = w') := make_ok w 1 0 (by omega) (by omega) (by omega) (by omega)
  have H2 : Hid (Calls Try.prog 17 #[.int .i64 21] w fun E w' => E = .returned (.tuple #[.int .i64 2, .int .i64 5, .int .i64 0]) ∧ w = w') := of_ok w 21 (by decide)
  have H3 : Hid (Calls Try.prog 16 #[.int .i64 0, .int .i64 3] w fun E w' => E = .returned (.tuple #[.int .i64 11, .int .i64 0]) ∧ w = w') := next_ok w 0 3 (by omega) (by omega) (by omega) (by omega) (by decide)
  have H4 : Hid (Calls Try.prog 16 #[.int .i64 10, .int .i64 3] w fun E w' => E = .returned (.tuple #[.int .i64 11, .int .i64 0]) ∧ w = w') := next_ok w 10 3 (by omega) (by omega) (by omega) (by omega) (by decide)
  have H5 : Hid (Calls Try.prog 16 #[.int .i64 12, .int .i64 3] w fun E w' => E = .returned (.tuple #[.int .i64 19, .int .i64 0]) ∧ w = w') := next_ok w 12 3 (by omega) (by omega) (by omega) (by omega) (by decide)
  have H6 := Lib.hid (make_bad w 0 1 (by omega))
  have H7 := Lib.hid (next_full w 8388613 5 (by omega) (by omega) (by omega) (by omega) (by decide))
  have H8 := Lib.hid (check_bad w 7 (by omega) (by omega) (by decide))
  have H9 := Lib.hid (check_bad w 14 (by omega) (by omega) (by decide))
  have HA := Lib.hid (check_ok w 21 (by decide))
  go_enter Try.func7, Try.ntmps7
  go_wp2_with (first | (with_reducible refine H0.out.mono ?_; rintro e w' ⟨rfl, rfl⟩) | (with_reducible refine H1.out.mono ?_; rintro e w' ⟨rfl, rfl⟩) | (with_reducible refine H2.out.mono ?_; rintro e w' ⟨rfl, rfl⟩) | (with_reducible refine H3.out.mono ?_; rintro e w' ⟨rfl, rfl⟩) | (with_reducible refine H4.out.mono ?_; rintro e w' ⟨rfl, rfl⟩) | (with_reducible refine H5.out.mono ?_; rintro e w' ⟨rfl, rfl⟩) | (with_reducible refine H6.out.mono ?_; rintro e w' ⟨rfl, rfl⟩) | (with_reducible refine H7.out.mono ?_; rintro e w' ⟨rfl, rfl⟩) | (with_reducible refine H8.out.mono ?_; rintro e w' ⟨rfl, rfl⟩) | (with_reducible refine H9.out.mono ?_; rintro e w' ⟨rfl, rfl⟩) | (with_reducible refine HA.out.mono ?_; rintro e w' ⟨rfl, rfl⟩))
  go_ret
  exact ⟨rfl, Below.refl _ _⟩

theorem ballotOwn_walk (r n o t : Int) (w : World) (hr : -9223372036854775808 ≤ r ∧ r ≤ 9223372036854775807) (hn : -9223372036854775808 ≤ n ∧ n ≤ 9223372036854775807) (ho : -9223372036854775808 ≤ o ∧ o ≤ 9223372036854775807) (ht : -9223372036854775808 ≤ t ∧ t ≤ 9223372036854775807) :
    Calls Try.prog 9 #[.int .i64 r, .int .i64 n, .int .i64 o, .int .i64 t] w fun e w' => e = .returned (.bool true) ∧ Below w.heap.size w w' := by
  have H0 := Lib.hid (alive05 w)
  obtain ⟨hr1, hr2⟩ := hr
  obtain ⟨hn1, hn2⟩ := hn
  obtain ⟨ho1, ho2⟩ := ho
  obtain ⟨ht1, ht2⟩ := ht
  by_cases c : 1 ≤ r ∧ r ≤ 1048576 ∧ 0 ≤ n ∧ n < 6
  · obtain ⟨c1, c2, c3, c4⟩ := c
    have H1 := Lib.hid (make_ok w r n c1 c2 c3 c4)
    by_cases d : 1 ≤ o ∧ o ≤ 1048576 ∧ 0 ≤ t ∧ t < 6
    · obtain ⟨d1, d2, d3, d4⟩ := d
      have H2 := Lib.hid (make_ok w o t d1 d2 d3 d4)
      have H3 := Lib.hid (of_make w r n c1 c2 c3 c4)
      have H4 := Lib.hid (check_ok w (r * 8 + n) (may_mk ⟨by omega, by omega, by omega⟩))
      by_cases e1 : r = o
      · subst e1
        by_cases e2 : n = t
        · subst e2
          go_enter Try.func9, Try.ntmps9
          go_wp2_with (first | (with_reducible refine H0.out.mono ?_; rintro e w' ⟨rfl, rfl⟩) | (with_reducible refine H1.out.mono ?_; rintro e w' ⟨rfl, rfl⟩) | (with_reducible refine H2.out.mono ?_; rintro e w' ⟨rfl, rfl⟩) | (with_reducible refine H3.out.mono ?_; rintro e w' ⟨rfl, rfl⟩) | (with_reducible refine H4.out.mono ?_; rintro e w' ⟨rfl, rfl⟩))
          go_ret
          exact ⟨rfl, Below.refl _ _⟩
        · have f1 : (n == t) = false := by simpa using e2
          have f2 : (r * 8 + n == r * 8 + t) = false := by simp; omega
          clear e2
          go_enter Try.func9, Try.ntmps9
          go_wp2_with (first | (with_reducible refine H0.out.mono ?_; rintro e w' ⟨rfl, rfl⟩) | (with_reducible refine H1.out.mono ?_; rintro e w' ⟨rfl, rfl⟩) | (with_reducible refine H2.out.mono ?_; rintro e w' ⟨rfl, rfl⟩) | (with_reducible refine H3.out.mono ?_; rintro e w' ⟨rfl, rfl⟩) | (with_reducible refine H4.out.mono ?_; rintro e w' ⟨rfl, rfl⟩))
          go_ret
          exact ⟨rfl, Below.refl _ _⟩
      · have f1 : (r == o) = false := by simpa using e1
        have f2 : (r * 8 + n == o * 8 + t) = false := by simp; omega
        by_cases e3 : o ≤ r
        · clear e1
          go_enter Try.func9, Try.ntmps9
          go_wp2_with (first | (with_reducible refine H0.out.mono ?_; rintro e w' ⟨rfl, rfl⟩) | (with_reducible refine H1.out.mono ?_; rintro e w' ⟨rfl, rfl⟩) | (with_reducible refine H2.out.mono ?_; rintro e w' ⟨rfl, rfl⟩) | (with_reducible refine H3.out.mono ?_; rintro e w' ⟨rfl, rfl⟩) | (with_reducible refine H4.out.mono ?_; rintro e w' ⟨rfl, rfl⟩))
          go_ret
          exact ⟨rfl, Below.refl _ _⟩
        · have f3 : decide (r * 8 + n < o * 8 + t) = true := by simp; omega
          have f4 : decide (o ≤ r) = false := by simp; omega
          clear e1
          go_enter Try.func9, Try.ntmps9
          go_wp2_with (first | (with_reducible refine H0.out.mono ?_; rintro e w' ⟨rfl, rfl⟩) | (with_reducible refine H1.out.mono ?_; rintro e w' ⟨rfl, rfl⟩) | (with_reducible refine H2.out.mono ?_; rintro e w' ⟨rfl, rfl⟩) | (with_reducible refine H3.out.mono ?_; rintro e w' ⟨rfl, rfl⟩) | (with_reducible refine H4.out.mono ?_; rintro e w' ⟨rfl, rfl⟩))
          go_ret
          exact ⟨rfl, Below.refl _ _⟩
    · have H2 := Lib.hid (make_bad w o t d)
      clear d
      go_enter Try.func9, Try.ntmps9
      go_wp2_with (first | (with_reducible refine H0.out.mono ?_; rintro e w' ⟨rfl, rfl⟩) | (with_reducible refine H1.out.mono ?_; rintro e w' ⟨rfl, rfl⟩) | (with_reducible refine H2.out.mono ?_; rintro e w' ⟨rfl, rfl⟩))
      go_ret
      exact ⟨rfl, Below.refl _ _⟩
  · have H1 := Lib.hid (make_bad w r n c)
    clear c
    obtain ⟨x, e, H2', _⟩ := make_both o t
    have H2 := Lib.hid (H2' w)
    clear H2'
    go_enter Try.func9, Try.ntmps9
    go_wp2_with (first | (with_reducible refine H0.out.mono ?_; rintro e w' ⟨rfl, rfl⟩) | (with_reducible refine H1.out.mono ?_; rintro e w' ⟨rfl, rfl⟩) | (with_reducible refine H2.out.mono ?_; rintro e w' ⟨rfl, rfl⟩))
    go_ret
    exact ⟨rfl, Below.refl _ _⟩
end Go.Proofs.Ytehjgnkolhdecaa
