/-
  Contract of wire.right: may a number be a letter's, in mail?
-/
import Derived.Test.YtmchnjnknnolmaaWire
namespace Go.Proofs.Ytmchnjnknnolmaa
open Go.RowKit Bal
set_option maxHeartbeats 2000000
set_option maxRecDepth 100000
set_option linter.unusedVariables false
set_option linter.unusedSimpArgs false

theorem win_yes (n low high : Int) (w : World) (h : low ≤ n ∧ n ≤ high) : Calls Try.prog 124 #[.int .i64 n, .int .i64 low, .int .i64 high] w fun e w' => e = .returned (.bool true) ∧ w = w' := by
  have := win_any n low high w
  rw [decide_eq_true h.1, decide_eq_true h.2] at this
  exact this
theorem win_no (n low high : Int) (w : World) (h : ¬ (low ≤ n ∧ n ≤ high)) : Calls Try.prog 124 #[.int .i64 n, .int .i64 low, .int .i64 high] w fun e w' => e = .returned (.bool false) ∧ w = w' := by
  have := win_any n low high w
  by_cases h1 : low ≤ n
  · rw [decide_eq_false (fun h2 : n ≤ high => h ⟨h1, h2⟩), Bool.and_false] at this
    exact this
  · rw [decide_eq_false h1, Bool.false_and] at this
    exact this
def rightB (m : Wp.Mail) (c : UInt8) (n : Int) : Bool :=
  if c = 115 then Wp.slotB n || (m.k == 7 && n == 201) else if c = 112 then (if m.k = 2 ∧ n = 0 then m.v.isEmpty else may n) else if c = 98 then may n else if c = 105 then Wp.idB n else Wp.timeB n
theorem S_empty (v : List UInt8) : (S v).toList.isEmpty = v.isEmpty := by rw [S_toList]

theorem wright_any (m : Wp.Mail) (c : UInt8) (n : Int) (w : World) (hc : Wp.letter c) (n0 : -9223372036854775808 ≤ n) (n1 : n ≤ 9223372036854775807) :
    Calls Try.prog 126 #[.agg (mA m), .int .u8 (c.toNat : Int), .int .i64 n] w fun e w' => e = .returned (.bool (rightB m c n)) ∧ Below w.heap.size w w' := by
  obtain ⟨f, t, k, g, s, b, p, v, i, tm⟩ := m
  have hem := S_empty v
  show Calls Try.prog 126 #[.agg #[.int .i64 f, .int .i64 t, .int .u8 k, .int .i64 g, .int .i64 s, .int .i64 b, .int .i64 p, .string (S v), .int .i64 i, .int .i64 tm], .int .u8 (c.toNat : Int), .int .i64 n] w fun e w' => e = .returned (.bool (rightB ⟨f, t, k, g, s, b, p, v, i, tm⟩ c n)) ∧ Below w.heap.size w w'
  rcases hc with rfl | rfl | rfl | rfl | rfl
  · show Calls Try.prog 126 #[.agg #[.int .i64 f, .int .i64 t, .int .u8 k, .int .i64 g, .int .i64 s, .int .i64 b, .int .i64 p, .string (S v), .int .i64 i, .int .i64 tm], .int .u8 115, .int .i64 n] w _
    by_cases h : (1 : Int) ≤ n ∧ n ≤ 200
    · have HI := Lib.hid (win_yes n 1 200 (w.alloc (.cells #[.int .i64 f, .int .i64 t, .int .u8 k, .int .i64 g, .int .i64 s, .int .i64 b, .int .i64 p, .string (S v), .int .i64 i, .int .i64 tm] 25)) h)
      have HE : Hid (rightB ⟨f, t, k, g, s, b, p, v, i, tm⟩ 115 n = true) := by simp [Hid, rightB, Wp.slotB, Wp.idB, Wp.timeB, h]
      skip
      go_enter Try.func126, Try.ntmps126
      go_wp2_with (first | (with_reducible refine HI.out.mono ?_; rintro e w' ⟨rfl, rfl⟩))
      go_ret
      rw [HE.out]
      exact ⟨rfl, (Below.refl _ _).alloc (Nat.le_refl _) _⟩
    · have HI := Lib.hid (win_no n 1 200 (w.alloc (.cells #[.int .i64 f, .int .i64 t, .int .u8 k, .int .i64 g, .int .i64 s, .int .i64 b, .int .i64 p, .string (S v), .int .i64 i, .int .i64 tm] 25)) h)
      cases h7 : (k == 7) with
      | false =>
        have HE : Hid (rightB ⟨f, t, k, g, s, b, p, v, i, tm⟩ 115 n = false) := by simp [Hid, rightB, Wp.slotB, Wp.idB, Wp.timeB, h, h7]
        skip
        go_enter Try.func126, Try.ntmps126
        go_wp2_with (first | (with_reducible refine HI.out.mono ?_; rintro e w' ⟨rfl, rfl⟩))
        go_ret
        rw [HE.out]
        exact ⟨rfl, (Below.refl _ _).alloc (Nat.le_refl _) _⟩
      | true =>
        cases h8 : (n == 201) with
        | false =>
          have HE : Hid (rightB ⟨f, t, k, g, s, b, p, v, i, tm⟩ 115 n = false) := by simp [Hid, rightB, Wp.slotB, Wp.idB, Wp.timeB, h, h7, h8]
          skip
          go_enter Try.func126, Try.ntmps126
          go_wp2_with (first | (with_reducible refine HI.out.mono ?_; rintro e w' ⟨rfl, rfl⟩))
          go_ret
          rw [HE.out]
          exact ⟨rfl, (Below.refl _ _).alloc (Nat.le_refl _) _⟩
        | true =>
          have HE : Hid (rightB ⟨f, t, k, g, s, b, p, v, i, tm⟩ 115 n = true) := by simp [Hid, rightB, Wp.slotB, Wp.idB, Wp.timeB, h, h7, h8]
          skip
          go_enter Try.func126, Try.ntmps126
          go_wp2_with (first | (with_reducible refine HI.out.mono ?_; rintro e w' ⟨rfl, rfl⟩))
          go_ret
          rw [HE.out]
          exact ⟨rfl, (Below.refl _ _).alloc (Nat.le_refl _) _⟩
  · show Calls Try.prog 126 #[.agg #[.int .i64 f, .int .i64 t, .int .u8 k, .int .i64 g, .int .i64 s, .int .i64 b, .int .i64 p, .string (S v), .int .i64 i, .int .i64 tm], .int .u8 98, .int .i64 n] w _
    cases hb : may n with
    | true =>
      have HB := Lib.hid (check_ok (w.alloc (.cells #[.int .i64 f, .int .i64 t, .int .u8 k, .int .i64 g, .int .i64 s, .int .i64 b, .int .i64 p, .string (S v), .int .i64 i, .int .i64 tm] 25)) n hb)
      have HE : Hid (rightB ⟨f, t, k, g, s, b, p, v, i, tm⟩ 98 n = true) := by simp [Hid, rightB, Wp.slotB, Wp.idB, Wp.timeB, hb]
      skip
      go_enter Try.func126, Try.ntmps126
      go_wp2_with (first | (with_reducible refine HB.out.mono ?_; rintro e w' ⟨rfl, rfl⟩))
      go_ret
      rw [HE.out]
      exact ⟨rfl, (Below.refl _ _).alloc (Nat.le_refl _) _⟩
    | false =>
      have HB := Lib.hid (check_bad (w.alloc (.cells #[.int .i64 f, .int .i64 t, .int .u8 k, .int .i64 g, .int .i64 s, .int .i64 b, .int .i64 p, .string (S v), .int .i64 i, .int .i64 tm] 25)) n n0 n1 hb)
      have HE : Hid (rightB ⟨f, t, k, g, s, b, p, v, i, tm⟩ 98 n = false) := by simp [Hid, rightB, Wp.slotB, Wp.idB, Wp.timeB, hb]
      skip
      go_enter Try.func126, Try.ntmps126
      go_wp2_with (first | (with_reducible refine HB.out.mono ?_; rintro e w' ⟨rfl, rfl⟩))
      go_ret
      rw [HE.out]
      exact ⟨rfl, (Below.refl _ _).alloc (Nat.le_refl _) _⟩
  · show Calls Try.prog 126 #[.agg #[.int .i64 f, .int .i64 t, .int .u8 k, .int .i64 g, .int .i64 s, .int .i64 b, .int .i64 p, .string (S v), .int .i64 i, .int .i64 tm], .int .u8 112, .int .i64 n] w _
    cases h2 : (k == 2) with
    | false =>
      have h2n : ¬ k = 2 := by simpa using h2
      cases hb : may n with
      | true =>
        have HB := Lib.hid (check_ok (w.alloc (.cells #[.int .i64 f, .int .i64 t, .int .u8 k, .int .i64 g, .int .i64 s, .int .i64 b, .int .i64 p, .string (S v), .int .i64 i, .int .i64 tm] 25)) n hb)
        have HE : Hid (rightB ⟨f, t, k, g, s, b, p, v, i, tm⟩ 112 n = true) := by simp [Hid, rightB, Wp.slotB, Wp.idB, Wp.timeB, h2n, hb]
        skip
        go_enter Try.func126, Try.ntmps126
        go_wp2_with (first | (with_reducible refine HB.out.mono ?_; rintro e w' ⟨rfl, rfl⟩))
        go_ret
        rw [HE.out]
        exact ⟨rfl, (Below.refl _ _).alloc (Nat.le_refl _) _⟩
      | false =>
        have HB := Lib.hid (check_bad (w.alloc (.cells #[.int .i64 f, .int .i64 t, .int .u8 k, .int .i64 g, .int .i64 s, .int .i64 b, .int .i64 p, .string (S v), .int .i64 i, .int .i64 tm] 25)) n n0 n1 hb)
        have HE : Hid (rightB ⟨f, t, k, g, s, b, p, v, i, tm⟩ 112 n = false) := by simp [Hid, rightB, Wp.slotB, Wp.idB, Wp.timeB, h2n, hb]
        skip
        go_enter Try.func126, Try.ntmps126
        go_wp2_with (first | (with_reducible refine HB.out.mono ?_; rintro e w' ⟨rfl, rfl⟩))
        go_ret
        rw [HE.out]
        exact ⟨rfl, (Below.refl _ _).alloc (Nat.le_refl _) _⟩
    | true =>
      have h2y : k = 2 := by simpa using h2
      cases h0 : (n == 0) with
      | false =>
        have h0n : ¬ n = 0 := by simpa using h0
        have H2Y := Lib.hid h2y
        clear h2y
        cases hb : may n with
        | true =>
          have HB := Lib.hid (check_ok (w.alloc (.cells #[.int .i64 f, .int .i64 t, .int .u8 k, .int .i64 g, .int .i64 s, .int .i64 b, .int .i64 p, .string (S v), .int .i64 i, .int .i64 tm] 25)) n hb)
          have HE : Hid (rightB ⟨f, t, k, g, s, b, p, v, i, tm⟩ 112 n = true) := by simp [Hid, rightB, Wp.slotB, Wp.idB, Wp.timeB, h0n, hb]
          skip
          go_enter Try.func126, Try.ntmps126
          go_wp2_with (first | (with_reducible refine HB.out.mono ?_; rintro e w' ⟨rfl, rfl⟩))
          go_ret
          rw [HE.out]
          exact ⟨rfl, (Below.refl _ _).alloc (Nat.le_refl _) _⟩
        | false =>
          have HB := Lib.hid (check_bad (w.alloc (.cells #[.int .i64 f, .int .i64 t, .int .u8 k, .int .i64 g, .int .i64 s, .int .i64 b, .int .i64 p, .string (S v), .int .i64 i, .int .i64 tm] 25)) n n0 n1 hb)
          have HE : Hid (rightB ⟨f, t, k, g, s, b, p, v, i, tm⟩ 112 n = false) := by simp [Hid, rightB, Wp.slotB, Wp.idB, Wp.timeB, h0n, hb]
          skip
          go_enter Try.func126, Try.ntmps126
          go_wp2_with (first | (with_reducible refine HB.out.mono ?_; rintro e w' ⟨rfl, rfl⟩))
          go_ret
          rw [HE.out]
          exact ⟨rfl, (Below.refl _ _).alloc (Nat.le_refl _) _⟩
      | true =>
        have h0y : n = 0 := by simpa using h0
        have H2Y := Lib.hid h2y
        have H0Y := Lib.hid h0y
        cases he : v.isEmpty with
        | false =>
          rw [he] at hem
          have HE : Hid (rightB ⟨f, t, k, g, s, b, p, v, i, tm⟩ 112 n = false) := by simp only [Hid, rightB, h2y, h0y, he]; rfl
          clear h2y h0y he
          generalize S v = u at *
          go_enter Try.func126, Try.ntmps126
          go_wp2
          go_ret
          rw [HE.out]
          exact ⟨rfl, (Below.refl _ _).alloc (Nat.le_refl _) _⟩
        | true =>
          rw [he] at hem
          have HE : Hid (rightB ⟨f, t, k, g, s, b, p, v, i, tm⟩ 112 n = true) := by simp only [Hid, rightB, h2y, h0y, he]; rfl
          clear h2y h0y he
          generalize S v = u at *
          go_enter Try.func126, Try.ntmps126
          go_wp2
          go_ret
          rw [HE.out]
          exact ⟨rfl, (Below.refl _ _).alloc (Nat.le_refl _) _⟩
  · show Calls Try.prog 126 #[.agg #[.int .i64 f, .int .i64 t, .int .u8 k, .int .i64 g, .int .i64 s, .int .i64 b, .int .i64 p, .string (S v), .int .i64 i, .int .i64 tm], .int .u8 105, .int .i64 n] w _
    by_cases h : (0 : Int) ≤ n ∧ n ≤ 6291455
    · have HI := Lib.hid (win_yes n 0 6291455 (w.alloc (.cells #[.int .i64 f, .int .i64 t, .int .u8 k, .int .i64 g, .int .i64 s, .int .i64 b, .int .i64 p, .string (S v), .int .i64 i, .int .i64 tm] 25)) h)
      have HE : Hid (rightB ⟨f, t, k, g, s, b, p, v, i, tm⟩ 105 n = true) := by simp [Hid, rightB, Wp.slotB, Wp.idB, Wp.timeB, h]
      skip
      go_enter Try.func126, Try.ntmps126
      go_wp2_with (first | (with_reducible refine HI.out.mono ?_; rintro e w' ⟨rfl, rfl⟩))
      go_ret
      rw [HE.out]
      exact ⟨rfl, (Below.refl _ _).alloc (Nat.le_refl _) _⟩
    · have HI := Lib.hid (win_no n 0 6291455 (w.alloc (.cells #[.int .i64 f, .int .i64 t, .int .u8 k, .int .i64 g, .int .i64 s, .int .i64 b, .int .i64 p, .string (S v), .int .i64 i, .int .i64 tm] 25)) h)
      have HE : Hid (rightB ⟨f, t, k, g, s, b, p, v, i, tm⟩ 105 n = false) := by simp [Hid, rightB, Wp.slotB, Wp.idB, Wp.timeB, h]
      skip
      go_enter Try.func126, Try.ntmps126
      go_wp2_with (first | (with_reducible refine HI.out.mono ?_; rintro e w' ⟨rfl, rfl⟩))
      go_ret
      rw [HE.out]
      exact ⟨rfl, (Below.refl _ _).alloc (Nat.le_refl _) _⟩
  · show Calls Try.prog 126 #[.agg #[.int .i64 f, .int .i64 t, .int .u8 k, .int .i64 g, .int .i64 s, .int .i64 b, .int .i64 p, .string (S v), .int .i64 i, .int .i64 tm], .int .u8 116, .int .i64 n] w _
    by_cases h : (1 : Int) ≤ n ∧ n ≤ 1073741824
    · have HI := Lib.hid (win_yes n 1 1073741824 (w.alloc (.cells #[.int .i64 f, .int .i64 t, .int .u8 k, .int .i64 g, .int .i64 s, .int .i64 b, .int .i64 p, .string (S v), .int .i64 i, .int .i64 tm] 25)) h)
      have HE : Hid (rightB ⟨f, t, k, g, s, b, p, v, i, tm⟩ 116 n = true) := by simp [Hid, rightB, Wp.slotB, Wp.idB, Wp.timeB, h]
      skip
      go_enter Try.func126, Try.ntmps126
      go_wp2_with (first | (with_reducible refine HI.out.mono ?_; rintro e w' ⟨rfl, rfl⟩))
      go_ret
      rw [HE.out]
      exact ⟨rfl, (Below.refl _ _).alloc (Nat.le_refl _) _⟩
    · have HI := Lib.hid (win_no n 1 1073741824 (w.alloc (.cells #[.int .i64 f, .int .i64 t, .int .u8 k, .int .i64 g, .int .i64 s, .int .i64 b, .int .i64 p, .string (S v), .int .i64 i, .int .i64 tm] 25)) h)
      have HE : Hid (rightB ⟨f, t, k, g, s, b, p, v, i, tm⟩ 116 n = false) := by simp [Hid, rightB, Wp.slotB, Wp.idB, Wp.timeB, h]
      skip
      go_enter Try.func126, Try.ntmps126
      go_wp2_with (first | (with_reducible refine HI.out.mono ?_; rintro e w' ⟨rfl, rfl⟩))
      go_ret
      rw [HE.out]
      exact ⟨rfl, (Below.refl _ _).alloc (Nat.le_refl _) _⟩
end Go.Proofs.Ytmchnjnknnolmaa
