/-
  Contracts of package record: has, Check: what each call returns, for every argument; new memory alone is written.
-/
import Derived.Test.YtdodfpjejjjciaaRecordPlain
import Derived.Test.YtdodfpjejjjciaaNumRef
import Derived.Test.YtdodfpjejjjciaaBallotRef
namespace Go.Proofs.Ytdodfpjejjjciaa
open Go.RowKit Bal
set_option maxHeartbeats 1000000
set_option maxRecDepth 100000
set_option linter.unusedVariables false
set_option linter.unusedSimpArgs false

def rE (k g s b : Int) (n : Nat) : Int := if Rp.mayB k g s b n then 0 else 8
theorem has_any (k : Int) (w : World) : Calls Try.prog 37 #[.int .u8 k] w fun e w' => e = .returned (.tuple #[.bool (Rp.votes k), .bool (Rp.value k)]) ∧ w = w' := by
  by_cases h1 : k = 1
  · subst h1
    go_enter Try.func37, Try.ntmps37
    go_wp2
    go_ret2
    exact ⟨rfl, rfl⟩
  by_cases h2 : k = 2
  · subst h2
    go_enter Try.func37, Try.ntmps37
    go_wp2
    go_ret2
    exact ⟨rfl, rfl⟩
  by_cases h3 : k = 3
  · subst h3
    go_enter Try.func37, Try.ntmps37
    go_wp2
    go_ret2
    exact ⟨rfl, rfl⟩
  have hv : Rp.votes k = false := by simp [Rp.votes, h1, h2]
  have hj : Rp.value k = false := by simp [Rp.value, h2, h3]
  have q1 : (k == 1) = false := by simpa using h1
  have q2 : (k == 2) = false := by simpa using h2
  have q3 : (k == 3) = false := by simpa using h3
  clear h1 h2 h3
  go_enter Try.func37, Try.ntmps37
  go_wp2
  go_ret2
  rw [hv, hj]
  exact ⟨rfl, rfl⟩

theorem rcheck_any10 (k g s b : Int) (v : ByteArray) (w : World) (hs : v.size ≤ 9223372036854775807) (b1 : -9223372036854775808 ≤ b) (b2 : b ≤ 9223372036854775807) :
    Calls Try.prog 19 #[.agg #[.int .u8 k, .int .i64 g, .int .i64 s, .int .i64 b, .string v]] w fun e w' => e = .returned (.int .i64 (rE k g s b v.size)) ∧ Below w.heap.size w w' := by
  have hem : v.toList.isEmpty = (v.size == 0) := by
    rw [Bool.eq_iff_iff, List.isEmpty_iff_length_eq_zero, toList_of, size_data]
    simp
  have HM := Lib.hid hem
  clear hem
  go_enter Try.func19, Try.ntmps19
  go_wp2_with fail
  refine (has_any k _).mono ?_
  rintro e w' ⟨rfl, rfl⟩
  cases hv : Rp.votes k with
  | true =>
    cases hj : Rp.value k with
    | true =>
      by_cases c0 : 0 ≤ g
      rotate_left
      · have q0 : decide (0 ≤ g) = false := decide_eq_false c0
        have HE : Hid (rE k g s b v.size = 8) := by simp [Hid, rE, Rp.mayB, hv, hj, c0]
        go_wp2
        go_ret
        rw [HE.out]
        exact ⟨rfl, (Below.refl _ _).alloc (Nat.le_refl _) _⟩
      by_cases c1 : g < 4
      rotate_left
      · have q1 : decide (g < 4) = false := decide_eq_false c1
        have HE : Hid (rE k g s b v.size = 8) := by simp [Hid, rE, Rp.mayB, hv, hj, c0, c1]
        go_wp2
        go_ret
        rw [HE.out]
        exact ⟨rfl, (Below.refl _ _).alloc (Nat.le_refl _) _⟩
      by_cases c2 : 1 ≤ s
      rotate_left
      · have q2 : decide (1 ≤ s) = false := decide_eq_false c2
        have HE : Hid (rE k g s b v.size = 8) := by simp [Hid, rE, Rp.mayB, hv, hj, c0, c1, c2]
        go_wp2
        go_ret
        rw [HE.out]
        exact ⟨rfl, (Below.refl _ _).alloc (Nat.le_refl _) _⟩
      by_cases c3 : s ≤ 200
      rotate_left
      · have q3 : decide (s ≤ 200) = false := decide_eq_false c3
        have HE : Hid (rE k g s b v.size = 8) := by simp [Hid, rE, Rp.mayB, hv, hj, c0, c1, c2, c3]
        go_wp2
        go_ret
        rw [HE.out]
        exact ⟨rfl, (Below.refl _ _).alloc (Nat.le_refl _) _⟩
      by_cases c4 : (v.size : Int) ≤ 1024
      rotate_left
      · have q4 : decide ((v.size : Int) ≤ 1024) = false := decide_eq_false c4
        have c5 : ¬ v.size ≤ 1024 := by omega
        have HE : Hid (rE k g s b v.size = 8) := by simp [Hid, rE, Rp.mayB, hv, hj, c0, c1, c2, c3, c5]
        go_wp2
        go_ret
        rw [HE.out]
        exact ⟨rfl, (Below.refl _ _).alloc (Nat.le_refl _) _⟩
      have c5 : v.size ≤ 1024 := by omega
      cases hb : may b with
      | true =>
        have HB := Lib.hid (check_ok (w.alloc (.cells #[.int .u8 k, .int .i64 g, .int .i64 s, .int .i64 b, .string v] 36)) b hb)
        have HE : Hid (rE k g s b v.size = 0) := by simp [Hid, rE, Rp.mayB, hv, hj, c0, c1, c2, c3, c5, hb]
        go_wp2_with (first | (with_reducible refine HB.out.mono ?_; rintro e w' ⟨rfl, rfl⟩))
        go_ret
        rw [HE.out]
        exact ⟨rfl, (Below.refl _ _).alloc (Nat.le_refl _) _⟩
      | false =>
        have HB := Lib.hid (check_bad (w.alloc (.cells #[.int .u8 k, .int .i64 g, .int .i64 s, .int .i64 b, .string v] 36)) b b1 b2 hb)
        have HE : Hid (rE k g s b v.size = 8) := by simp [Hid, rE, Rp.mayB, hv, hj, c0, c1, c2, c3, c5, hb]
        go_wp2_with (first | (with_reducible refine HB.out.mono ?_; rintro e w' ⟨rfl, rfl⟩))
        go_ret
        rw [HE.out]
        exact ⟨rfl, (Below.refl _ _).alloc (Nat.le_refl _) _⟩
    | false =>
      by_cases c0 : 0 ≤ g
      rotate_left
      · have q0 : decide (0 ≤ g) = false := decide_eq_false c0
        have HE : Hid (rE k g s b v.size = 8) := by simp [Hid, rE, Rp.mayB, hv, hj, c0]
        go_wp2
        go_ret
        rw [HE.out]
        exact ⟨rfl, (Below.refl _ _).alloc (Nat.le_refl _) _⟩
      by_cases c1 : g < 4
      rotate_left
      · have q1 : decide (g < 4) = false := decide_eq_false c1
        have HE : Hid (rE k g s b v.size = 8) := by simp [Hid, rE, Rp.mayB, hv, hj, c0, c1]
        go_wp2
        go_ret
        rw [HE.out]
        exact ⟨rfl, (Below.refl _ _).alloc (Nat.le_refl _) _⟩
      by_cases c2 : 1 ≤ s
      rotate_left
      · have q2 : decide (1 ≤ s) = false := decide_eq_false c2
        have HE : Hid (rE k g s b v.size = 8) := by simp [Hid, rE, Rp.mayB, hv, hj, c0, c1, c2]
        go_wp2
        go_ret
        rw [HE.out]
        exact ⟨rfl, (Below.refl _ _).alloc (Nat.le_refl _) _⟩
      by_cases c3 : s ≤ 200
      rotate_left
      · have q3 : decide (s ≤ 200) = false := decide_eq_false c3
        have HE : Hid (rE k g s b v.size = 8) := by simp [Hid, rE, Rp.mayB, hv, hj, c0, c1, c2, c3]
        go_wp2
        go_ret
        rw [HE.out]
        exact ⟨rfl, (Below.refl _ _).alloc (Nat.le_refl _) _⟩
      by_cases c4 : (v.size : Int) ≤ 1024
      rotate_left
      · have q4 : decide ((v.size : Int) ≤ 1024) = false := decide_eq_false c4
        have c5 : ¬ v.size ≤ 1024 := by omega
        have HE : Hid (rE k g s b v.size = 8) := by simp [Hid, rE, Rp.mayB, hv, hj, c0, c1, c2, c3, c5]
        go_wp2
        go_ret
        rw [HE.out]
        exact ⟨rfl, (Below.refl _ _).alloc (Nat.le_refl _) _⟩
      have c5 : v.size ≤ 1024 := by omega
      cases he : v.toList.isEmpty with
      | false =>
        have he2 : (v.size == 0) = false := HM.out.symm.trans he
        have HE : Hid (rE k g s b v.size = 8) := by simp [Hid, rE, Rp.mayB, hv, hj, c0, c1, c2, c3, c5, he2]
        go_wp2
        go_ret
        rw [HE.out]
        exact ⟨rfl, (Below.refl _ _).alloc (Nat.le_refl _) _⟩
      | true =>
        have he2 : (v.size == 0) = true := HM.out.symm.trans he
        cases hb : may b with
        | true =>
          have HB := Lib.hid (check_ok (w.alloc (.cells #[.int .u8 k, .int .i64 g, .int .i64 s, .int .i64 b, .string v] 36)) b hb)
          have HE : Hid (rE k g s b v.size = 0) := by simp [Hid, rE, Rp.mayB, hv, hj, c0, c1, c2, c3, c5, he2, hb]
          go_wp2_with (first | (with_reducible refine HB.out.mono ?_; rintro e w' ⟨rfl, rfl⟩))
          go_ret
          rw [HE.out]
          exact ⟨rfl, (Below.refl _ _).alloc (Nat.le_refl _) _⟩
        | false =>
          have HB := Lib.hid (check_bad (w.alloc (.cells #[.int .u8 k, .int .i64 g, .int .i64 s, .int .i64 b, .string v] 36)) b b1 b2 hb)
          have HE : Hid (rE k g s b v.size = 8) := by simp [Hid, rE, Rp.mayB, hv, hj, c0, c1, c2, c3, c5, he2, hb]
          go_wp2_with (first | (with_reducible refine HB.out.mono ?_; rintro e w' ⟨rfl, rfl⟩))
          go_ret
          rw [HE.out]
          exact ⟨rfl, (Below.refl _ _).alloc (Nat.le_refl _) _⟩
  | false =>
    cases hj : Rp.value k with
    | true =>
      by_cases c0 : 0 ≤ g
      rotate_left
      · have q0 : decide (0 ≤ g) = false := decide_eq_false c0
        have HE : Hid (rE k g s b v.size = 8) := by simp [Hid, rE, Rp.mayB, hv, hj, c0]
        go_wp2
        go_ret
        rw [HE.out]
        exact ⟨rfl, (Below.refl _ _).alloc (Nat.le_refl _) _⟩
      by_cases c1 : g < 4
      rotate_left
      · have q1 : decide (g < 4) = false := decide_eq_false c1
        have HE : Hid (rE k g s b v.size = 8) := by simp [Hid, rE, Rp.mayB, hv, hj, c0, c1]
        go_wp2
        go_ret
        rw [HE.out]
        exact ⟨rfl, (Below.refl _ _).alloc (Nat.le_refl _) _⟩
      by_cases c2 : 1 ≤ s
      rotate_left
      · have q2 : decide (1 ≤ s) = false := decide_eq_false c2
        have HE : Hid (rE k g s b v.size = 8) := by simp [Hid, rE, Rp.mayB, hv, hj, c0, c1, c2]
        go_wp2
        go_ret
        rw [HE.out]
        exact ⟨rfl, (Below.refl _ _).alloc (Nat.le_refl _) _⟩
      by_cases c3 : s ≤ 200
      rotate_left
      · have q3 : decide (s ≤ 200) = false := decide_eq_false c3
        have HE : Hid (rE k g s b v.size = 8) := by simp [Hid, rE, Rp.mayB, hv, hj, c0, c1, c2, c3]
        go_wp2
        go_ret
        rw [HE.out]
        exact ⟨rfl, (Below.refl _ _).alloc (Nat.le_refl _) _⟩
      by_cases c4 : (v.size : Int) ≤ 1024
      rotate_left
      · have q4 : decide ((v.size : Int) ≤ 1024) = false := decide_eq_false c4
        have c5 : ¬ v.size ≤ 1024 := by omega
        have HE : Hid (rE k g s b v.size = 8) := by simp [Hid, rE, Rp.mayB, hv, hj, c0, c1, c2, c3, c5]
        go_wp2
        go_ret
        rw [HE.out]
        exact ⟨rfl, (Below.refl _ _).alloc (Nat.le_refl _) _⟩
      have c5 : v.size ≤ 1024 := by omega
      cases hb : (b == 0) with
      | true =>
        have HE : Hid (rE k g s b v.size = 0) := by simp [Hid, rE, Rp.mayB, hv, hj, c0, c1, c2, c3, c5, hb]
        go_wp2
        go_ret
        rw [HE.out]
        exact ⟨rfl, (Below.refl _ _).alloc (Nat.le_refl _) _⟩
      | false =>
        have HE : Hid (rE k g s b v.size = 8) := by simp [Hid, rE, Rp.mayB, hv, hj, c0, c1, c2, c3, c5, hb]
        go_wp2
        go_ret
        rw [HE.out]
        exact ⟨rfl, (Below.refl _ _).alloc (Nat.le_refl _) _⟩
    | false =>
      have HE : Hid (rE k g s b v.size = 8) := by simp [Hid, rE, Rp.mayB, hv, hj]
      go_wp2
      go_ret
      rw [HE.out]
      exact ⟨rfl, (Below.refl _ _).alloc (Nat.le_refl _) _⟩
end Go.Proofs.Ytdodfpjejjjciaa
