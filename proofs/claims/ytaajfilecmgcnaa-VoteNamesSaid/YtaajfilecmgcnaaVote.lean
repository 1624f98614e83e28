/-
  Contracts of package vote: Check, asked, Prepare, Accept: what each call returns, for every argument; new memory alone is written.
-/
import Derived.Test.YtaajfilecmgcnaaBallot
import Derived.Test.YtaajfilecmgcnaaBase
namespace Go.Proofs.Ytaajfilecmgcnaa
open Go.RowKit Bal
set_option maxHeartbeats 1000000
set_option maxRecDepth 100000
set_option linter.unusedVariables false

/-- May a vote be? -/
def mayV (p b : Int) (s : ByteArray) : Bool := (p == 0 || may p) && (if b == 0 then s.toList.isEmpty else may b && decide (b ≤ p) && decide (s.size ≤ 1024))
def vE (p b : Int) (s : ByteArray) : Int := if mayV p b s then 0 else 8

theorem vcheck_any (p b : Int) (s : ByteArray) (w : World) (hs : s.size ≤ 9223372036854775807) (p1 : -9223372036854775808 ≤ p) (p2 : p ≤ 9223372036854775807) (b1 : -9223372036854775808 ≤ b) (b2 : b ≤ 9223372036854775807) :
    Calls Try.prog 19 #[.agg #[.int .i64 p, .int .i64 b, .string s]] w fun e w' => e = .returned (.int .i64 (vE p b s)) ∧ Below w.heap.size w w' := by
  cases hp : (p == 0) with
  | true =>
    cases hb : (b == 0) with
    | true =>
      cases he : s.toList.isEmpty with
      | true =>
        have hE : vE p b s = 0 := by simp [vE, mayV, hp, hb, he]
        have HE := Lib.hid hE
        clear hE
        go_enter Try.func19, Try.ntmps19
        go_wp2
        go_ret
        rw [HE.out]
        exact ⟨rfl, (Below.refl _ _).alloc (Nat.le_refl _) _⟩
      | false =>
        have hE : vE p b s = 8 := by simp [vE, mayV, hp, hb, he]
        have HE := Lib.hid hE
        clear hE
        go_enter Try.func19, Try.ntmps19
        go_wp2
        go_ret
        rw [HE.out]
        exact ⟨rfl, (Below.refl _ _).alloc (Nat.le_refl _) _⟩
    | false =>
      cases hmb : may b with
      | false =>
        have HB := Lib.hid (check_bad (w.alloc (.cells #[.int .i64 p, .int .i64 b, .string s] 23)) b b1 b2 hmb)
        have hE : vE p b s = 8 := by simp [vE, mayV, hp, hb, hmb]
        have HE := Lib.hid hE
        clear hE
        go_enter Try.func19, Try.ntmps19
        go_wp2_with (first | (with_reducible refine HB.out.mono ?_; rintro e w' ⟨rfl, rfl⟩))
        go_ret
        rw [HE.out]
        exact ⟨rfl, (Below.refl _ _).alloc (Nat.le_refl _) _⟩
      | true =>
        have HB := Lib.hid (check_ok (w.alloc (.cells #[.int .i64 p, .int .i64 b, .string s] 23)) b hmb)
        by_cases hle : b ≤ p
        · cases hz : decide ((s.size : Int) ≤ 1024) with
          | true =>
            have hz2 : s.size ≤ 1024 := by have := of_decide_eq_true hz; omega
            have hE : vE p b s = 0 := by simp [vE, mayV, hp, hb, hmb, hle, hz2]
            have HE := Lib.hid hE
            clear hE
            go_enter Try.func19, Try.ntmps19
            go_wp2_with (first | (with_reducible refine HB.out.mono ?_; rintro e w' ⟨rfl, rfl⟩))
            go_ret
            rw [HE.out]
            exact ⟨rfl, (Below.refl _ _).alloc (Nat.le_refl _) _⟩
          | false =>
            have hz2 : ¬ s.size ≤ 1024 := by have := of_decide_eq_false hz; omega
            have hE : vE p b s = 8 := by simp [vE, mayV, hp, hb, hmb, hle, hz2]
            have HE := Lib.hid hE
            clear hE
            go_enter Try.func19, Try.ntmps19
            go_wp2_with (first | (with_reducible refine HB.out.mono ?_; rintro e w' ⟨rfl, rfl⟩))
            go_ret
            rw [HE.out]
            exact ⟨rfl, (Below.refl _ _).alloc (Nat.le_refl _) _⟩
        · have hle2 : decide (b ≤ p) = false := decide_eq_false hle
          have hE : vE p b s = 8 := by simp [vE, mayV, hp, hb, hmb, hle]
          have HE := Lib.hid hE
          clear hE
          go_enter Try.func19, Try.ntmps19
          go_wp2_with (first | (with_reducible refine HB.out.mono ?_; rintro e w' ⟨rfl, rfl⟩))
          go_ret
          rw [HE.out]
          exact ⟨rfl, (Below.refl _ _).alloc (Nat.le_refl _) _⟩
  | false =>
    cases hmp : may p with
    | true =>
      have HP := Lib.hid (check_ok (w.alloc (.cells #[.int .i64 p, .int .i64 b, .string s] 23)) p hmp)
      cases hb : (b == 0) with
      | true =>
        cases he : s.toList.isEmpty with
        | true =>
          have hE : vE p b s = 0 := by simp [vE, mayV, hp, hmp, hb, he]
          have HE := Lib.hid hE
          clear hE
          go_enter Try.func19, Try.ntmps19
          go_wp2_with (first | (with_reducible refine HP.out.mono ?_; rintro e w' ⟨rfl, rfl⟩))
          go_ret
          rw [HE.out]
          exact ⟨rfl, (Below.refl _ _).alloc (Nat.le_refl _) _⟩
        | false =>
          have hE : vE p b s = 8 := by simp [vE, mayV, hp, hmp, hb, he]
          have HE := Lib.hid hE
          clear hE
          go_enter Try.func19, Try.ntmps19
          go_wp2_with (first | (with_reducible refine HP.out.mono ?_; rintro e w' ⟨rfl, rfl⟩))
          go_ret
          rw [HE.out]
          exact ⟨rfl, (Below.refl _ _).alloc (Nat.le_refl _) _⟩
      | false =>
        cases hmb : may b with
        | false =>
          have HB := Lib.hid (check_bad (w.alloc (.cells #[.int .i64 p, .int .i64 b, .string s] 23)) b b1 b2 hmb)
          have hE : vE p b s = 8 := by simp [vE, mayV, hp, hmp, hb, hmb]
          have HE := Lib.hid hE
          clear hE
          go_enter Try.func19, Try.ntmps19
          go_wp2_with (first | (with_reducible refine HP.out.mono ?_; rintro e w' ⟨rfl, rfl⟩) | (with_reducible refine HB.out.mono ?_; rintro e w' ⟨rfl, rfl⟩))
          go_ret
          rw [HE.out]
          exact ⟨rfl, (Below.refl _ _).alloc (Nat.le_refl _) _⟩
        | true =>
          have HB := Lib.hid (check_ok (w.alloc (.cells #[.int .i64 p, .int .i64 b, .string s] 23)) b hmb)
          by_cases hle : b ≤ p
          · cases hz : decide ((s.size : Int) ≤ 1024) with
            | true =>
              have hz2 : s.size ≤ 1024 := by have := of_decide_eq_true hz; omega
              have hE : vE p b s = 0 := by simp [vE, mayV, hp, hmp, hb, hmb, hle, hz2]
              have HE := Lib.hid hE
              clear hE
              go_enter Try.func19, Try.ntmps19
              go_wp2_with (first | (with_reducible refine HP.out.mono ?_; rintro e w' ⟨rfl, rfl⟩) | (with_reducible refine HB.out.mono ?_; rintro e w' ⟨rfl, rfl⟩))
              go_ret
              rw [HE.out]
              exact ⟨rfl, (Below.refl _ _).alloc (Nat.le_refl _) _⟩
            | false =>
              have hz2 : ¬ s.size ≤ 1024 := by have := of_decide_eq_false hz; omega
              have hE : vE p b s = 8 := by simp [vE, mayV, hp, hmp, hb, hmb, hle, hz2]
              have HE := Lib.hid hE
              clear hE
              go_enter Try.func19, Try.ntmps19
              go_wp2_with (first | (with_reducible refine HP.out.mono ?_; rintro e w' ⟨rfl, rfl⟩) | (with_reducible refine HB.out.mono ?_; rintro e w' ⟨rfl, rfl⟩))
              go_ret
              rw [HE.out]
              exact ⟨rfl, (Below.refl _ _).alloc (Nat.le_refl _) _⟩
          · have hle2 : decide (b ≤ p) = false := decide_eq_false hle
            have hE : vE p b s = 8 := by simp [vE, mayV, hp, hmp, hb, hmb, hle]
            have HE := Lib.hid hE
            clear hE
            go_enter Try.func19, Try.ntmps19
            go_wp2_with (first | (with_reducible refine HP.out.mono ?_; rintro e w' ⟨rfl, rfl⟩) | (with_reducible refine HB.out.mono ?_; rintro e w' ⟨rfl, rfl⟩))
            go_ret
            rw [HE.out]
            exact ⟨rfl, (Below.refl _ _).alloc (Nat.le_refl _) _⟩
    | false =>
      have HP := Lib.hid (check_bad (w.alloc (.cells #[.int .i64 p, .int .i64 b, .string s] 23)) p p1 p2 hmp)
      cases hb : (b == 0) with
      | true =>
        have hE : vE p b s = 8 := by simp [vE, mayV, hp, hmp]
        have HE := Lib.hid hE
        clear hE
        go_enter Try.func19, Try.ntmps19
        go_wp2_with (first | (with_reducible refine HP.out.mono ?_; rintro e w' ⟨rfl, rfl⟩))
        go_ret
        rw [HE.out]
        exact ⟨rfl, (Below.refl _ _).alloc (Nat.le_refl _) _⟩
      | false =>
        have hE : vE p b s = 8 := by simp [vE, mayV, hp, hmp]
        have HE := Lib.hid hE
        clear hE
        go_enter Try.func19, Try.ntmps19
        go_wp2_with (first | (with_reducible refine HP.out.mono ?_; rintro e w' ⟨rfl, rfl⟩))
        go_ret
        rw [HE.out]
        exact ⟨rfl, (Below.refl _ _).alloc (Nat.le_refl _) _⟩

/-! ### asked, Prepare, Accept -/
def askE (p q : Int) (s : ByteArray) (b : Int) (t : ByteArray) : Int := if mayV p q s = false then 8 else if may b = false then 50 else if 1024 < t.size then 3 else if b < p then 70 else 0
theorem vE_yes {p b : Int} {s : ByteArray} (h : mayV p b s = true) : vE p b s = 0 := by simp [vE, h]
theorem vE_no {p b : Int} {s : ByteArray} (h : mayV p b s = false) : vE p b s = 8 := by simp [vE, h]

theorem asked_any (p q : Int) (s : ByteArray) (b : Int) (t : ByteArray) (w : World) (hs : s.size ≤ 9223372036854775807) (ht : t.size ≤ 9223372036854775807) (p1 : -9223372036854775808 ≤ p) (p2 : p ≤ 9223372036854775807) (q1 : -9223372036854775808 ≤ q) (q2 : q ≤ 9223372036854775807) (b1 : -9223372036854775808 ≤ b) (b2 : b ≤ 9223372036854775807) :
    Calls Try.prog 45 #[.agg #[.int .i64 p, .int .i64 q, .string s], .int .i64 b, .string t] w fun e w' => e = .returned (.int .i64 (askE p q s b t)) ∧ Below w.heap.size w w' := by
  go_enter Try.func45, Try.ntmps45
  go_wp2_with fail
  refine (vcheck_any p q s _ hs p1 p2 q1 q2).mono ?_
  rintro e w1 ⟨rfl, hb⟩
  have hc0 : w1.cell? ⟨w.heap.size, 0, none⟩ = some (.int .i64 p) := by
    rw [hb.cell (p := ⟨w.heap.size, 0, none⟩) (by simp)]
    simp
  have HB := Lib.hid (below_of_alloc (hb.mono (B' := w.heap.size) (by simp)) (Nat.le_refl _))
  clear hb
  cases hm : mayV p q s with
  | false =>
    rw [vE_no hm]
    have HE : Hid (askE p q s b t = 8) := by simp [Hid, askE, hm]
    clear hm
    go_wp2
    go_ret
    rw [HE.out]
    exact ⟨rfl, HB.out⟩
  | true =>
    rw [vE_yes hm]
    cases hmb : may b with
    | false =>
      have HE : Hid (askE p q s b t = 50) := by simp [Hid, askE, hm, hmb]
      have HC := Lib.hid (check_bad w1 b b1 b2 hmb)
      clear hm hmb
      go_wp2_with (first | (with_reducible refine HC.out.mono ?_; rintro e w' ⟨rfl, rfl⟩))
      go_ret
      rw [HE.out]
      exact ⟨rfl, HB.out⟩
    | true =>
      have HC := Lib.hid (check_ok w1 b hmb)
      by_cases hz : 1024 < t.size
      · have HE : Hid (askE p q s b t = 3) := by simp [Hid, askE, hm, hmb, hz]
        clear hm hmb
        go_wp2_with (first | (with_reducible refine HC.out.mono ?_; rintro e w' ⟨rfl, rfl⟩))
        go_ret
        rw [HE.out]
        exact ⟨rfl, HB.out⟩
      · by_cases hlt : b < p
        · have HE : Hid (askE p q s b t = 70) := by simp [Hid, askE, hm, hmb, hz, hlt]
          clear hm hmb
          go_wp2_with (first | (with_reducible refine HC.out.mono ?_; rintro e w' ⟨rfl, rfl⟩))
          go_ret
          rw [HE.out]
          exact ⟨rfl, HB.out⟩
        · have HE : Hid (askE p q s b t = 0) := by simp [Hid, askE, hm, hmb, hz, hlt]
          clear hm hmb
          go_wp2_with (first | (with_reducible refine HC.out.mono ?_; rintro e w' ⟨rfl, rfl⟩))
          go_ret
          rw [HE.out]
          exact ⟨rfl, HB.out⟩

end Go.Proofs.Ytaajfilecmgcnaa
