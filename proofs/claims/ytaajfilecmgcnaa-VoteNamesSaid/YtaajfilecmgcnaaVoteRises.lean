/-
  Layer 7: VoteRises' walk: neither what is promised nor what is accepted ever falls.
-/
import Derived.Test.YtaajfilecmgcnaaVoteAgain
namespace Go.Proofs.Ytaajfilecmgcnaa
open Go.RowKit Bal
set_option maxHeartbeats 1000000
set_option maxRecDepth 100000
set_option linter.unusedVariables false

theorem vcheck_ok (p b : Int) (s : ByteArray) (w : World) (hs : s.size ≤ 9223372036854775807) (p1 : -9223372036854775808 ≤ p) (p2 : p ≤ 9223372036854775807) (b1 : -9223372036854775808 ≤ b) (b2 : b ≤ 9223372036854775807) (h : mayV p b s = true) :
    Calls Try.prog 19 #[.agg #[.int .i64 p, .int .i64 b, .string s]] w fun e w' => e = .returned (.int .i64 0) ∧ Below w.heap.size w w' := by
  have := vcheck_any p b s w hs p1 p2 b1 b2
  rw [vE_yes h] at this
  exact this
theorem vcheck_no (p b : Int) (s : ByteArray) (w : World) (hs : s.size ≤ 9223372036854775807) (p1 : -9223372036854775808 ≤ p) (p2 : p ≤ 9223372036854775807) (b1 : -9223372036854775808 ≤ b) (b2 : b ≤ 9223372036854775807) (h : mayV p b s = false) :
    Calls Try.prog 19 #[.agg #[.int .i64 p, .int .i64 b, .string s]] w fun e w' => e = .returned (.int .i64 8) ∧ Below w.heap.size w w' := by
  have := vcheck_any p b s w hs p1 p2 b1 b2
  rw [vE_no h] at this
  exact this
theorem bcheck_ok (b : Int) (w : World) (h : may b = true) : Calls Try.prog 23 #[.int .i64 b] w fun e w' => e = .returned (.int .i64 0) ∧ Below w.heap.size w w' := by
  refine (check_ok w b h).mono ?_
  rintro e w' ⟨rfl, rfl⟩
  exact ⟨rfl, Below.refl _ _⟩
theorem bcheck_bad (b : Int) (w : World) (lo : -9223372036854775808 ≤ b) (hi : b ≤ 9223372036854775807) (h : may b = false) : Calls Try.prog 23 #[.int .i64 b] w fun e w' => e = .returned (.int .i64 50) ∧ Below w.heap.size w w' := by
  refine (check_bad w b lo hi h).mono ?_
  rintro e w' ⟨rfl, rfl⟩
  exact ⟨rfl, Below.refl _ _⟩
theorem mayV_le {p q b : Int} {s : ByteArray} (h : mayV p q s = true) (hb : may b = true) (hp : ¬ b < p) : ¬ b < q := by
  have h8 := may_yes hb
  unfold mayV at h
  cases hq : (q == 0) with
  | true => simp at hq; omega
  | false =>
    simp only [hq, Bool.and_eq_true, decide_eq_true_eq, Bool.false_eq_true, if_false] at h
    omega

theorem voteRises_walk (p q : Int) (s : ByteArray) (b : Int) (t : ByteArray) (w : World) (hv : IsVote p q s) (hb : -9223372036854775808 ≤ b ∧ b ≤ 9223372036854775807) (ht : t.size ≤ maxLen) :
    Calls Try.prog 5 #[.agg #[.int .i64 p, .int .i64 q, .string s], .int .i64 b, .string t] w fun e w' => e = .returned (.bool true) ∧ Below w.heap.size w w' := by
  obtain ⟨hs, ⟨p1, p2⟩, q1, q2⟩ := hv
  obtain ⟨b1, b2⟩ := hb
  unfold maxLen at ht
  have e6 : ¬ 1024 < (⟨#[]⟩ : ByteArray).size := by decide
  have HZ := Lib.hid e6
  clear e6
  cases hm : mayV p q s with
  | false =>
    have E1 : Hid (askE p q s b ⟨#[]⟩ = 8) := by simp only [Hid, askE, hm, if_true]
    have E2 : Hid (askE p q s b t = 8) := by simp only [Hid, askE, hm, if_true]
    have HM := Lib.hid hm
    clear hm
    have ve1 := fun w => veq 0 0 0 0 ⟨#[]⟩ ⟨#[]⟩ w
    go_enter Try.func5, Try.ntmps5
    go_wp2_with fail
    refine (alive07 _).mono ?_
    rintro e w1 ⟨rfl, hb1⟩
    have K0 := Lib.hid (Vb.new hb1)
    have B1 := Lib.hid (below_of_alloc (hb1.mono (B' := w.heap.size) (by simp)) (Nat.le_refl _))
    clear hb1
    obtain ⟨c00, c01, c02, n0, l0⟩ := K0.out.use
    go_wp2_with fail
    refine (vprep_bad p q s b _ hs p1 p2 q1 q2 b1 b2 8 E1.out (by decide)).mono ?_
    rintro e w2 ⟨rfl, hb2⟩
    have K0 := Lib.hid (K0.out.kept hb2)
    have B2 := Lib.hid (B1.out.trans (hb2.mono (B' := w.heap.size) B1.out.size))
    clear c00 c01 c02 n0 l0
    clear hb2
    obtain ⟨c00, c01, c02, n0, l0⟩ := K0.out.use
    go_wp2_with fail
    refine (vacc_bad p q s b t _ hs ht p1 p2 q1 q2 b1 b2 8 E2.out (by decide)).mono ?_
    rintro e w3 ⟨rfl, hb3⟩
    have K0 := Lib.hid (K0.out.next hb3)
    have K1 := Lib.hid (Vb.new hb3)
    have B3 := Lib.hid (B2.out.trans (below_of_alloc (hb3.mono (B' := w.heap.size) (by simp; have := B2.out.size; omega)) B2.out.size))
    clear c00 c01 c02 n0 l0
    clear hb3
    obtain ⟨c00, c01, c02, n0, l0⟩ := K0.out.use
    obtain ⟨c10, c11, c12, n1, l1⟩ := K1.out.use
    go_wp2_with fail
    refine (vcheck_no p q s _ hs p1 p2 q1 q2 HM.out).mono ?_
    rintro e w4 ⟨rfl, hb4⟩
    have K0 := Lib.hid (K0.out.next hb4)
    have K1 := Lib.hid (K1.out.next hb4)
    have K2 := Lib.hid (Vb.new hb4)
    have B4 := Lib.hid (B3.out.trans (below_of_alloc (hb4.mono (B' := w.heap.size) (by simp; have := B3.out.size; omega)) B3.out.size))
    clear c00 c01 c02 n0 l0 c10 c11 c12 n1 l1
    clear hb4
    obtain ⟨c00, c01, c02, n0, l0⟩ := K0.out.use
    obtain ⟨c10, c11, c12, n1, l1⟩ := K1.out.use
    obtain ⟨c20, c21, c22, n2, l2⟩ := K2.out.use
    go_wp2
    go_ret
    exact ⟨rfl, B4.out⟩
  | true =>
    cases hmb : may b with
    | false =>
      have E1 : Hid (askE p q s b ⟨#[]⟩ = 50) := by simp only [Hid, askE, hm, hmb, Bool.true_eq_false, if_false, if_true]
      have E2 : Hid (askE p q s b t = 50) := by simp only [Hid, askE, hm, hmb, Bool.true_eq_false, if_false, if_true]
      have HM := Lib.hid hm
      have HMB := Lib.hid hmb
      clear hm hmb
      have ve1 := fun w => veq 0 0 0 0 ⟨#[]⟩ ⟨#[]⟩ w
      go_enter Try.func5, Try.ntmps5
      go_wp2_with fail
      refine (alive07 _).mono ?_
      rintro e w1 ⟨rfl, hb1⟩
      have K0 := Lib.hid (Vb.new hb1)
      have B1 := Lib.hid (below_of_alloc (hb1.mono (B' := w.heap.size) (by simp)) (Nat.le_refl _))
      clear hb1
      obtain ⟨c00, c01, c02, n0, l0⟩ := K0.out.use
      go_wp2_with fail
      refine (vprep_bad p q s b _ hs p1 p2 q1 q2 b1 b2 50 E1.out (by decide)).mono ?_
      rintro e w2 ⟨rfl, hb2⟩
      have K0 := Lib.hid (K0.out.kept hb2)
      have B2 := Lib.hid (B1.out.trans (hb2.mono (B' := w.heap.size) B1.out.size))
      clear c00 c01 c02 n0 l0
      clear hb2
      obtain ⟨c00, c01, c02, n0, l0⟩ := K0.out.use
      go_wp2_with fail
      refine (vacc_bad p q s b t _ hs ht p1 p2 q1 q2 b1 b2 50 E2.out (by decide)).mono ?_
      rintro e w3 ⟨rfl, hb3⟩
      have K0 := Lib.hid (K0.out.next hb3)
      have K1 := Lib.hid (Vb.new hb3)
      have B3 := Lib.hid (B2.out.trans (below_of_alloc (hb3.mono (B' := w.heap.size) (by simp; have := B2.out.size; omega)) B2.out.size))
      clear c00 c01 c02 n0 l0
      clear hb3
      obtain ⟨c00, c01, c02, n0, l0⟩ := K0.out.use
      obtain ⟨c10, c11, c12, n1, l1⟩ := K1.out.use
      go_wp2_with fail
      refine (vcheck_ok p q s _ hs p1 p2 q1 q2 HM.out).mono ?_
      rintro e w4 ⟨rfl, hb4⟩
      have K0 := Lib.hid (K0.out.next hb4)
      have K1 := Lib.hid (K1.out.next hb4)
      have K2 := Lib.hid (Vb.new hb4)
      have B4 := Lib.hid (B3.out.trans (below_of_alloc (hb4.mono (B' := w.heap.size) (by simp; have := B3.out.size; omega)) B3.out.size))
      clear c00 c01 c02 n0 l0 c10 c11 c12 n1 l1
      clear hb4
      obtain ⟨c00, c01, c02, n0, l0⟩ := K0.out.use
      obtain ⟨c10, c11, c12, n1, l1⟩ := K1.out.use
      obtain ⟨c20, c21, c22, n2, l2⟩ := K2.out.use
      go_wp2_with fail
      refine (bcheck_bad b _ b1 b2 HMB.out).mono ?_
      rintro e w5 ⟨rfl, hb5⟩
      have K0 := Lib.hid (K0.out.kept hb5)
      have K1 := Lib.hid (K1.out.kept hb5)
      have K2 := Lib.hid (K2.out.kept hb5)
      have B5 := Lib.hid (B4.out.trans (hb5.mono (B' := w.heap.size) B4.out.size))
      clear c00 c01 c02 n0 l0 c10 c11 c12 n1 l1 c20 c21 c22 n2 l2
      clear hb5
      obtain ⟨c00, c01, c02, n0, l0⟩ := K0.out.use
      obtain ⟨c10, c11, c12, n1, l1⟩ := K1.out.use
      obtain ⟨c20, c21, c22, n2, l2⟩ := K2.out.use
      go_wp2
      go_ret
      exact ⟨rfl, B5.out⟩
    | true =>
      by_cases hlt : b < p
      · have E1 : Hid (askE p q s b ⟨#[]⟩ = 70) := by simp only [Hid, askE, hm, hmb, HZ.out, hlt, Bool.true_eq_false, if_false, if_true]
        have hle : decide (p ≤ b) = false := by simp; omega
        by_cases hz : 1024 < t.size
        · have E2 : Hid (askE p q s b t = 3) := by simp only [Hid, askE, hm, hmb, hz, Bool.true_eq_false, if_false, if_true]
          have HM := Lib.hid hm
          have HMB := Lib.hid hmb
          clear hm hmb
          go_enter Try.func5, Try.ntmps5
          go_wp2_with fail
          refine (alive07 _).mono ?_
          rintro e w1 ⟨rfl, hb1⟩
          have K0 := Lib.hid (Vb.new hb1)
          have B1 := Lib.hid (below_of_alloc (hb1.mono (B' := w.heap.size) (by simp)) (Nat.le_refl _))
          clear hb1
          obtain ⟨c00, c01, c02, n0, l0⟩ := K0.out.use
          go_wp2_with fail
          refine (vprep_bad p q s b _ hs p1 p2 q1 q2 b1 b2 70 E1.out (by decide)).mono ?_
          rintro e w2 ⟨rfl, hb2⟩
          have K0 := Lib.hid (K0.out.kept hb2)
          have B2 := Lib.hid (B1.out.trans (hb2.mono (B' := w.heap.size) B1.out.size))
          clear c00 c01 c02 n0 l0
          clear hb2
          obtain ⟨c00, c01, c02, n0, l0⟩ := K0.out.use
          go_wp2_with fail
          refine (vacc_bad p q s b t _ hs ht p1 p2 q1 q2 b1 b2 3 E2.out (by decide)).mono ?_
          rintro e w3 ⟨rfl, hb3⟩
          have K0 := Lib.hid (K0.out.next hb3)
          have K1 := Lib.hid (Vb.new hb3)
          have B3 := Lib.hid (B2.out.trans (below_of_alloc (hb3.mono (B' := w.heap.size) (by simp; have := B2.out.size; omega)) B2.out.size))
          clear c00 c01 c02 n0 l0
          clear hb3
          obtain ⟨c00, c01, c02, n0, l0⟩ := K0.out.use
          obtain ⟨c10, c11, c12, n1, l1⟩ := K1.out.use
          go_wp2_with fail
          refine (vcheck_ok p q s _ hs p1 p2 q1 q2 HM.out).mono ?_
          rintro e w4 ⟨rfl, hb4⟩
          have K0 := Lib.hid (K0.out.next hb4)
          have K1 := Lib.hid (K1.out.next hb4)
          have K2 := Lib.hid (Vb.new hb4)
          have B4 := Lib.hid (B3.out.trans (below_of_alloc (hb4.mono (B' := w.heap.size) (by simp; have := B3.out.size; omega)) B3.out.size))
          clear c00 c01 c02 n0 l0 c10 c11 c12 n1 l1
          clear hb4
          obtain ⟨c00, c01, c02, n0, l0⟩ := K0.out.use
          obtain ⟨c10, c11, c12, n1, l1⟩ := K1.out.use
          obtain ⟨c20, c21, c22, n2, l2⟩ := K2.out.use
          go_wp2_with fail
          refine (bcheck_ok b _ HMB.out).mono ?_
          rintro e w5 ⟨rfl, hb5⟩
          have K0 := Lib.hid (K0.out.kept hb5)
          have K1 := Lib.hid (K1.out.kept hb5)
          have K2 := Lib.hid (K2.out.kept hb5)
          have B5 := Lib.hid (B4.out.trans (hb5.mono (B' := w.heap.size) B4.out.size))
          clear c00 c01 c02 n0 l0 c10 c11 c12 n1 l1 c20 c21 c22 n2 l2
          clear hb5
          obtain ⟨c00, c01, c02, n0, l0⟩ := K0.out.use
          obtain ⟨c10, c11, c12, n1, l1⟩ := K1.out.use
          obtain ⟨c20, c21, c22, n2, l2⟩ := K2.out.use
          go_wp2
          go_ret
          exact ⟨rfl, B5.out⟩
        · have E2 : Hid (askE p q s b t = 70) := by simp only [Hid, askE, hm, hmb, hz, hlt, Bool.true_eq_false, if_false, if_true]
          have HM := Lib.hid hm
          have HMB := Lib.hid hmb
          clear hm hmb
          go_enter Try.func5, Try.ntmps5
          go_wp2_with fail
          refine (alive07 _).mono ?_
          rintro e w1 ⟨rfl, hb1⟩
          have K0 := Lib.hid (Vb.new hb1)
          have B1 := Lib.hid (below_of_alloc (hb1.mono (B' := w.heap.size) (by simp)) (Nat.le_refl _))
          clear hb1
          obtain ⟨c00, c01, c02, n0, l0⟩ := K0.out.use
          go_wp2_with fail
          refine (vprep_bad p q s b _ hs p1 p2 q1 q2 b1 b2 70 E1.out (by decide)).mono ?_
          rintro e w2 ⟨rfl, hb2⟩
          have K0 := Lib.hid (K0.out.kept hb2)
          have B2 := Lib.hid (B1.out.trans (hb2.mono (B' := w.heap.size) B1.out.size))
          clear c00 c01 c02 n0 l0
          clear hb2
          obtain ⟨c00, c01, c02, n0, l0⟩ := K0.out.use
          go_wp2_with fail
          refine (vacc_bad p q s b t _ hs ht p1 p2 q1 q2 b1 b2 70 E2.out (by decide)).mono ?_
          rintro e w3 ⟨rfl, hb3⟩
          have K0 := Lib.hid (K0.out.next hb3)
          have K1 := Lib.hid (Vb.new hb3)
          have B3 := Lib.hid (B2.out.trans (below_of_alloc (hb3.mono (B' := w.heap.size) (by simp; have := B2.out.size; omega)) B2.out.size))
          clear c00 c01 c02 n0 l0
          clear hb3
          obtain ⟨c00, c01, c02, n0, l0⟩ := K0.out.use
          obtain ⟨c10, c11, c12, n1, l1⟩ := K1.out.use
          go_wp2_with fail
          refine (vcheck_ok p q s _ hs p1 p2 q1 q2 HM.out).mono ?_
          rintro e w4 ⟨rfl, hb4⟩
          have K0 := Lib.hid (K0.out.next hb4)
          have K1 := Lib.hid (K1.out.next hb4)
          have K2 := Lib.hid (Vb.new hb4)
          have B4 := Lib.hid (B3.out.trans (below_of_alloc (hb4.mono (B' := w.heap.size) (by simp; have := B3.out.size; omega)) B3.out.size))
          clear c00 c01 c02 n0 l0 c10 c11 c12 n1 l1
          clear hb4
          obtain ⟨c00, c01, c02, n0, l0⟩ := K0.out.use
          obtain ⟨c10, c11, c12, n1, l1⟩ := K1.out.use
          obtain ⟨c20, c21, c22, n2, l2⟩ := K2.out.use
          go_wp2_with fail
          refine (bcheck_ok b _ HMB.out).mono ?_
          rintro e w5 ⟨rfl, hb5⟩
          have K0 := Lib.hid (K0.out.kept hb5)
          have K1 := Lib.hid (K1.out.kept hb5)
          have K2 := Lib.hid (K2.out.kept hb5)
          have B5 := Lib.hid (B4.out.trans (hb5.mono (B' := w.heap.size) B4.out.size))
          clear c00 c01 c02 n0 l0 c10 c11 c12 n1 l1 c20 c21 c22 n2 l2
          clear hb5
          obtain ⟨c00, c01, c02, n0, l0⟩ := K0.out.use
          obtain ⟨c10, c11, c12, n1, l1⟩ := K1.out.use
          obtain ⟨c20, c21, c22, n2, l2⟩ := K2.out.use
          go_wp2
          go_ret
          exact ⟨rfl, B5.out⟩
      · have E1 : Hid (askE p q s b ⟨#[]⟩ = 0) := by simp only [Hid, askE, hm, hmb, HZ.out, hlt, Bool.true_eq_false, if_false]
        have hle : decide (p ≤ b) = true := by simp; omega
        have hltd : decide (b < p) = false := by simp; omega
        have HX := Lib.hid (mayV_again hm hmb hlt)
        have hbq := mayV_le hm hmb hlt
        by_cases hz : 1024 < t.size
        · have E2 : Hid (askE p q s b t = 3) := by simp only [Hid, askE, hm, hmb, hz, Bool.true_eq_false, if_false, if_true]
          have hzd : decide ((t.size : Int) ≤ 1024) = false := by simp; omega
          have HM := Lib.hid hm
          have HMB := Lib.hid hmb
          clear hm hmb
          go_enter Try.func5, Try.ntmps5
          go_wp2_with fail
          refine (alive07 _).mono ?_
          rintro e w1 ⟨rfl, hb1⟩
          have K0 := Lib.hid (Vb.new hb1)
          have B1 := Lib.hid (below_of_alloc (hb1.mono (B' := w.heap.size) (by simp)) (Nat.le_refl _))
          clear hb1
          obtain ⟨c00, c01, c02, n0, l0⟩ := K0.out.use
          go_wp2_with fail
          refine (vprep_ok p q s b _ hs p1 p2 q1 q2 b1 b2 E1.out).mono ?_
          rintro e w2 ⟨rfl, hb2⟩
          have K0 := Lib.hid (K0.out.kept hb2)
          have B2 := Lib.hid (B1.out.trans (hb2.mono (B' := w.heap.size) B1.out.size))
          clear c00 c01 c02 n0 l0
          clear hb2
          obtain ⟨c00, c01, c02, n0, l0⟩ := K0.out.use
          go_wp2_with fail
          refine (vacc_bad p q s b t _ hs ht p1 p2 q1 q2 b1 b2 3 E2.out (by decide)).mono ?_
          rintro e w3 ⟨rfl, hb3⟩
          have K0 := Lib.hid (K0.out.next hb3)
          have K1 := Lib.hid (Vb.new hb3)
          have B3 := Lib.hid (B2.out.trans (below_of_alloc (hb3.mono (B' := w.heap.size) (by simp; have := B2.out.size; omega)) B2.out.size))
          clear c00 c01 c02 n0 l0
          clear hb3
          obtain ⟨c00, c01, c02, n0, l0⟩ := K0.out.use
          obtain ⟨c10, c11, c12, n1, l1⟩ := K1.out.use
          go_wp2_with fail
          refine (vcheck_ok p q s _ hs p1 p2 q1 q2 HM.out).mono ?_
          rintro e w4 ⟨rfl, hb4⟩
          have K0 := Lib.hid (K0.out.next hb4)
          have K1 := Lib.hid (K1.out.next hb4)
          have K2 := Lib.hid (Vb.new hb4)
          have B4 := Lib.hid (B3.out.trans (below_of_alloc (hb4.mono (B' := w.heap.size) (by simp; have := B3.out.size; omega)) B3.out.size))
          clear c00 c01 c02 n0 l0 c10 c11 c12 n1 l1
          clear hb4
          obtain ⟨c00, c01, c02, n0, l0⟩ := K0.out.use
          obtain ⟨c10, c11, c12, n1, l1⟩ := K1.out.use
          obtain ⟨c20, c21, c22, n2, l2⟩ := K2.out.use
          go_wp2_with fail
          refine (bcheck_ok b _ HMB.out).mono ?_
          rintro e w5 ⟨rfl, hb5⟩
          have K0 := Lib.hid (K0.out.kept hb5)
          have K1 := Lib.hid (K1.out.kept hb5)
          have K2 := Lib.hid (K2.out.kept hb5)
          have B5 := Lib.hid (B4.out.trans (hb5.mono (B' := w.heap.size) B4.out.size))
          clear c00 c01 c02 n0 l0 c10 c11 c12 n1 l1 c20 c21 c22 n2 l2
          clear hb5
          obtain ⟨c00, c01, c02, n0, l0⟩ := K0.out.use
          obtain ⟨c10, c11, c12, n1, l1⟩ := K1.out.use
          obtain ⟨c20, c21, c22, n2, l2⟩ := K2.out.use
          go_wp2_with fail
          refine (vcheck_ok b q s _ hs b1 b2 q1 q2 HX.out).mono ?_
          rintro e w6 ⟨rfl, hb6⟩
          have K0 := Lib.hid (K0.out.kept hb6)
          have K1 := Lib.hid (K1.out.kept hb6)
          have K2 := Lib.hid (K2.out.kept hb6)
          have B6 := Lib.hid (B5.out.trans (hb6.mono (B' := w.heap.size) B5.out.size))
          clear c00 c01 c02 n0 l0 c10 c11 c12 n1 l1 c20 c21 c22 n2 l2
          clear hb6
          obtain ⟨c00, c01, c02, n0, l0⟩ := K0.out.use
          obtain ⟨c10, c11, c12, n1, l1⟩ := K1.out.use
          obtain ⟨c20, c21, c22, n2, l2⟩ := K2.out.use
          go_wp2
          go_ret
          exact ⟨rfl, B6.out⟩
        · have E2 : Hid (askE p q s b t = 0) := by simp only [Hid, askE, hm, hmb, hz, hlt, Bool.true_eq_false, if_false]
          have hzd : decide ((t.size : Int) ≤ 1024) = true := by simp; omega
          have HY := Lib.hid (mayV_own hmb hz)
          have HM := Lib.hid hm
          have HMB := Lib.hid hmb
          clear hm hmb
          go_enter Try.func5, Try.ntmps5
          go_wp2_with fail
          refine (alive07 _).mono ?_
          rintro e w1 ⟨rfl, hb1⟩
          have K0 := Lib.hid (Vb.new hb1)
          have B1 := Lib.hid (below_of_alloc (hb1.mono (B' := w.heap.size) (by simp)) (Nat.le_refl _))
          clear hb1
          obtain ⟨c00, c01, c02, n0, l0⟩ := K0.out.use
          go_wp2_with fail
          refine (vprep_ok p q s b _ hs p1 p2 q1 q2 b1 b2 E1.out).mono ?_
          rintro e w2 ⟨rfl, hb2⟩
          have K0 := Lib.hid (K0.out.kept hb2)
          have B2 := Lib.hid (B1.out.trans (hb2.mono (B' := w.heap.size) B1.out.size))
          clear c00 c01 c02 n0 l0
          clear hb2
          obtain ⟨c00, c01, c02, n0, l0⟩ := K0.out.use
          go_wp2_with fail
          refine (vacc_ok p q s b t _ hs ht p1 p2 q1 q2 b1 b2 E2.out).mono ?_
          rintro e w3 ⟨rfl, hb3⟩
          have K0 := Lib.hid (K0.out.next hb3)
          have K1 := Lib.hid (Vb.new hb3)
          have B3 := Lib.hid (B2.out.trans (below_of_alloc (hb3.mono (B' := w.heap.size) (by simp; have := B2.out.size; omega)) B2.out.size))
          clear c00 c01 c02 n0 l0
          clear hb3
          obtain ⟨c00, c01, c02, n0, l0⟩ := K0.out.use
          obtain ⟨c10, c11, c12, n1, l1⟩ := K1.out.use
          go_wp2_with fail
          refine (vcheck_ok p q s _ hs p1 p2 q1 q2 HM.out).mono ?_
          rintro e w4 ⟨rfl, hb4⟩
          have K0 := Lib.hid (K0.out.next hb4)
          have K1 := Lib.hid (K1.out.next hb4)
          have K2 := Lib.hid (Vb.new hb4)
          have B4 := Lib.hid (B3.out.trans (below_of_alloc (hb4.mono (B' := w.heap.size) (by simp; have := B3.out.size; omega)) B3.out.size))
          clear c00 c01 c02 n0 l0 c10 c11 c12 n1 l1
          clear hb4
          obtain ⟨c00, c01, c02, n0, l0⟩ := K0.out.use
          obtain ⟨c10, c11, c12, n1, l1⟩ := K1.out.use
          obtain ⟨c20, c21, c22, n2, l2⟩ := K2.out.use
          go_wp2_with fail
          refine (bcheck_ok b _ HMB.out).mono ?_
          rintro e w5 ⟨rfl, hb5⟩
          have K0 := Lib.hid (K0.out.kept hb5)
          have K1 := Lib.hid (K1.out.kept hb5)
          have K2 := Lib.hid (K2.out.kept hb5)
          have B5 := Lib.hid (B4.out.trans (hb5.mono (B' := w.heap.size) B4.out.size))
          clear c00 c01 c02 n0 l0 c10 c11 c12 n1 l1 c20 c21 c22 n2 l2
          clear hb5
          obtain ⟨c00, c01, c02, n0, l0⟩ := K0.out.use
          obtain ⟨c10, c11, c12, n1, l1⟩ := K1.out.use
          obtain ⟨c20, c21, c22, n2, l2⟩ := K2.out.use
          go_wp2_with fail
          refine (vcheck_ok b q s _ hs b1 b2 q1 q2 HX.out).mono ?_
          rintro e w6 ⟨rfl, hb6⟩
          have K0 := Lib.hid (K0.out.kept hb6)
          have K1 := Lib.hid (K1.out.kept hb6)
          have K2 := Lib.hid (K2.out.kept hb6)
          have B6 := Lib.hid (B5.out.trans (hb6.mono (B' := w.heap.size) B5.out.size))
          clear c00 c01 c02 n0 l0 c10 c11 c12 n1 l1 c20 c21 c22 n2 l2
          clear hb6
          obtain ⟨c00, c01, c02, n0, l0⟩ := K0.out.use
          obtain ⟨c10, c11, c12, n1, l1⟩ := K1.out.use
          obtain ⟨c20, c21, c22, n2, l2⟩ := K2.out.use
          go_wp2_with fail
          refine (vcheck_ok b b t _ ht b1 b2 b1 b2 HY.out).mono ?_
          rintro e w7 ⟨rfl, hb7⟩
          have K0 := Lib.hid (K0.out.kept hb7)
          have K1 := Lib.hid (K1.out.kept hb7)
          have K2 := Lib.hid (K2.out.kept hb7)
          have B7 := Lib.hid (B6.out.trans (hb7.mono (B' := w.heap.size) B6.out.size))
          clear c00 c01 c02 n0 l0 c10 c11 c12 n1 l1 c20 c21 c22 n2 l2
          clear hb7
          obtain ⟨c00, c01, c02, n0, l0⟩ := K0.out.use
          obtain ⟨c10, c11, c12, n1, l1⟩ := K1.out.use
          obtain ⟨c20, c21, c22, n2, l2⟩ := K2.out.use
          go_wp2
          go_ret
          exact ⟨rfl, B7.out⟩
end Go.Proofs.Ytaajfilecmgcnaa
