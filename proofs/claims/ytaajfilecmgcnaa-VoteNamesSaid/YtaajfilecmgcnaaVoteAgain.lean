/-
  Layer 7: VoteAgain's walk: what was promised, or accepted, is so again.
-/
import Derived.Test.YtaajfilecmgcnaaVoteThree
namespace Go.Proofs.Ytaajfilecmgcnaa
open Go.RowKit Bal
set_option maxHeartbeats 1000000
set_option maxRecDepth 100000
set_option linter.unusedVariables false

theorem mayV_again {p q b : Int} {s : ByteArray} (h : mayV p q s = true) (hb : may b = true) (hp : ¬ b < p) : mayV b q s = true := by
  unfold mayV at h ⊢
  rw [hb]
  simp only [Bool.or_true, Bool.true_and]
  cases hq : (q == 0) with
  | true => simp only [hq, Bool.and_eq_true, if_true] at h ⊢; exact h.2
  | false =>
    simp only [hq, Bool.and_eq_true, decide_eq_true_eq, Bool.false_eq_true, if_false] at h ⊢
    exact ⟨⟨h.2.1.1, by omega⟩, h.2.2⟩
theorem mayV_own {b : Int} {t : ByteArray} (hb : may b = true) (ht : ¬ 1024 < t.size) : mayV b b t = true := by
  have h := may_yes hb
  unfold mayV
  have h0 : (b == 0) = false := by simp; omega
  rw [hb, h0]
  simp
  omega
theorem askE_again {p q b : Int} {s : ByteArray} {t : ByteArray} (h : askE p q s b t = 0) : askE b q s b ⟨#[]⟩ = 0 := by
  obtain ⟨h1, h2, h3, h4⟩ := askE_zero h
  have h5 := mayV_again h1 h2 h4
  have h6 : ¬ 1024 < (⟨#[]⟩ : ByteArray).size := by decide
  simp only [askE, h5, h2, h6, Bool.true_eq_false, if_false, Int.lt_irrefl]
theorem askE_own {p q b : Int} {s : ByteArray} {t : ByteArray} (h : askE p q s b t = 0) : askE b b t b t = 0 ∧ askE b b t b ⟨#[]⟩ = 0 := by
  obtain ⟨h1, h2, h3, h4⟩ := askE_zero h
  have h5 := mayV_own h2 h3
  have h6 : ¬ 1024 < (⟨#[]⟩ : ByteArray).size := by decide
  constructor
  · simp only [askE, h5, h2, h3, Bool.true_eq_false, if_false, Int.lt_irrefl]
  · simp only [askE, h5, h2, h6, Bool.true_eq_false, if_false, Int.lt_irrefl]
/-- Where a promise is refused nothing is accepted either. -/
theorem askE_both {p q b : Int} {s : ByteArray} {t : ByteArray} (h : askE p q s b ⟨#[]⟩ ≠ 0) : askE p q s b t ≠ 0 := by
  intro h2
  obtain ⟨g1, g2, g3, g4⟩ := askE_zero h2
  apply h
  have h6 : ¬ 1024 < (⟨#[]⟩ : ByteArray).size := by decide
  simp only [askE, g1, g2, g4, h6, Bool.true_eq_false, if_false]

theorem voteAgain_walk (p q : Int) (s : ByteArray) (b : Int) (t : ByteArray) (w : World) (hv : IsVote p q s) (hb : -9223372036854775808 ≤ b ∧ b ≤ 9223372036854775807) (ht : t.size ≤ maxLen) :
    Calls Try.prog 6 #[.agg #[.int .i64 p, .int .i64 q, .string s], .int .i64 b, .string t] w fun e w' => e = .returned (.bool true) ∧ Below w.heap.size w w' := by
  obtain ⟨hs, ⟨p1, p2⟩, q1, q2⟩ := hv
  obtain ⟨b1, b2⟩ := hb
  unfold maxLen at ht
  by_cases h1 : askE p q s b ⟨#[]⟩ = 0
  · by_cases h2 : askE p q s b t = 0
    · have H1 := Lib.hid h1
      have H2 := Lib.hid h2
      have G1 := Lib.hid (askE_again h1)
      have G2 := Lib.hid (askE_own h2).1
      have G3 := Lib.hid (askE_own h2).2
      clear h1 h2
      have ve1 := fun w => vneq b q s w
      have ve2 := fun w => vneq b b t w
      go_enter Try.func6, Try.ntmps6
      go_wp2_with fail
      refine (alive07 _).mono ?_
      rintro e w1 ⟨rfl, hb1⟩
      have K0 := Lib.hid (Vb.new hb1)
      have B1 := Lib.hid (below_of_alloc (hb1.mono (B' := w.heap.size) (by simp)) (Nat.le_refl _))
      clear hb1
      obtain ⟨c00, c01, c02, n0, l0⟩ := K0.out.use
      go_wp2_with fail
      refine (vprep_ok p q s b _ hs p1 p2 q1 q2 b1 b2 H1.out).mono ?_
      rintro e w2 ⟨rfl, hb2⟩
      have K0 := Lib.hid (K0.out.kept hb2)
      have B2 := Lib.hid (B1.out.trans (hb2.mono (B' := w.heap.size) B1.out.size))
      clear c00 c01 c02 n0 l0
      clear hb2
      obtain ⟨c00, c01, c02, n0, l0⟩ := K0.out.use
      go_wp2_with fail
      refine (vacc_ok p q s b t _ hs ht p1 p2 q1 q2 b1 b2 H2.out).mono ?_
      rintro e w3 ⟨rfl, hb3⟩
      have K0 := Lib.hid (K0.out.next hb3)
      have K1 := Lib.hid (Vb.new hb3)
      have B3 := Lib.hid (B2.out.trans (below_of_alloc (hb3.mono (B' := w.heap.size) (by simp; have := B2.out.size; omega)) B2.out.size))
      clear c00 c01 c02 n0 l0
      clear hb3
      obtain ⟨c00, c01, c02, n0, l0⟩ := K0.out.use
      obtain ⟨c10, c11, c12, n1, l1⟩ := K1.out.use
      go_wp2_with fail
      refine (vprep_ok b q s b _ hs b1 b2 q1 q2 b1 b2 G1.out).mono ?_
      rintro e w4 ⟨rfl, hb4⟩
      have K0 := Lib.hid (K0.out.next hb4)
      have K1 := Lib.hid (K1.out.next hb4)
      have K2 := Lib.hid (Vb.new hb4)
      have B4 := Lib.hid (B3.out.trans (below_of_alloc (hb4.mono (B' := w.heap.size) (by simp; have := B3.out.size; omega)) B3.out.size))
      clear c00 c01 c02 n0 l0 c10 c11 c12 n1 l1
      clear hb4
      obtain ⟨c00, c01, c02, n0, l0⟩ := K0.out.use
      obtain ⟨c10, c11, c12, n1, l1⟩ := K1.out.use
      obtain ⟨c20, c21, c22, n2, l2⟩ := K2.out.use
      go_wp2_with fail
      refine (vacc_ok b b t b t _ ht ht b1 b2 b1 b2 b1 b2 G2.out).mono ?_
      rintro e w5 ⟨rfl, hb5⟩
      have K0 := Lib.hid (K0.out.next hb5)
      have K1 := Lib.hid (K1.out.next hb5)
      have K2 := Lib.hid (K2.out.next hb5)
      have K3 := Lib.hid (Vb.new hb5)
      have B5 := Lib.hid (B4.out.trans (below_of_alloc (hb5.mono (B' := w.heap.size) (by simp; have := B4.out.size; omega)) B4.out.size))
      clear c00 c01 c02 n0 l0 c10 c11 c12 n1 l1 c20 c21 c22 n2 l2
      clear hb5
      obtain ⟨c00, c01, c02, n0, l0⟩ := K0.out.use
      obtain ⟨c10, c11, c12, n1, l1⟩ := K1.out.use
      obtain ⟨c20, c21, c22, n2, l2⟩ := K2.out.use
      obtain ⟨c30, c31, c32, n3, l3⟩ := K3.out.use
      go_wp2_with fail
      refine (vprep_ok b b t b _ ht b1 b2 b1 b2 b1 b2 G3.out).mono ?_
      rintro e w6 ⟨rfl, hb6⟩
      have K0 := Lib.hid (K0.out.next hb6)
      have K1 := Lib.hid (K1.out.next hb6)
      have K2 := Lib.hid (K2.out.next hb6)
      have K3 := Lib.hid (K3.out.next hb6)
      have K4 := Lib.hid (Vb.new hb6)
      have B6 := Lib.hid (B5.out.trans (below_of_alloc (hb6.mono (B' := w.heap.size) (by simp; have := B5.out.size; omega)) B5.out.size))
      clear c00 c01 c02 n0 l0 c10 c11 c12 n1 l1 c20 c21 c22 n2 l2 c30 c31 c32 n3 l3
      clear hb6
      obtain ⟨c00, c01, c02, n0, l0⟩ := K0.out.use
      obtain ⟨c10, c11, c12, n1, l1⟩ := K1.out.use
      obtain ⟨c20, c21, c22, n2, l2⟩ := K2.out.use
      obtain ⟨c30, c31, c32, n3, l3⟩ := K3.out.use
      obtain ⟨c40, c41, c42, n4, l4⟩ := K4.out.use
      go_wp2
      go_ret
      exact ⟨rfl, B6.out.alloc B6.out.size _⟩
    · have H1 := Lib.hid h1
      obtain ⟨y, hy⟩ : ∃ y, askE p q s b t = y := ⟨_, rfl⟩
      rw [hy] at h2
      have H2 := Lib.hid h2
      have X2 := Lib.hid hy
      have y0 : (y == 0) = false := by simpa using h2
      have G1 := Lib.hid (askE_again h1)
      clear h1 h2 hy
      have ve1 := fun w => vneq b q s w
      go_enter Try.func6, Try.ntmps6
      go_wp2_with fail
      refine (alive07 _).mono ?_
      rintro e w1 ⟨rfl, hb1⟩
      have K0 := Lib.hid (Vb.new hb1)
      have B1 := Lib.hid (below_of_alloc (hb1.mono (B' := w.heap.size) (by simp)) (Nat.le_refl _))
      clear hb1
      obtain ⟨c00, c01, c02, n0, l0⟩ := K0.out.use
      go_wp2_with fail
      refine (vprep_ok p q s b _ hs p1 p2 q1 q2 b1 b2 H1.out).mono ?_
      rintro e w2 ⟨rfl, hb2⟩
      have K0 := Lib.hid (K0.out.kept hb2)
      have B2 := Lib.hid (B1.out.trans (hb2.mono (B' := w.heap.size) B1.out.size))
      clear c00 c01 c02 n0 l0
      clear hb2
      obtain ⟨c00, c01, c02, n0, l0⟩ := K0.out.use
      go_wp2_with fail
      refine (vacc_bad p q s b t _ hs ht p1 p2 q1 q2 b1 b2 y X2.out H2.out).mono ?_
      rintro e w3 ⟨rfl, hb3⟩
      have K0 := Lib.hid (K0.out.next hb3)
      have K1 := Lib.hid (Vb.new hb3)
      have B3 := Lib.hid (B2.out.trans (below_of_alloc (hb3.mono (B' := w.heap.size) (by simp; have := B2.out.size; omega)) B2.out.size))
      clear c00 c01 c02 n0 l0
      clear hb3
      obtain ⟨c00, c01, c02, n0, l0⟩ := K0.out.use
      obtain ⟨c10, c11, c12, n1, l1⟩ := K1.out.use
      go_wp2_with fail
      refine (vprep_ok b q s b _ hs b1 b2 q1 q2 b1 b2 G1.out).mono ?_
      rintro e w4 ⟨rfl, hb4⟩
      have K0 := Lib.hid (K0.out.next hb4)
      have K1 := Lib.hid (K1.out.next hb4)
      have K2 := Lib.hid (Vb.new hb4)
      have B4 := Lib.hid (B3.out.trans (below_of_alloc (hb4.mono (B' := w.heap.size) (by simp; have := B3.out.size; omega)) B3.out.size))
      clear c00 c01 c02 n0 l0 c10 c11 c12 n1 l1
      clear hb4
      obtain ⟨c00, c01, c02, n0, l0⟩ := K0.out.use
      obtain ⟨c10, c11, c12, n1, l1⟩ := K1.out.use
      obtain ⟨c20, c21, c22, n2, l2⟩ := K2.out.use
      go_wp2
      go_ret
      exact ⟨rfl, B4.out.alloc B4.out.size _⟩
  · have h2 := askE_both (t := t) h1
    obtain ⟨x, hx⟩ : ∃ y, askE p q s b ⟨#[]⟩ = y := ⟨_, rfl⟩
    rw [hx] at h1
    obtain ⟨y, hy⟩ : ∃ y, askE p q s b t = y := ⟨_, rfl⟩
    rw [hy] at h2
    have H1 := Lib.hid h1
    have X1 := Lib.hid hx
    have H2 := Lib.hid h2
    have X2 := Lib.hid hy
    have x0 : (x == 0) = false := by simpa using h1
    have y0 : (y == 0) = false := by simpa using h2
    clear h1 h2 hx hy
    go_enter Try.func6, Try.ntmps6
    go_wp2_with fail
    refine (alive07 _).mono ?_
    rintro e w1 ⟨rfl, hb1⟩
    have K0 := Lib.hid (Vb.new hb1)
    have B1 := Lib.hid (below_of_alloc (hb1.mono (B' := w.heap.size) (by simp)) (Nat.le_refl _))
    clear hb1
    obtain ⟨c00, c01, c02, n0, l0⟩ := K0.out.use
    go_wp2_with fail
    refine (vprep_bad p q s b _ hs p1 p2 q1 q2 b1 b2 x X1.out H1.out).mono ?_
    rintro e w2 ⟨rfl, hb2⟩
    have K0 := Lib.hid (K0.out.kept hb2)
    have B2 := Lib.hid (B1.out.trans (hb2.mono (B' := w.heap.size) B1.out.size))
    clear c00 c01 c02 n0 l0
    clear hb2
    obtain ⟨c00, c01, c02, n0, l0⟩ := K0.out.use
    go_wp2_with fail
    refine (vacc_bad p q s b t _ hs ht p1 p2 q1 q2 b1 b2 y X2.out H2.out).mono ?_
    rintro e w3 ⟨rfl, hb3⟩
    have K0 := Lib.hid (K0.out.next hb3)
    have K1 := Lib.hid (Vb.new hb3)
    have B3 := Lib.hid (B2.out.trans (below_of_alloc (hb3.mono (B' := w.heap.size) (by simp; have := B2.out.size; omega)) B2.out.size))
    clear c00 c01 c02 n0 l0
    clear hb3
    obtain ⟨c00, c01, c02, n0, l0⟩ := K0.out.use
    obtain ⟨c10, c11, c12, n1, l1⟩ := K1.out.use
    go_wp2
    go_ret
    exact ⟨rfl, B3.out.alloc B3.out.size _⟩
end Go.Proofs.Ytaajfilecmgcnaa
