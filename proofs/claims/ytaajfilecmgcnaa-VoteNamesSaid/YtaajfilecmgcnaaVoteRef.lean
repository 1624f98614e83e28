/-
  Contracts of the reference of layer 7: May, asked, Prepare, Accept: what each call returns, for every argument; new memory alone is written.
-/
import Derived.Test.YtaajfilecmgcnaaVoteDo
import Derived.Test.YtaajfilecmgcnaaBallotRef
namespace Go.Proofs.Ytaajfilecmgcnaa
open Go.RowKit Bal
set_option maxHeartbeats 1000000
set_option maxRecDepth 100000
set_option linter.unusedVariables false
set_option linter.unusedSimpArgs false

theorem rmay07_any (p b : Int) (s : ByteArray) (w : World) (hs : s.size ≤ 9223372036854775807) (p1 : -9223372036854775808 ≤ p) (p2 : p ≤ 9223372036854775807) (b1 : -9223372036854775808 ≤ b) (b2 : b ≤ 9223372036854775807) :
    Calls Try.prog 22 #[.agg #[.int .i64 p, .int .i64 b, .string s]] w fun e w' => e = .returned (.bool (mayV p b s)) ∧ Below w.heap.size w w' := by
  cases hp : (p == 0) with
  | true =>
    have hpn : (p != 0) = false := by simp at hp ⊢; exact hp
    cases hb : (b == 0) with
    | true =>
      have hbn : (b != 0) = false := by simp at hb ⊢; exact hb
      cases he : s.toList.isEmpty with
      | true =>
        have hE : mayV p b s = true := by simp [mayV, hp, hb, he]
        have HE := Lib.hid hE
        clear hE
        go_enter Try.func22, Try.ntmps22
        go_wp2
        go_ret
        rw [HE.out]
        exact ⟨rfl, (Below.refl _ _).alloc (Nat.le_refl _) _⟩
      | false =>
        have hE : mayV p b s = false := by simp [mayV, hp, hb, he]
        have HE := Lib.hid hE
        clear hE
        go_enter Try.func22, Try.ntmps22
        go_wp2
        go_ret
        rw [HE.out]
        exact ⟨rfl, (Below.refl _ _).alloc (Nat.le_refl _) _⟩
    | false =>
      cases hmb : may b with
      | false =>
        have HB := Lib.hid (rmay_no (w.alloc (.cells #[.int .i64 p, .int .i64 b, .string s] 23)) b hmb)
        have hE : mayV p b s = false := by simp [mayV, hp, hb, hmb]
        have HE := Lib.hid hE
        clear hE
        go_enter Try.func22, Try.ntmps22
        go_wp2_with (first | (with_reducible refine HB.out.mono ?_; rintro e w' ⟨rfl, rfl⟩))
        go_ret
        rw [HE.out]
        exact ⟨rfl, (Below.refl _ _).alloc (Nat.le_refl _) _⟩
      | true =>
        have HB := Lib.hid (rmay_yes (w.alloc (.cells #[.int .i64 p, .int .i64 b, .string s] 23)) b hmb)
        by_cases hle : b ≤ p
        · cases hz : decide ((s.size : Int) ≤ 1024) with
          | true =>
            have hz2 : s.size ≤ 1024 := by have := of_decide_eq_true hz; omega
            have hE : mayV p b s = true := by simp [mayV, hp, hb, hmb, hle, hz2]
            have HE := Lib.hid hE
            clear hE
            go_enter Try.func22, Try.ntmps22
            go_wp2_with (first | (with_reducible refine HB.out.mono ?_; rintro e w' ⟨rfl, rfl⟩))
            go_ret
            rw [HE.out]
            exact ⟨rfl, (Below.refl _ _).alloc (Nat.le_refl _) _⟩
          | false =>
            have hz2 : ¬ s.size ≤ 1024 := by have := of_decide_eq_false hz; omega
            have hE : mayV p b s = false := by simp [mayV, hp, hb, hmb, hle, hz2]
            have HE := Lib.hid hE
            clear hE
            go_enter Try.func22, Try.ntmps22
            go_wp2_with (first | (with_reducible refine HB.out.mono ?_; rintro e w' ⟨rfl, rfl⟩))
            go_ret
            rw [HE.out]
            exact ⟨rfl, (Below.refl _ _).alloc (Nat.le_refl _) _⟩
        · have hle2 : decide (b ≤ p) = false := decide_eq_false hle
          have hE : mayV p b s = false := by simp [mayV, hp, hb, hmb, hle]
          have HE := Lib.hid hE
          clear hE
          go_enter Try.func22, Try.ntmps22
          go_wp2_with (first | (with_reducible refine HB.out.mono ?_; rintro e w' ⟨rfl, rfl⟩))
          go_ret
          rw [HE.out]
          exact ⟨rfl, (Below.refl _ _).alloc (Nat.le_refl _) _⟩
  | false =>
    have hpn : (p != 0) = true := by simp at hp ⊢; exact hp
    cases hmp : may p with
    | true =>
      have HP := Lib.hid (rmay_yes (w.alloc (.cells #[.int .i64 p, .int .i64 b, .string s] 23)) p hmp)
      cases hb : (b == 0) with
      | true =>
        have hbn : (b != 0) = false := by simp at hb ⊢; exact hb
        cases he : s.toList.isEmpty with
        | true =>
          have hE : mayV p b s = true := by simp [mayV, hp, hmp, hb, he]
          have HE := Lib.hid hE
          clear hE
          go_enter Try.func22, Try.ntmps22
          go_wp2_with (first | (with_reducible refine HP.out.mono ?_; rintro e w' ⟨rfl, rfl⟩))
          go_ret
          rw [HE.out]
          exact ⟨rfl, (Below.refl _ _).alloc (Nat.le_refl _) _⟩
        | false =>
          have hE : mayV p b s = false := by simp [mayV, hp, hmp, hb, he]
          have HE := Lib.hid hE
          clear hE
          go_enter Try.func22, Try.ntmps22
          go_wp2_with (first | (with_reducible refine HP.out.mono ?_; rintro e w' ⟨rfl, rfl⟩))
          go_ret
          rw [HE.out]
          exact ⟨rfl, (Below.refl _ _).alloc (Nat.le_refl _) _⟩
      | false =>
        cases hmb : may b with
        | false =>
          have HB := Lib.hid (rmay_no (w.alloc (.cells #[.int .i64 p, .int .i64 b, .string s] 23)) b hmb)
          have hE : mayV p b s = false := by simp [mayV, hp, hmp, hb, hmb]
          have HE := Lib.hid hE
          clear hE
          go_enter Try.func22, Try.ntmps22
          go_wp2_with (first | (with_reducible refine HP.out.mono ?_; rintro e w' ⟨rfl, rfl⟩) | (with_reducible refine HB.out.mono ?_; rintro e w' ⟨rfl, rfl⟩))
          go_ret
          rw [HE.out]
          exact ⟨rfl, (Below.refl _ _).alloc (Nat.le_refl _) _⟩
        | true =>
          have HB := Lib.hid (rmay_yes (w.alloc (.cells #[.int .i64 p, .int .i64 b, .string s] 23)) b hmb)
          by_cases hle : b ≤ p
          · cases hz : decide ((s.size : Int) ≤ 1024) with
            | true =>
              have hz2 : s.size ≤ 1024 := by have := of_decide_eq_true hz; omega
              have hE : mayV p b s = true := by simp [mayV, hp, hmp, hb, hmb, hle, hz2]
              have HE := Lib.hid hE
              clear hE
              go_enter Try.func22, Try.ntmps22
              go_wp2_with (first | (with_reducible refine HP.out.mono ?_; rintro e w' ⟨rfl, rfl⟩) | (with_reducible refine HB.out.mono ?_; rintro e w' ⟨rfl, rfl⟩))
              go_ret
              rw [HE.out]
              exact ⟨rfl, (Below.refl _ _).alloc (Nat.le_refl _) _⟩
            | false =>
              have hz2 : ¬ s.size ≤ 1024 := by have := of_decide_eq_false hz; omega
              have hE : mayV p b s = false := by simp [mayV, hp, hmp, hb, hmb, hle, hz2]
              have HE := Lib.hid hE
              clear hE
              go_enter Try.func22, Try.ntmps22
              go_wp2_with (first | (with_reducible refine HP.out.mono ?_; rintro e w' ⟨rfl, rfl⟩) | (with_reducible refine HB.out.mono ?_; rintro e w' ⟨rfl, rfl⟩))
              go_ret
              rw [HE.out]
              exact ⟨rfl, (Below.refl _ _).alloc (Nat.le_refl _) _⟩
          · have hle2 : decide (b ≤ p) = false := decide_eq_false hle
            have hE : mayV p b s = false := by simp [mayV, hp, hmp, hb, hmb, hle]
            have HE := Lib.hid hE
            clear hE
            go_enter Try.func22, Try.ntmps22
            go_wp2_with (first | (with_reducible refine HP.out.mono ?_; rintro e w' ⟨rfl, rfl⟩) | (with_reducible refine HB.out.mono ?_; rintro e w' ⟨rfl, rfl⟩))
            go_ret
            rw [HE.out]
            exact ⟨rfl, (Below.refl _ _).alloc (Nat.le_refl _) _⟩
    | false =>
      have HP := Lib.hid (rmay_no (w.alloc (.cells #[.int .i64 p, .int .i64 b, .string s] 23)) p hmp)
      have hE : mayV p b s = false := by simp [mayV, hp, hmp]
      have HE := Lib.hid hE
      clear hE
      go_enter Try.func22, Try.ntmps22
      go_wp2_with (first | (with_reducible refine HP.out.mono ?_; rintro e w' ⟨rfl, rfl⟩))
      go_ret
      rw [HE.out]
      exact ⟨rfl, (Below.refl _ _).alloc (Nat.le_refl _) _⟩

def rAskE (p q : Int) (s : ByteArray) (b : Int) : Int := if mayV p q s = false then 8 else if may b = false then 50 else 0
theorem rasked_any (p q : Int) (s : ByteArray) (b : Int) (w : World) (hs : s.size ≤ 9223372036854775807) (p1 : -9223372036854775808 ≤ p) (p2 : p ≤ 9223372036854775807) (q1 : -9223372036854775808 ≤ q) (q2 : q ≤ 9223372036854775807) :
    Calls Try.prog 46 #[.agg #[.int .i64 p, .int .i64 q, .string s], .int .i64 b] w fun e w' => e = .returned (.int .i64 (rAskE p q s b)) ∧ Below w.heap.size w w' := by
  go_enter Try.func46, Try.ntmps46
  go_wp2_with fail
  refine (rmay07_any p q s _ hs p1 p2 q1 q2).mono ?_
  rintro e w1 ⟨rfl, hb⟩
  have HB := Lib.hid (below_of_alloc (hb.mono (B' := w.heap.size) (by simp)) (Nat.le_refl _))
  clear hb
  cases hm : mayV p q s with
  | false =>
    have HE : Hid (rAskE p q s b = 8) := by simp [Hid, rAskE, hm]
    clear hm
    go_wp2
    go_ret
    rw [HE.out]
    exact ⟨rfl, HB.out⟩
  | true =>
    cases hmb : may b with
    | false =>
      have HE : Hid (rAskE p q s b = 50) := by simp [Hid, rAskE, hm, hmb]
      have HC := Lib.hid (rmay_no w1 b hmb)
      clear hm hmb
      go_wp2_with (first | (with_reducible refine HC.out.mono ?_; rintro e w' ⟨rfl, rfl⟩))
      go_ret
      rw [HE.out]
      exact ⟨rfl, HB.out⟩
    | true =>
      have HE : Hid (rAskE p q s b = 0) := by simp [Hid, rAskE, hm, hmb]
      have HC := Lib.hid (rmay_yes w1 b hmb)
      clear hm hmb
      go_wp2_with (first | (with_reducible refine HC.out.mono ?_; rintro e w' ⟨rfl, rfl⟩))
      go_ret
      rw [HE.out]
      exact ⟨rfl, HB.out⟩

theorem askE_zero {p q b : Int} {s t : ByteArray} (h : askE p q s b t = 0) : mayV p q s = true ∧ may b = true ∧ ¬ 1024 < t.size ∧ ¬ b < p := by
  unfold askE at h
  cases h1 : mayV p q s with
  | false => simp [h1] at h
  | true =>
    cases h2 : may b with
    | false => simp [h1, h2] at h
    | true =>
      rw [if_neg (by simp [h1]), if_neg (by simp [h2])] at h
      split at h
      · simp at h
      · split at h
        · simp at h
        · exact ⟨rfl, rfl, by assumption, by assumption⟩
/-- Why a vote was not given: the reference says the same at once, or later. -/
theorem askE_bad {p q b x : Int} {s t : ByteArray} (h : askE p q s b t = x) (hx : x ≠ 0) : (rAskE p q s b = x ∧ x ≠ 0) ∨ (rAskE p q s b = 0 ∧ ((1024 < t.size ∧ x = 3 ∧ True) ∨ (x = 70 ∧ ¬ 1024 < t.size ∧ b < p))) := by
  unfold askE at h
  cases h1 : mayV p q s with
  | false => left; simp [h1] at h; subst h; simp [rAskE, h1]
  | true =>
    cases h2 : may b with
    | false => left; simp [h1, h2] at h; subst h; simp [rAskE, h1, h2]
    | true =>
      right
      refine ⟨by simp [rAskE, h1, h2], ?_⟩
      rw [if_neg (by simp [h1]), if_neg (by simp [h2])] at h
      split at h
      · rename_i h3; exact Or.inl ⟨h3, h.symm, trivial⟩
      · split at h
        · rename_i h3 h4; exact Or.inr ⟨h.symm, h3, h4⟩
        · exact absurd h.symm hx

theorem rprep_ok (p q : Int) (s : ByteArray) (b : Int) (w : World) (hs : s.size ≤ 9223372036854775807) (p1 : -9223372036854775808 ≤ p) (p2 : p ≤ 9223372036854775807) (q1 : -9223372036854775808 ≤ q) (q2 : q ≤ 9223372036854775807) (b1 : -9223372036854775808 ≤ b) (b2 : b ≤ 9223372036854775807) (h : askE p q s b ⟨#[]⟩ = 0) :
    Calls Try.prog 20 #[.agg #[.int .i64 p, .int .i64 q, .string s], .int .i64 b] w fun e w' => e = .returned (.tuple #[.agg #[.int .i64 b, .int .i64 q, .string s], .int .i64 0]) ∧ Below w.heap.size w w' := by
  obtain ⟨h1, h2, h3, h4⟩ := askE_zero h
  have hr : rAskE p q s b = 0 := by simp [rAskE, h1, h2]
  clear h1 h2 h
  go_enter Try.func20, Try.ntmps20
  go_wp2_with fail
  refine (rasked_any p q s b _ hs p1 p2 q1 q2).mono ?_
  rw [hr]
  clear hr
  rintro e w1 ⟨rfl, hb⟩
  have hb2 := hb.mono (B' := w.heap.size + 2) (by simp)
  have hz : w.heap.size + 2 ≤ w1.heap.size := by have := hb.size; simp at this; omega
  obtain ⟨hc, hf⟩ := bcell hb2
  have HB := Lib.hid (below_of_alloc (below_of_alloc (hb.mono (B' := w.heap.size) (by simp; omega)) (by simp)) (Nat.le_refl _))
  clear hb hb2
  go_wp2
  exact bodyPost_ret (v := .tuple #[.agg #[.int .i64 b, .int .i64 q, .string s], .int .i64 0]) (by simp [results, Try.results20, go_sem, hc]) rfl ⟨rfl, by first | exact HB.out | exact HB.out.setCell (by simp) _ | exact (HB.out.setCell (by simp) _).setCell (by simp) _ | (repeat (refine Below.setCell ?_ (by simp) _)); exact HB.out⟩
theorem rprep_bad (p q : Int) (s : ByteArray) (b : Int) (w : World) (hs : s.size ≤ 9223372036854775807) (p1 : -9223372036854775808 ≤ p) (p2 : p ≤ 9223372036854775807) (q1 : -9223372036854775808 ≤ q) (q2 : q ≤ 9223372036854775807) (b1 : -9223372036854775808 ≤ b) (b2 : b ≤ 9223372036854775807) (x : Int) (hx0 : askE p q s b ⟨#[]⟩ = x) (h : x ≠ 0) :
    Calls Try.prog 20 #[.agg #[.int .i64 p, .int .i64 q, .string s], .int .i64 b] w fun e w' => e = .returned (.tuple #[.agg #[.int .i64 0, .int .i64 0, .string ⟨#[]⟩], .int .i64 x]) ∧ Below w.heap.size w w' := by
  rcases askE_bad hx0 h with ⟨hr, hrn⟩ | ⟨hr, hq⟩
  · have hx : (x != 0) = true := by simpa using h
    clear hx0 h hrn
    go_enter Try.func20, Try.ntmps20
    go_wp2_with fail
    refine (rasked_any p q s b _ hs p1 p2 q1 q2).mono ?_
    rw [hr]
    clear hr
    rintro e w1 ⟨rfl, hb⟩
    have hb2 := hb.mono (B' := w.heap.size + 2) (by simp)
    have hz : w.heap.size + 2 ≤ w1.heap.size := by have := hb.size; simp at this; omega
    obtain ⟨hc, hf⟩ := bcell hb2
    have HB := Lib.hid (below_of_alloc (below_of_alloc (hb.mono (B' := w.heap.size) (by simp; omega)) (by simp)) (Nat.le_refl _))
    clear hb hb2
    go_wp2
    exact bodyPost_ret (v := .tuple #[.agg #[.int .i64 0, .int .i64 0, .string ⟨#[]⟩], .int .i64 x]) (by simp [results, Try.results20, go_sem, hc]) rfl ⟨rfl, by first | exact HB.out | exact HB.out.setCell (by simp) _ | exact (HB.out.setCell (by simp) _).setCell (by simp) _ | (repeat (refine Below.setCell ?_ (by simp) _)); exact HB.out⟩
  · rcases hq with ⟨hq, _, _⟩ | ⟨rfl, _, hlt⟩
    · exact absurd hq (by decide)
    · clear hx0 h
      go_enter Try.func20, Try.ntmps20
      go_wp2_with fail
      refine (rasked_any p q s b _ hs p1 p2 q1 q2).mono ?_
      rw [hr]
      clear hr
      rintro e w1 ⟨rfl, hb⟩
      have hb2 := hb.mono (B' := w.heap.size + 2) (by simp)
      have hz : w.heap.size + 2 ≤ w1.heap.size := by have := hb.size; simp at this; omega
      obtain ⟨hc, hf⟩ := bcell hb2
      have HB := Lib.hid (below_of_alloc (below_of_alloc (hb.mono (B' := w.heap.size) (by simp; omega)) (by simp)) (Nat.le_refl _))
      clear hb hb2
      go_wp2
      exact bodyPost_ret (v := .tuple #[.agg #[.int .i64 0, .int .i64 0, .string ⟨#[]⟩], .int .i64 70]) (by simp [results, Try.results20, go_sem, hc]) rfl ⟨rfl, by first | exact HB.out | exact HB.out.setCell (by simp) _ | exact (HB.out.setCell (by simp) _).setCell (by simp) _ | (repeat (refine Below.setCell ?_ (by simp) _)); exact HB.out⟩
theorem racc_ok (p q : Int) (s : ByteArray) (b : Int) (t : ByteArray) (w : World) (hs : s.size ≤ 9223372036854775807) (ht : t.size ≤ 9223372036854775807) (p1 : -9223372036854775808 ≤ p) (p2 : p ≤ 9223372036854775807) (q1 : -9223372036854775808 ≤ q) (q2 : q ≤ 9223372036854775807) (b1 : -9223372036854775808 ≤ b) (b2 : b ≤ 9223372036854775807) (h : askE p q s b t = 0) :
    Calls Try.prog 21 #[.agg #[.int .i64 p, .int .i64 q, .string s], .int .i64 b, .string t] w fun e w' => e = .returned (.tuple #[.agg #[.int .i64 b, .int .i64 b, .string t], .int .i64 0]) ∧ Below w.heap.size w w' := by
  obtain ⟨h1, h2, h3, h4⟩ := askE_zero h
  have hr : rAskE p q s b = 0 := by simp [rAskE, h1, h2]
  clear h1 h2 h
  go_enter Try.func21, Try.ntmps21
  go_wp2_with fail
  refine (rasked_any p q s b _ hs p1 p2 q1 q2).mono ?_
  rw [hr]
  clear hr
  rintro e w1 ⟨rfl, hb⟩
  have hb2 := hb.mono (B' := w.heap.size + 2) (by simp)
  have hz : w.heap.size + 2 ≤ w1.heap.size := by have := hb.size; simp at this; omega
  obtain ⟨hc, hf⟩ := bcell hb2
  have HB := Lib.hid (below_of_alloc (below_of_alloc (hb.mono (B' := w.heap.size) (by simp; omega)) (by simp)) (Nat.le_refl _))
  clear hb hb2
  go_wp2
  exact bodyPost_ret (v := .tuple #[.agg #[.int .i64 b, .int .i64 b, .string t], .int .i64 0]) (by simp [results, Try.results21, go_sem, hc]) rfl ⟨rfl, by first | exact HB.out | exact HB.out.setCell (by simp) _ | exact (HB.out.setCell (by simp) _).setCell (by simp) _ | (repeat (refine Below.setCell ?_ (by simp) _)); exact HB.out⟩
theorem racc_bad (p q : Int) (s : ByteArray) (b : Int) (t : ByteArray) (w : World) (hs : s.size ≤ 9223372036854775807) (ht : t.size ≤ 9223372036854775807) (p1 : -9223372036854775808 ≤ p) (p2 : p ≤ 9223372036854775807) (q1 : -9223372036854775808 ≤ q) (q2 : q ≤ 9223372036854775807) (b1 : -9223372036854775808 ≤ b) (b2 : b ≤ 9223372036854775807) (x : Int) (hx0 : askE p q s b t = x) (h : x ≠ 0) :
    Calls Try.prog 21 #[.agg #[.int .i64 p, .int .i64 q, .string s], .int .i64 b, .string t] w fun e w' => e = .returned (.tuple #[.agg #[.int .i64 0, .int .i64 0, .string ⟨#[]⟩], .int .i64 x]) ∧ Below w.heap.size w w' := by
  rcases askE_bad hx0 h with ⟨hr, hrn⟩ | ⟨hr, hq⟩
  · have hx : (x != 0) = true := by simpa using h
    clear hx0 h hrn
    go_enter Try.func21, Try.ntmps21
    go_wp2_with fail
    refine (rasked_any p q s b _ hs p1 p2 q1 q2).mono ?_
    rw [hr]
    clear hr
    rintro e w1 ⟨rfl, hb⟩
    have hb2 := hb.mono (B' := w.heap.size + 2) (by simp)
    have hz : w.heap.size + 2 ≤ w1.heap.size := by have := hb.size; simp at this; omega
    obtain ⟨hc, hf⟩ := bcell hb2
    have HB := Lib.hid (below_of_alloc (below_of_alloc (hb.mono (B' := w.heap.size) (by simp; omega)) (by simp)) (Nat.le_refl _))
    clear hb hb2
    go_wp2
    exact bodyPost_ret (v := .tuple #[.agg #[.int .i64 0, .int .i64 0, .string ⟨#[]⟩], .int .i64 x]) (by simp [results, Try.results21, go_sem, hc]) rfl ⟨rfl, by first | exact HB.out | exact HB.out.setCell (by simp) _ | exact (HB.out.setCell (by simp) _).setCell (by simp) _ | (repeat (refine Below.setCell ?_ (by simp) _)); exact HB.out⟩
  · rcases hq with ⟨hq, rfl, _⟩ | ⟨rfl, hq, hlt⟩
    · clear hx0 h
      go_enter Try.func21, Try.ntmps21
      go_wp2_with fail
      refine (rasked_any p q s b _ hs p1 p2 q1 q2).mono ?_
      rw [hr]
      clear hr
      rintro e w1 ⟨rfl, hb⟩
      have hb2 := hb.mono (B' := w.heap.size + 2) (by simp)
      have hz : w.heap.size + 2 ≤ w1.heap.size := by have := hb.size; simp at this; omega
      obtain ⟨hc, hf⟩ := bcell hb2
      have HB := Lib.hid (below_of_alloc (below_of_alloc (hb.mono (B' := w.heap.size) (by simp; omega)) (by simp)) (Nat.le_refl _))
      clear hb hb2
      go_wp2
      exact bodyPost_ret (v := .tuple #[.agg #[.int .i64 0, .int .i64 0, .string ⟨#[]⟩], .int .i64 3]) (by simp [results, Try.results21, go_sem, hc]) rfl ⟨rfl, by first | exact HB.out | exact HB.out.setCell (by simp) _ | exact (HB.out.setCell (by simp) _).setCell (by simp) _ | (repeat (refine Below.setCell ?_ (by simp) _)); exact HB.out⟩
    · clear hx0 h
      go_enter Try.func21, Try.ntmps21
      go_wp2_with fail
      refine (rasked_any p q s b _ hs p1 p2 q1 q2).mono ?_
      rw [hr]
      clear hr
      rintro e w1 ⟨rfl, hb⟩
      have hb2 := hb.mono (B' := w.heap.size + 2) (by simp)
      have hz : w.heap.size + 2 ≤ w1.heap.size := by have := hb.size; simp at this; omega
      obtain ⟨hc, hf⟩ := bcell hb2
      have HB := Lib.hid (below_of_alloc (below_of_alloc (hb.mono (B' := w.heap.size) (by simp; omega)) (by simp)) (Nat.le_refl _))
      clear hb hb2
      go_wp2
      exact bodyPost_ret (v := .tuple #[.agg #[.int .i64 0, .int .i64 0, .string ⟨#[]⟩], .int .i64 70]) (by simp [results, Try.results21, go_sem, hc]) rfl ⟨rfl, by first | exact HB.out | exact HB.out.setCell (by simp) _ | exact (HB.out.setCell (by simp) _).setCell (by simp) _ | (repeat (refine Below.setCell ?_ (by simp) _)); exact HB.out⟩
end Go.Proofs.Ytaajfilecmgcnaa
