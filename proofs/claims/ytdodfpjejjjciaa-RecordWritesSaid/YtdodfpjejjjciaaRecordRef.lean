/-
  The reference's Reader: numbers, texts, the end: what each call returns, and what becomes of its box.
-/
import Derived.Test.YtdodfpjejjjciaaRecordRead
import Derived.Test.YtdodfpjejjjciaaNumRef
namespace Go.Proofs.Ytdodfpjejjjciaa
open Go.RowKit Bal
set_option maxHeartbeats 1000000
set_option maxRecDepth 100000
set_option linter.unusedVariables false
set_option linter.unusedSimpArgs false

/-- A cell that is set to what it holds. -/
theorem Blk.same_ {w : World} {g : Nat} {t : TypeId} {cs : Array Value} (h : Blk w g t cs) {i : Nat} {u : Value} (hi : cs[i]? = some u) : w.setCell ⟨g, i, none⟩ u = w := by
  have h1 : (w.setCell ⟨g, i, none⟩ u).heap = w.heap := by
    apply Array.ext_getElem?
    intro j
    by_cases hj : j = g
    · subst hj
      have := h.set_ i u
      unfold Blk at this h
      rw [this, h]
      congr 2
      apply Array.ext_getElem?
      intro k
      rw [Array.getElem?_setIfInBounds]
      split
      · rename_i hk
        subst hk
        have hlt := (Array.getElem?_eq_some_iff.1 hi).1
        have h2 := (Array.getElem?_eq_some_iff.1 hi).2
        simp [hlt, h2]
      · rfl
    · exact Below.heap_setCell w ⟨g, i, none⟩ u j hj
  unfold World.setCell at h1 ⊢
  simp only at h1 ⊢
  rw [h1]

/-- How many bytes the reader's next number takes. -/
def rk (high : Nat) (p : Rp.St) : Nat := match Nm.get p.1 with
  | some (n, k) => if high < n ∨ p.2 = true then 0 else k
  | none => 0
theorem rk_le (high : Nat) (p : Rp.St) : rk high p ≤ p.1.length := by
  unfold rk
  cases h : Nm.get p.1 with
  | none => exact Nat.zero_le _
  | some q =>
    obtain ⟨m, k⟩ := q
    simp only
    split
    · exact Nat.zero_le _
    · exact (Nm.get_back h).2.2.1
theorem rnum_drop (high : Nat) (p : Rp.St) : (Rp.rnum high p).2.1 = p.1.drop (rk high p) := by
  unfold Rp.rnum rk
  cases h : Nm.get p.1 with
  | none => simp
  | some q => obtain ⟨m, k⟩ := q; simp only; split <;> simp

theorem rnumber_any (gr : Nat) (A : Option Addr) (n c D high : Nat) (l l' : List UInt8) (m : Nat) (b b' : Bool) (w : World) (h1 : Blk w gr 78 #[.slice A n c, .bool b]) (hr : Reads w D 1 A n (cb l)) (hc : n ≤ c) (hm : c ≤ 9223372036854775807) (hn : n ≤ 1000000) (hh : high ≤ 1099511627776)
    (h : Rp.rnum high (l, b) = (m, (l', b'))) :
    Calls Try.prog 43 #[.pointer (some ⟨gr, 0, none⟩), .int .i64 (high : Int)] w fun e w' => e = .returned (.int .i64 (m : Int)) ∧ w' = (w.setCell ⟨gr, 0, none⟩ (.slice (cutA A c (rk high (l, b))) (n - rk high (l, b)) (c - rk high (l, b)))).setCell ⟨gr, 1, none⟩ (.bool b') := by
  have c1 := h1.cell 0
  have f1 := h1.frozen 0
  have c2 := h1.cell 1
  have f2 := h1.frozen 1
  have hl := hr.len_b
  have hkl : rk high (l, b) ≤ n := by have := rk_le high (l, b); simp only at this; omega
  have hs := fun w => run_slice_from (P := Try.prog) Try.underlying24 A n c (rk high (l, b)) hkl w u8_size
  cases hg : Nm.get l with
  | none =>
    have e1 : rk high (l, b) = 0 := by unfold rk; simp only [hg]
    have e2 : m = 0 ∧ b' = true := by
      unfold Rp.rnum at h
      simp only [hg] at h
      injection h with h h'
      injection h' with h' h''
      exact ⟨h.symm, h''.symm⟩
    obtain ⟨rfl, rfl⟩ := e2
    have HG := Lib.hid (rget_no A n c D l w hr (by omega) hg)
    have HE := Lib.hid e1
    have HB := Lib.hid h1
    clear h hg e1 hr h1 hl hkl hs
    go_enter Try.func43, Try.ntmps43
    go_wp2_with (first | (with_reducible refine HG.out.mono ?_; rintro e w' ⟨rfl, rfl⟩))
    go_ret
    rw [HE.out, cutA_zero, Nat.sub_zero, Nat.sub_zero, HB.out.same_ (i := 0) (u := .slice A n c) rfl]
    exact ⟨rfl, rfl⟩
  | some p =>
    obtain ⟨m2, k⟩ := p
    have HG := Lib.hid (rget_is A n c D l m2 k w hr (by omega) hg)
    by_cases hbad : high < m2 ∨ b = true
    · have e1 : rk high (l, b) = 0 := by unfold rk; simp only [hg]; rw [if_pos hbad]
      have e2 : m = 0 ∧ b' = true := by
        unfold Rp.rnum at h
        simp only [hg] at h
        rw [if_pos hbad] at h
        injection h with h h'
        injection h' with h' h''
        exact ⟨h.symm, h''.symm⟩
      obtain ⟨rfl, rfl⟩ := e2
      have HE := Lib.hid e1
      have HB := Lib.hid h1
      clear h hg e1 hr h1 hl hkl hs
      by_cases hi : high < m2
      · have hi2 : (high : Int) < (m2 : Int) := by omega
        clear hbad
        go_enter Try.func43, Try.ntmps43
        go_wp2_with (first | (with_reducible refine HG.out.mono ?_; rintro e w' ⟨rfl, rfl⟩))
        go_ret
        rw [HE.out, cutA_zero, Nat.sub_zero, Nat.sub_zero, HB.out.same_ (i := 0) (u := .slice A n c) rfl]
        exact ⟨rfl, rfl⟩
      · obtain rfl : b = true := hbad.resolve_left hi
        have hi2 : ¬ (high : Int) < (m2 : Int) := by omega
        clear hbad hi
        go_enter Try.func43, Try.ntmps43
        go_wp2_with (first | (with_reducible refine HG.out.mono ?_; rintro e w' ⟨rfl, rfl⟩))
        go_ret
        rw [HE.out, cutA_zero, Nat.sub_zero, Nat.sub_zero, HB.out.same_ (i := 0) (u := .slice A n c) rfl]
        exact ⟨rfl, rfl⟩
    · have e1 : rk high (l, b) = k := by unfold rk; simp only [hg]; rw [if_neg hbad]
      have e2 : m = m2 ∧ b' = b := by
        unfold Rp.rnum at h
        simp only [hg] at h
        rw [if_neg hbad] at h
        injection h with h h'
        injection h' with h' h''
        exact ⟨h.symm, h''.symm⟩
      obtain ⟨rfl, rfl⟩ := e2
      have hb : b' = false := by cases b' with | false => rfl | true => exact absurd (Or.inr rfl) hbad
      subst hb
      have hi2 : ¬ (high : Int) < (m : Int) := by omega
      have HE := Lib.hid e1
      have HB := Lib.hid h1
      rw [e1] at hs hkl
      clear h hg e1 hr h1 hl hbad
      go_enter Try.func43, Try.ntmps43
      go_wp2_with (first | (with_reducible refine HG.out.mono ?_; rintro e w' ⟨rfl, rfl⟩))
      go_ret
      rw [HE.out, (show Blk (w.setCell ⟨gr, 0, none⟩ (.slice (cutA A c k) (n - k) (c - k))) gr 78 #[.slice (cutA A c k) (n - k) (c - k), .bool false] by simpa using HB.out.set_ 0 (.slice (cutA A c k) (n - k) (c - k))).same_ (i := 1) (u := .bool false) rfl]
      exact ⟨rfl, rfl⟩

/-! ### a text -/
def rtk (high : Nat) (p : Rp.St) : Nat := match Nm.getText p.1 with
  | some (t, k) => if high < t.length ∨ p.2 = true then 0 else k
  | none => 0
theorem rtk_le (high : Nat) (p : Rp.St) : rtk high p ≤ p.1.length := by
  unfold rtk
  cases h : Nm.getText p.1 with
  | none => exact Nat.zero_le _
  | some q =>
    obtain ⟨m, k⟩ := q
    simp only
    split
    · exact Nat.zero_le _
    · exact (Nm.getText_back h).2.2.1
theorem rtext_drop (high : Nat) (p : Rp.St) : (Rp.rtext high p).2.1 = p.1.drop (rtk high p) := by
  unfold Rp.rtext rtk
  cases h : Nm.getText p.1 with
  | none => simp
  | some q => obtain ⟨m, k⟩ := q; simp only; split <;> simp

theorem rtextr_any (gr : Nat) (A : Option Addr) (n c D high : Nat) (l l' t : List UInt8) (b b' : Bool) (w : World) (h1 : Blk w gr 78 #[.slice A n c, .bool b]) (hr : Reads w D 1 A n (cb l)) (hc : n ≤ c) (hm : c ≤ 9223372036854775807) (hn : n ≤ 1000000) (hh : high ≤ 4096)
    (h : Rp.rtext high (l, b) = (t, (l', b'))) :
    Calls Try.prog 44 #[.pointer (some ⟨gr, 0, none⟩), .int .i64 (high : Int)] w fun e w' => e = .returned (.string (S t)) ∧ w' = (w.setCell ⟨gr, 0, none⟩ (.slice (cutA A c (rtk high (l, b))) (n - rtk high (l, b)) (c - rtk high (l, b)))).setCell ⟨gr, 1, none⟩ (.bool b') := by
  have c1 := h1.cell 0
  have f1 := h1.frozen 0
  have c2 := h1.cell 1
  have f2 := h1.frozen 1
  have hl := hr.len_b
  have hkl : rtk high (l, b) ≤ n := by have := rtk_le high (l, b); simp only at this; omega
  have hs := fun w => run_slice_from (P := Try.prog) Try.underlying24 A n c (rtk high (l, b)) hkl w u8_size
  have T := rgetText_any A n c D l w hr hc (by omega)
  cases hg : Nm.getText l with
  | none =>
    rw [hg] at T
    have HG := Lib.hid T
    unfold getTextV at HG
    have e1 : rtk high (l, b) = 0 := by unfold rtk; simp only [hg]
    have e2 : t = [] ∧ b' = true := by
      unfold Rp.rtext at h
      simp only [hg] at h
      injection h with h h'
      injection h' with h' h''
      exact ⟨h.symm, h''.symm⟩
    obtain ⟨rfl, rfl⟩ := e2
    have HE := Lib.hid e1
    have HB := Lib.hid h1
    clear h hg e1 hr h1 hl hkl hs T
    go_enter Try.func44, Try.ntmps44
    go_wp2_with (first | (with_reducible refine HG.out.mono ?_; rintro e w' ⟨rfl, rfl⟩))
    go_ret
    rw [HE.out, cutA_zero, Nat.sub_zero, Nat.sub_zero, HB.out.same_ (i := 0) (u := .slice A n c) rfl]
    exact ⟨rfl, rfl⟩
  | some p =>
    obtain ⟨t2, k⟩ := p
    rw [hg] at T
    have HG := Lib.hid (show Calls Try.prog 51 #[.slice A n c] w fun e w' => e = .returned (.tuple #[.string (S t2), .int .i64 (k : Int), .int .i64 0]) ∧ w = w' from T)
    have hsz := S_size t2
    by_cases hbad : high < t2.length ∨ b = true
    · have e1 : rtk high (l, b) = 0 := by unfold rtk; simp only [hg]; rw [if_pos hbad]
      have e2 : t = [] ∧ b' = true := by
        unfold Rp.rtext at h
        simp only [hg] at h
        rw [if_pos hbad] at h
        injection h with h h'
        injection h' with h' h''
        exact ⟨h.symm, h''.symm⟩
      obtain ⟨rfl, rfl⟩ := e2
      have HE := Lib.hid e1
      have HB := Lib.hid h1
      clear h hg e1 hr h1 hl hkl hs T
      by_cases hi : high < t2.length
      · have hi2 : (high : Int) < ((S t2).size : Int) := by omega
        clear hbad hi hsz
        generalize S t2 = u at *
        go_enter Try.func44, Try.ntmps44
        go_wp2_with (first | (with_reducible refine HG.out.mono ?_; rintro e w' ⟨rfl, rfl⟩))
        go_ret
        rw [HE.out, cutA_zero, Nat.sub_zero, Nat.sub_zero, HB.out.same_ (i := 0) (u := .slice A n c) rfl]
        exact ⟨rfl, rfl⟩
      · obtain rfl : b = true := hbad.resolve_left hi
        have hi2 : ¬ (high : Int) < ((S t2).size : Int) := by omega
        clear hbad hi hsz
        generalize S t2 = u at *
        go_enter Try.func44, Try.ntmps44
        go_wp2_with (first | (with_reducible refine HG.out.mono ?_; rintro e w' ⟨rfl, rfl⟩))
        go_ret
        rw [HE.out, cutA_zero, Nat.sub_zero, Nat.sub_zero, HB.out.same_ (i := 0) (u := .slice A n c) rfl]
        exact ⟨rfl, rfl⟩
    · have e1 : rtk high (l, b) = k := by unfold rtk; simp only [hg]; rw [if_neg hbad]
      have e2 : t = t2 ∧ b' = b := by
        unfold Rp.rtext at h
        simp only [hg] at h
        rw [if_neg hbad] at h
        injection h with h h'
        injection h' with h' h''
        exact ⟨h.symm, h''.symm⟩
      obtain ⟨rfl, rfl⟩ := e2
      have hb : b' = false := by cases b' with | false => rfl | true => exact absurd (Or.inr rfl) hbad
      subst hb
      have hi2 : ¬ (high : Int) < ((S t).size : Int) := by omega
      have HE := Lib.hid e1
      have HB := Lib.hid h1
      rw [e1] at hs hkl
      clear h hg e1 hr h1 hl hbad hsz T
      generalize S t = u at *
      go_enter Try.func44, Try.ntmps44
      go_wp2_with (first | (with_reducible refine HG.out.mono ?_; rintro e w' ⟨rfl, rfl⟩))
      go_ret
      rw [HE.out, (show Blk (w.setCell ⟨gr, 0, none⟩ (.slice (cutA A c k) (n - k) (c - k))) gr 78 #[.slice (cutA A c k) (n - k) (c - k), .bool false] by simpa using HB.out.set_ 0 (.slice (cutA A c k) (n - k) (c - k))).same_ (i := 1) (u := .bool false) rfl]
      exact ⟨rfl, rfl⟩

theorem rdone_any (gr : Nat) (A : Option Addr) (n c : Nat) (b : Bool) (w : World) (h1 : Blk w gr 78 #[.slice A n c, .bool b]) (hn : n ≤ 1000000) :
    Calls Try.prog 45 #[.pointer (some ⟨gr, 0, none⟩)] w fun e w' => e = .returned (.bool (!b && n == 0)) ∧ w = w' := by
  have c1 := h1.cell 0
  have c2 := h1.cell 1
  clear h1
  cases b with
  | true =>
    go_enter Try.func45, Try.ntmps45
    go_wp2
    go_ret
    exact ⟨rfl, rfl⟩
  | false =>
    by_cases h0 : n = 0
    · subst h0
      go_enter Try.func45, Try.ntmps45
      go_wp2
      go_ret
      exact ⟨rfl, rfl⟩
    · have h2 : ((n : Int) == 0) = false := by simp; omega
      have h3 : (n == 0) = false := by simpa using h0
      go_enter Try.func45, Try.ntmps45
      go_wp2
      go_ret
      rw [h3]
      exact ⟨rfl, rfl⟩
end Go.Proofs.Ytdodfpjejjjciaa
