/-
  record.Read: its closure by a contract of its own: what is left of the bytes lies in a box, and whether something was wrong in another one; the call's answer.
-/
import Derived.Test.YtdodfpjejjjciaaRecord
import Derived.Test.YtdodfpjejjjciaaConv
namespace Go.Proofs.Ytdodfpjejjjciaa
open Go.RowKit Bal
set_option maxHeartbeats 1000000
set_option maxRecDepth 100000
set_option linter.unusedVariables false
set_option linter.unusedSimpArgs false

/-- How many bytes the next number takes. -/
def nk (l : List UInt8) : Nat := match Nm.get l with | some p => p.2 | none => 0
theorem nk_le (l : List UInt8) : nk l ≤ l.length := by
  unfold nk
  cases h : Nm.get l with
  | none => exact Nat.zero_le _
  | some p => obtain ⟨m, k⟩ := p; exact (Nm.get_back h).2.2.1
theorem next_drop (l : List UInt8) (b : Bool) : (Rp.next (l, b)).2.1 = l.drop (nk l) := by
  unfold Rp.next nk
  cases h : Nm.get l with
  | none => simp
  | some p => simp
theorem and255 (k : Nat) (hk : k < 9223372036854775808) : bits .and .i64 (k : Int) 255 = ((k % 256 : Nat) : Int) := by
  have h := i64_and_nat k 255 hk (by omega)
  have e : k &&& 255 = k % 256 := Nat.and_two_pow_sub_one_eq_mod k 8
  rw [e] at h
  exact h

theorem cutA_zero (A : Option Addr) (c : Nat) : cutA A c 0 = A := by
  unfold cutA
  split
  · rfl
  · cases A with
    | none => rfl
    | some a => simp [Addr.add]
theorem rnext_any (gb gd : Nat) (A : Option Addr) (n c D : Nat) (l l' : List UInt8) (m : Nat) (b b' : Bool) (w : World) (h1 : Blk w gb 24 #[.slice A n c]) (h2 : Blk w gd 4 #[.bool b]) (hr : Reads w D 1 A n (cb l)) (hc : n ≤ c) (hm : c ≤ 9223372036854775807) (hn : n ≤ 1000000)
    (h : Rp.next (l, b) = (m, (l', b'))) :
    Calls Try.prog 38 #[.pointer (some ⟨gb, 0, none⟩), .pointer (some ⟨gd, 0, none⟩)] w fun e w' => e = .returned (.int .i64 (m : Int)) ∧ w' = (w.setCell ⟨gd, 0, none⟩ (.bool b')).setCell ⟨gb, 0, none⟩ (.slice (cutA A c (nk l)) (n - nk l) (c - nk l)) := by
  have c1 := h1.cell 0
  have f1 := h1.frozen 0
  have c2 := h2.cell 0
  have f2 := h2.frozen 0
  have n12 := h1.ne_ h2 (by decide)
  have n21 := Ne.symm n12
  have hl := hr.len_b
  have hs := fun w => run_slice_from (P := Try.prog) Try.underlying24 A n c (nk l) (by have := nk_le l; omega) w u8_size
  have hkl : nk l ≤ n := by have := nk_le l; omega
  cases hg : Nm.get l with
  | none =>
    have e1 : nk l = 0 := by unfold nk; rw [hg]
    have e2 : m = 0 ∧ b' = true := by
      unfold Rp.next at h
      simp only [hg] at h
      injection h with h h'
      injection h' with h' h''
      exact ⟨h.symm, h''.symm⟩
    obtain ⟨rfl, rfl⟩ := e2
    have HG := Lib.hid (get_no A n c D l w hr (by omega) hg)
    have HE := Lib.hid e1
    rw [e1] at hs
    clear h hg e1 hr h1 h2 hl hkl
    cases b with
    | true =>
      go_enter Try.func38, Try.ntmps38
      go_wp2_with (first | (with_reducible refine HG.out.mono ?_; rintro e w' ⟨rfl, rfl⟩))
      go_ret
      rw [HE.out, cutA_zero, Nat.sub_zero, Nat.sub_zero]
      exact ⟨rfl, rfl⟩
    | false =>
      go_enter Try.func38, Try.ntmps38
      go_wp2_with (first | (with_reducible refine HG.out.mono ?_; rintro e w' ⟨rfl, rfl⟩))
      go_ret
      rw [HE.out, cutA_zero, Nat.sub_zero, Nat.sub_zero]
      exact ⟨rfl, rfl⟩
  | some p =>
    obtain ⟨m2, k⟩ := p
    have e1 : nk l = k := by unfold nk; rw [hg]
    have e2 : m = m2 ∧ b' = b := by
      unfold Rp.next at h
      simp only [hg] at h
      injection h with h h'
      injection h' with h' h''
      exact ⟨h.symm, h''.symm⟩
    obtain ⟨rfl, rfl⟩ := e2
    have HG := Lib.hid (get_is A n c D l m k w hr (by omega) hg)
    have HE := Lib.hid e1
    rw [e1] at hs hkl
    clear h hg e1 hr h1 h2 hl
    cases b' with
    | true =>
      go_enter Try.func38, Try.ntmps38
      go_wp2_with (first | (with_reducible refine HG.out.mono ?_; rintro e w' ⟨rfl, rfl⟩))
      go_ret
      rw [HE.out]
      exact ⟨rfl, rfl⟩
    | false =>
      go_enter Try.func38, Try.ntmps38
      go_wp2_with (first | (with_reducible refine HG.out.mono ?_; rintro e w' ⟨rfl, rfl⟩))
      go_ret
      rw [HE.out]
      exact ⟨rfl, rfl⟩
end Go.Proofs.Ytdodfpjejjjciaa
