/-
  Layer 3 in plain Lean: disks, what is seen of them, writes, and what a crash leaves. No condition.
-/
import Derived.Test.YthmbjmknifkbaaaBase
namespace Go.Proofs.Ythmbjmknifkbaaa
open Go.RowKit
set_option linter.unusedVariables false
set_option linter.unusedSimpArgs false
namespace Dp

structure Put where
  sw : Bool
  d : List UInt8
structure Disk where
  data : List UInt8
  wait : List Put

def step (b : List UInt8) (p : Put) : List UInt8 := if p.sw then p.d else b ++ p.d
def done : List UInt8 → List Put → List UInt8
  | b, [] => b
  | b, p :: l => done (step b p) l
def fits : List UInt8 → List Put → Bool
  | b, [] => decide (b.length ≤ 1048576)
  | b, p :: l => decide (b.length ≤ 1048576) && fits (step b p) l
def mayD (d : Disk) : Bool := decide (d.wait.length ≤ 1024) && fits d.data d.wait
def seen (d : Disk) : List UInt8 := done d.data d.wait
def zeroD : Disk := ⟨[], []⟩
def write (d : Disk) (p : Put) : Disk × Int :=
  if mayD d = true then (if mayD ⟨d.data, d.wait ++ [p]⟩ = true then (⟨d.data, d.wait ++ [p]⟩, 0) else (zeroD, 9)) else (zeroD, 30)
def see (d : Disk) : List UInt8 × Int := if mayD d = true then (seen d, 0) else ([], 30)
def sync (d : Disk) : Disk × Int := if mayD d = true then (⟨seen d, []⟩, 0) else (zeroD, 30)
/-- What of the write at a place a crash leaves, that lasts in part. -/
def part (l : List Put) (keep many : Nat) : List UInt8 := match l[keep]? with
  | some p => if p.sw then [] else p.d.take many
  | none => []
def crash (d : Disk) (keep many : Int) : Disk × Int :=
  if mayD d = true then (if keep < 0 ∨ keep > d.wait.length ∨ many < 0 then (zeroD, 2) else (⟨done d.data (d.wait.take keep.toNat) ++ part d.wait keep.toNat many.toNat, []⟩, 0)) else (zeroD, 30)

theorem done_append (b : List UInt8) (l m : List Put) : done b (l ++ m) = done (done b l) m := by
  induction l generalizing b with
  | nil => rfl
  | cons p l ih => simp only [List.cons_append, done]; exact ih _
theorem fits_first {b : List UInt8} {l : List Put} (h : fits b l = true) : b.length ≤ 1048576 := by
  cases l with
  | nil => simpa [fits] using h
  | cons p l => simp only [fits, Bool.and_eq_true, decide_eq_true_eq] at h; exact h.1
theorem fits_append (b : List UInt8) (l : List Put) (p : Put) : fits b (l ++ [p]) = (fits b l && decide ((step (done b l) p).length ≤ 1048576)) := by
  induction l generalizing b with
  | nil => rfl
  | cons q l ih =>
    simp only [List.cons_append, fits, done, ih, Bool.and_assoc]
    try rfl
theorem fits_last {b : List UInt8} {l : List Put} (h : fits b l = true) : (done b l).length ≤ 1048576 := by
  induction l generalizing b with
  | nil => simpa [fits, done] using h
  | cons p l ih => simp only [fits, Bool.and_eq_true] at h; exact ih h.2
theorem fits_take {b : List UInt8} {l : List Put} (h : fits b l = true) (k : Nat) : fits b (l.take k) = true := by
  induction l generalizing b k with
  | nil => simpa using h
  | cons p l ih =>
    simp only [fits, Bool.and_eq_true] at h
    cases k with
    | zero => simp only [List.take_zero, fits]; exact h.1
    | succ k => simp only [List.take_succ_cons, fits, Bool.and_eq_true]; exact ⟨h.1, ih h.2 k⟩
theorem mayD_nil (b : List UInt8) : mayD ⟨b, []⟩ = decide (b.length ≤ 1048576) := by simp [mayD, fits]
theorem mayD_zero : mayD zeroD = true := by simp [zeroD, mayD_nil]
theorem mayD_len {d : Disk} (h : mayD d = true) : d.wait.length ≤ 1024 := by
  simp only [mayD, Bool.and_eq_true, decide_eq_true_eq] at h; exact h.1
theorem mayD_fits {d : Disk} (h : mayD d = true) : fits d.data d.wait = true := by
  simp only [mayD, Bool.and_eq_true, decide_eq_true_eq] at h; exact h.2
theorem seen_len {d : Disk} (h : mayD d = true) : (seen d).length ≤ 1048576 := fits_last (mayD_fits h)
theorem mayD_more (d : Disk) (p : Put) (h : mayD d = true) : mayD ⟨d.data, d.wait ++ [p]⟩ = (decide (d.wait.length < 1024) && decide ((step (seen d) p).length ≤ 1048576)) := by
  have h2 := mayD_fits h
  simp only [mayD, fits_append, h2, List.length_append, List.length_singleton, Bool.true_and, seen]
  congr 1
theorem seen_more (d : Disk) (p : Put) : seen ⟨d.data, d.wait ++ [p]⟩ = step (seen d) p := by simp [seen, done_append, done]

/-! ### statements -/
/-- What is seen behind a write. -/
theorem write_ok {d : Disk} {p : Put} (h : mayD d = true) : ((write d p).2 = 0 ↔ (step (seen d) p).length ≤ 1048576 ∧ d.wait.length < 1024) := by
  unfold write
  rw [if_pos h, mayD_more d p h]
  by_cases h1 : d.wait.length < 1024 <;> by_cases h2 : (step (seen d) p).length ≤ 1048576 <;> simp [h1, h2]
theorem write_is {d : Disk} {p : Put} (h : (write d p).2 = 0) : mayD d = true ∧ mayD ⟨d.data, d.wait ++ [p]⟩ = true ∧ (write d p).1 = ⟨d.data, d.wait ++ [p]⟩ := by
  unfold write at h ⊢
  by_cases h1 : mayD d = true
  · rw [if_pos h1] at h ⊢
    by_cases h2 : mayD ⟨d.data, d.wait ++ [p]⟩ = true
    · rw [if_pos h2]; exact ⟨h1, h2, rfl⟩
    · rw [if_neg h2] at h; simp at h
  · rw [if_neg h1] at h; simp at h
theorem write_may (d : Disk) (p : Put) : mayD (write d p).1 = true := by
  unfold write
  by_cases h1 : mayD d = true
  · rw [if_pos h1]
    by_cases h2 : mayD ⟨d.data, d.wait ++ [p]⟩ = true
    · rw [if_pos h2]; exact h2
    · rw [if_neg h2]; exact mayD_zero
  · rw [if_neg h1]; exact mayD_zero
theorem write_see {d : Disk} {p : Put} (h : (write d p).2 = 0) : see (write d p).1 = (step (seen d) p, 0) ∧ (write d p).1.wait.length = d.wait.length + 1 := by
  obtain ⟨h1, h2, h3⟩ := write_is h
  rw [h3]
  unfold see
  rw [if_pos h2, seen_more]
  exact ⟨rfl, by simp⟩
theorem see_ok {d : Disk} : (see d).2 = 0 ↔ mayD d = true := by
  unfold see
  by_cases h : mayD d = true <;> simp [h]
theorem sync_see {d : Disk} (h : mayD d = true) : sync d = (⟨seen d, []⟩, 0) ∧ see ⟨seen d, []⟩ = (seen d, 0) := by
  refine ⟨by simp [sync, h], ?_⟩
  have : mayD ⟨seen d, []⟩ = true := by rw [mayD_nil]; simpa using seen_len h
  unfold see
  rw [if_pos this]
  rfl
end Dp
end Go.Proofs.Ythmbjmknifkbaaa
