/-
  The walk of DiskSees. No condition.
-/
import Derived.Test.YthmbjmknifkbaaaDiskSome
import Derived.Test.YthmbjmknifkbaaaDiskIn
namespace Go.Proofs.Ythmbjmknifkbaaa
open Go.RowKit
set_option maxHeartbeats 8000000
set_option maxRecDepth 100000
set_option linter.unusedVariables false
set_option linter.unusedSimpArgs false

theorem S_app2 (l m : List UInt8) : S l ++ S m = S (l ++ m) := by
  apply ByteArray.ext
  apply Array.toList_inj.1
  simp [S]
theorem below_alloc {a b : World} (h : Below a.heap.size a b) (o : Obj) : Below a.heap.size a (b.alloc o) := h.alloc h.size o
theorem Reads.up_alloc {w : World} {size n : Nat} {A : Option Addr} {xs : List Value} (h : Reads w w.heap.size size A n xs) (o : Obj) : Reads (w.alloc o) (w.alloc o).heap.size size A n xs := (h.alloc (Nat.le_refl _) o).more (by simp)
theorem step_f_len (s l : List UInt8) : (Dp.step s ⟨false, l⟩).length = s.length + l.length := by simp [Dp.step]
theorem step_t_len (s l : List UInt8) : (Dp.step s ⟨true, l⟩).length = l.length := by simp [Dp.step]
def rf (b : Bool) : Int := if b then 0 else 9
theorem write_not {d : Dp.Disk} {p : Dp.Put} (h : Dp.mayD d = true) : Dp.write d p = if (decide ((Dp.step (Dp.seen d) p).length ≤ 1048576) && decide (d.wait.length < 1024)) = true then (⟨d.data, d.wait ++ [p]⟩, 0) else (Dp.zeroD, 9) := by
  unfold Dp.write
  rw [if_pos h, Dp.mayD_more d p h, Bool.and_comm]
/-- What a write answers, of whether it may be. -/
theorem write_b {d : Dp.Disk} {p : Dp.Put} (h : Dp.mayD d = true) {b1 b2 : Bool} (h1 : decide ((Dp.step (Dp.seen d) p).length ≤ 1048576) = b1) (h2 : decide (d.wait.length < 1024) = b2) :
    ∃ R, Dp.write d p = (R, rf (b1 && b2)) ∧ ((b1 && b2) = true → Dp.see R = (Dp.step (Dp.seen d) p, 0) ∧ R.wait.length = d.wait.length + 1) ∧ ((b1 && b2) = false → Dp.see R = ([], 0) ∧ R.wait.length = 0) := by
  have e := write_not (p := p) h
  rw [h1, h2] at e
  cases hb : (b1 && b2) with
  | true =>
    rw [hb, if_pos rfl] at e
    refine ⟨_, e, fun _ => ?_, by simp⟩
    have := Dp.write_see (d := d) (p := p) (by rw [e])
    rw [e] at this
    exact this
  | false =>
    rw [hb, if_neg (by simp)] at e
    exact ⟨_, e, by simp, fun _ => ⟨by decide, rfl⟩⟩
theorem wait_n {D : HD} {w : World} {B : Nat} (h : DiskAt w B D) : D.disk.wait.length = D.Wn := by rw [HD.disk]; simp only [List.length_map, h.len_l]

end Go.Proofs.Ythmbjmknifkbaaa
