/-
  The statements of layer 3: the chapter's disk (some), alive.
-/
import Derived.Test.YthmbjmknifkbaaaDiskE
import Derived.Test.YthmbjmknifkbaaaDiskRefE
namespace Go.Proofs.Ythmbjmknifkbaaa
open Go.RowKit
set_option maxHeartbeats 4000000
set_option maxRecDepth 100000
set_option linter.unusedVariables false
set_option linter.unusedSimpArgs false

theorem reads_blk {w : World} {g n : Nat} {cs : Array Value} {l : List UInt8} (h : Blk w g 5 cs) (hc : cs.toList = cb l) (hn : l.length = n) : Reads w w.heap.size 1 (some ⟨g, 0, none⟩) n (cb l) := by
  refine row_reads (by rw [cb_length, hn]) ?_
  intro i u hu
  have hadd : (⟨g, 0, none⟩ : Addr).add i = ⟨g, i, none⟩ := by unfold Addr.add; split <;> simp_all
  rw [hadd, Blk.cell h i, ← Array.getElem?_toList, hc]
  exact hu
/-- Bytes in a block, as a disk that waits for nothing. -/
theorem blk_disk {w : World} {g n : Nat} {cs : Array Value} {l : List UInt8} (h : Blk w g 5 cs) (hc : cs.toList = cb l) (hn : l.length = n) (hl : n ≤ 1000000000) : DiskAt w w.heap.size ⟨some ⟨g, 0, none⟩, n, n, l, none, 0, 0, []⟩ :=
  ⟨reads_blk h hc hn, Reads.none_, Nat.le_refl _, by show n ≤ maxLen; unfold maxLen; omega, Nat.le_refl _, Nat.zero_le _, by show n ≤ _; omega, Nat.zero_le _, by simp⟩
theorem blk_put {w : World} {g n : Nat} {cs : Array Value} {l : List UInt8} (sw : Bool) (h : Blk w g 5 cs) (hc : cs.toList = cb l) (hn : l.length = n) (hl : n ≤ 1000000000) : PutAt w w.heap.size ⟨sw, some ⟨g, 0, none⟩, n, n, l⟩ :=
  ⟨reads_blk h hc hn, Nat.le_refl _, by show n ≤ maxLen; unfold maxLen; omega, by show n ≤ _; omega⟩

/-! ### one form per call, the plain answer under a name -/
theorem append_is (D : HD) (A : Option Addr) (n c : Nat) (d : List UInt8) (w : World) (R : Dp.Disk) (r : Int) (hr : Dp.write D.disk ⟨false, d⟩ = (R, r)) (h : DiskAt w w.heap.size D) (hp' : PutAt w w.heap.size ⟨false, A, n, c, d⟩) :
    Calls Try.prog 23 #[.agg #[.slice D.A D.n D.c, .slice D.WA D.Wn D.Wc], .slice A n c] w fun e w' => ∃ D', e = .returned (.tuple #[.agg #[.slice D'.A D'.n D'.c, .slice D'.WA D'.Wn D'.Wc], .int .i64 r]) ∧ OwnDisk w' w.heap.size D' ∧ D'.disk = R ∧ Below w.heap.size w w' := by
  have := append_any D A n c d w h hp'
  rw [hr] at this
  exact this
theorem swap_is (D : HD) (A : Option Addr) (n c : Nat) (d : List UInt8) (w : World) (R : Dp.Disk) (r : Int) (hr : Dp.write D.disk ⟨true, d⟩ = (R, r)) (h : DiskAt w w.heap.size D) (hp' : PutAt w w.heap.size ⟨true, A, n, c, d⟩) :
    Calls Try.prog 17 #[.agg #[.slice D.A D.n D.c, .slice D.WA D.Wn D.Wc], .slice A n c] w fun e w' => ∃ D', e = .returned (.tuple #[.agg #[.slice D'.A D'.n D'.c, .slice D'.WA D'.Wn D'.Wc], .int .i64 r]) ∧ OwnDisk w' w.heap.size D' ∧ D'.disk = R ∧ Below w.heap.size w w' := by
  have := swap_any D A n c d w h hp'
  rw [hr] at this
  exact this
theorem see_is (D : HD) (w : World) (R : List UInt8) (r : Int) (hr : Dp.see D.disk = (R, r)) (h : DiskAt w w.heap.size D) :
    Calls Try.prog 15 #[.agg #[.slice D.A D.n D.c, .slice D.WA D.Wn D.Wc]] w fun e w' => ∃ A2 c2 m, e = .returned (.tuple #[.slice A2 m c2, .int .i64 r]) ∧ R.length = m ∧ w'.ownsRow w.heap.size 5 1 (.slice A2 m c2) m (cb R) ∧ Below w.heap.size w w' := by
  have := see_any D w h
  rw [hr] at this
  exact this
theorem check_is (D : HD) (w : World) (r : Int) (hr : eD (Dp.mayD D.disk) = r) (h : DiskAt w w.heap.size D) :
    Calls Try.prog 25 #[.agg #[.slice D.A D.n D.c, .slice D.WA D.Wn D.Wc]] w fun e w' => e = .returned (.int .i64 r) ∧ Below w.heap.size w w' := by
  subst hr
  exact check_any D w _ rfl h
theorem OwnDisk.alloc {w : World} {base : Nat} {D : HD} (h : OwnDisk w base D) (o : Obj) : OwnDisk (w.alloc o) base D := h.below ((Below.refl _ w).alloc (Nat.le_refl _) o)

def someD : Dp.Disk := ⟨[1, 2], [⟨false, [3, 4]⟩, ⟨true, [9]⟩, ⟨false, [8]⟩]⟩
end Go.Proofs.Ythmbjmknifkbaaa
