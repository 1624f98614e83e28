/-
  make: a slice of n elements of one cell: the equation of the operation, and what its block reads as.
-/
import Derived.Test.YtaoekfgeggopbaaAppB
import Derived.Laws.MakeOwn
namespace Go.Proofs.Ytaoekfgeggopbaa
open Go.RowKit
set_option linter.unusedVariables false

theorem run_make_rowN {P : Program} (t e : TypeId) (i : TypeInfo) (z : Value) (ht : P.underlying t = some (.slice e)) (hi : P.info? e = some i) (hz : i.zero = some z)
    (kl kc : IntKind) (n c : Nat) (hnc : n ≤ c) (hbytes : i.bytes * c ≤ 281474976710656) (h63 : c ≤ 9223372036854775807) (w : World) :
    (Instr.makeSlice t (.int kl (n : Int)) (.int kc (c : Int))).run P w = .ok (.slice (some ⟨w.heap.size, 0, none⟩) n c) (w.alloc (.cells (madeCells z.cells (c * i.size)) e)) := by
  have hb : (i.bytes : Int) * (c : Int) ≤ 281474976710656 := by
    have h : ((i.bytes * c : Nat) : Int) ≤ 281474976710656 := by omega
    rwa [Int.natCast_mul] at h
  have hr := run_make (P := P) w t e i z ht hi hz kl kc n c (by omega) (by omega) hb (by omega)
  simp only [Int.toNat_natCast] at hr
  exact hr

/-- The cells of a made slice of bytes, under a name. -/
def zeroBytes (n : Nat) : Array Value := madeCells #[.int .u8 0] n
theorem toList_zeroBytes (n : Nat) : (zeroBytes n).toList = cb (List.replicate n 0) := by
  unfold zeroBytes
  rw [toList_madeCells_one]
  simp [cb]
theorem make_bytes (n : Nat) (hn : n ≤ 1000000000) (w : World) :
    (Instr.makeSlice 46 (.int .i64 (n : Int)) (.int .i64 (n : Int))).run Try.prog w = .ok (.slice (some ⟨w.heap.size, 0, none⟩) n n) (w.alloc (.cells (zeroBytes n) 5)) := by
  obtain ⟨i0, hi0, hz0, hz1, hz2⟩ := info_parts u8_info
  have h := run_make_rowN (P := Try.prog) 46 5 i0 (.int .u8 0) Try.underlying46 hi0 hz0 .i64 .i64 n n (Nat.le_refl _) (by rw [hz2]; omega) (by omega) w
  rw [hz1, Nat.mul_one] at h
  exact h
/-- Bytes made by the call, wherever their block lies. -/
theorem reads_zero {w : World} {g n : Nat} (h : Blk w g 5 (zeroBytes n)) : Reads w w.heap.size 1 (some ⟨g, 0, none⟩) n (cb (List.replicate n 0)) := by
  refine row_reads (by rw [cb_length, List.length_replicate]) ?_
  intro i u hu
  have hadd : (⟨g, 0, none⟩ : Addr).add i = ⟨g, i, none⟩ := by unfold Addr.add; split <;> simp_all
  rw [hadd, Blk.cell h i, ← Array.getElem?_toList, toList_zeroBytes]
  exact hu
theorem conv_zero {w : World} {g n : Nat} (h : Blk w g 5 (zeroBytes n)) : (convert 46 9 (.slice (some ⟨g, 0, none⟩) n n)).run Try.prog w = .ok (.string (S (List.replicate n 0))) w :=
  run_conv Try.underlying46 Try.underlying5 Try.underlying9 (reads_zero h)
end Go.Proofs.Ytaoekfgeggopbaa
