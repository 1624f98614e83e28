/-
  command.Read: what the call returns.
-/
import Derived.Test.YtaoekfgeggopbaaCmdRead
namespace Go.Proofs.Ytaoekfgeggopbaa
open Go.RowKit
set_option maxHeartbeats 8000000
set_option maxRecDepth 100000
set_option linter.unusedVariables false
set_option linter.unusedSimpArgs false

namespace Cp
/-- A text's command, or the error. -/
def readX (l : List UInt8) : Cmd × Int := if 1024 < l.length then (zeroC 0, 3) else match readC l with
  | some c => (c, 0)
  | none => (zeroC 0, 8)
theorem readX_long {l : List UInt8} (h : 1024 < l.length) : readX l = (zeroC 0, 3) := by unfold readX; rw [if_pos h]
theorem readX_some {l : List UInt8} {c : Cmd} (h : ¬ 1024 < l.length) (hr : readC l = some c) : readX l = (c, 0) := by unfold readX; rw [if_neg h, hr]
theorem readX_none {l : List UInt8} (h : ¬ 1024 < l.length) (hr : readC l = none) : readX l = (zeroC 0, 8) := by unfold readX; rw [if_neg h, hr]
theorem readC_is {l l' : List UInt8} {c : Cmd} {bad : Bool} (h : rdF (fieldsC ((min (Rp.next (l, false)).1 255 : Nat) : Int)) (zeroC ((min (Rp.next (l, false)).1 255 : Nat) : Int)) (Rp.next (l, false)).2 = (c, (l', bad))) :
    readC l = if bad = false ∧ l' = [] ∧ mayC c = true then some c else none := by
  unfold readC
  simp only [h]
end Cp

theorem grown_to_below {B gr : Nat} {a b c : World} (h : Below B a b) (k : b.grownBy c (some gr)) (hB : B ≤ b.heap.size) (hg : B ≤ gr) : Below B a c :=
  ⟨k.os.trans h.os, k.tape.trans h.tape, k.output.trans h.output, Nat.le_trans h.size k.size, fun i hi => (k.block i (Nat.lt_of_lt_of_le hi hB) (by intro e; injection e with e; omega)).trans (h.block i hi)⟩
theorem cread_any (s : ByteArray) (l : List UInt8) (w : World) (hs : s.size ≤ maxLen) (hl : s.data.toList = l) :
    Calls Try.prog 24 #[.string s] w fun e w' => ∃ (D : HC) (x : Int), e = .returned (.tuple #[.agg #[.int .u8 D.k, .int .i64 D.mi, .slice D.GA D.Gn D.Gc, .int .i64 D.mt, .string D.key, .string D.body, .int .i64 D.i, .int .i64 D.tm, .slice D.MA D.Mn D.Mc, .int .i64 D.tp, .int .i64 D.who, .int .i64 D.n], .int .i64 x]) ∧ (D.cmd, x) = Cp.readX l ∧ OwnC w' w.heap.size D ∧ Below w.heap.size w w' := by
  have hsz := size_data s
  rw [hl] at hsz
  obtain ⟨WZ, hWZ⟩ : ∃ WZ, w.alloc (.cells #[.int .u8 (zeroHC 0).k, .int .i64 (zeroHC 0).mi, .slice (zeroHC 0).GA (zeroHC 0).Gn (zeroHC 0).Gc, .int .i64 (zeroHC 0).mt, .string (zeroHC 0).key, .string (zeroHC 0).body, .int .i64 (zeroHC 0).i, .int .i64 (zeroHC 0).tm, .slice (zeroHC 0).MA (zeroHC 0).Mn (zeroHC 0).Mc, .int .i64 (zeroHC 0).tp, .int .i64 (zeroHC 0).who, .int .i64 (zeroHC 0).n] 26) = WZ := ⟨_, rfl⟩
  have KZ : Hid (Blk WZ w.heap.size 26 #[.int .u8 (zeroHC 0).k, .int .i64 (zeroHC 0).mi, .slice (zeroHC 0).GA (zeroHC 0).Gn (zeroHC 0).Gc, .int .i64 (zeroHC 0).mt, .string (zeroHC 0).key, .string (zeroHC 0).body, .int .i64 (zeroHC 0).i, .int .i64 (zeroHC 0).tm, .slice (zeroHC 0).MA (zeroHC 0).Mn (zeroHC 0).Mc, .int .i64 (zeroHC 0).tp, .int .i64 (zeroHC 0).who, .int .i64 (zeroHC 0).n]) := by rw [Hid, ← hWZ]; exact Blk.new w _ _
  have BZ : Hid (Below w.heap.size w WZ) := by rw [Hid, ← hWZ]; exact (Below.refl _ w).alloc (Nat.le_refl _) _
  have NZ : Hid (WZ.heap.size = w.heap.size + 1) := by rw [Hid, ← hWZ]; simp
  have HWZ : Hid (w.alloc (.cells #[.int .u8 0, .int .i64 0, .slice none 0 0, .int .i64 0, .string ⟨#[]⟩, .string ⟨#[]⟩, .int .i64 0, .int .i64 0, .slice none 0 0, .int .i64 0, .int .i64 0, .int .i64 0] 26) = WZ) := hWZ
  have HL := Lib.hid hl
  have HSZ := Lib.hid hsz
  unfold maxLen at hs
  clear hWZ hl hsz
  by_cases hbig : (1024 : Int) < (s.size : Int)
  · go_enter Try.func24, Try.ntmps24
    go_upto_region 2 with fail
    rw [HWZ.out]
    have k0 : WZ.cell? ⟨w.heap.size, 0, none⟩ = some (.int .u8 0) := KZ.out.cell 0
    have k1 : WZ.cell? ⟨w.heap.size, 1, none⟩ = some (.int .i64 0) := KZ.out.cell 1
    have k2 : WZ.cell? ⟨w.heap.size, 2, none⟩ = some (.slice none 0 0) := KZ.out.cell 2
    have k3 : WZ.cell? ⟨w.heap.size, 3, none⟩ = some (.int .i64 0) := KZ.out.cell 3
    have k4 : WZ.cell? ⟨w.heap.size, 4, none⟩ = some (.string ⟨#[]⟩) := KZ.out.cell 4
    have k5 : WZ.cell? ⟨w.heap.size, 5, none⟩ = some (.string ⟨#[]⟩) := KZ.out.cell 5
    have k6 : WZ.cell? ⟨w.heap.size, 6, none⟩ = some (.int .i64 0) := KZ.out.cell 6
    have k7 : WZ.cell? ⟨w.heap.size, 7, none⟩ = some (.int .i64 0) := KZ.out.cell 7
    have k8 : WZ.cell? ⟨w.heap.size, 8, none⟩ = some (.slice none 0 0) := KZ.out.cell 8
    have k9 : WZ.cell? ⟨w.heap.size, 9, none⟩ = some (.int .i64 0) := KZ.out.cell 9
    have k10 : WZ.cell? ⟨w.heap.size, 10, none⟩ = some (.int .i64 0) := KZ.out.cell 10
    have k11 : WZ.cell? ⟨w.heap.size, 11, none⟩ = some (.int .i64 0) := KZ.out.cell 11
    have kf := KZ.out.frozen
    go_wp2_with fail
    refine bodyPost_ret (v := .tuple #[.agg #[.int .u8 0, .int .i64 0, .slice none 0 0, .int .i64 0, .string ⟨#[]⟩, .string ⟨#[]⟩, .int .i64 0, .int .i64 0, .slice none 0 0, .int .i64 0, .int .i64 0, .int .i64 0], .int .i64 3]) (by simp [results, Try.results24, go_sem, k0, k1, k2, k3, k4, k5, k6, k7, k8, k9, k10, k11]) rfl ⟨zeroHC 0, 3, rfl, (Cp.readX_long (by have := HSZ.out; omega)).symm, zeroHC_own _ _ (by omega), below_set12 BZ.out (Nat.le_refl _) _ _ _ _ _ _ _ _ _ _ _ _⟩
  have hcv := run_conv_to WZ s
  have R0 := convW_reads WZ s
  have hz := convW_size WZ s
  have hbw := convW_below WZ s
  have hq0 := convC_ge WZ s
  have hq1 := convC_le WZ s (by unfold maxLen; omega)
  unfold maxLen at hq1
  rw [HL.out] at R0
  generalize convW WZ s = W1 at *
  generalize convC WZ s = c0 at *
  rw [NZ.out] at hcv R0 hz hbw
  have KZ1 := Lib.hid (KZ.out.below hbw (by omega))
  have BZ1 := Lib.hid (BZ.out.trans (hbw.mono (by omega)))
  have HCV := Lib.hid hcv
  have hgr : w.heap.size < W1.heap.size := by rw [hz]; omega
  have SR : Hid (RSt W1.heap.size W1.heap.size l false (W1.alloc (.cells #[.slice (some ⟨w.heap.size + 1, 0, none⟩) s.size c0, .bool true] 88))) := by
    refine ⟨some ⟨w.heap.size + 1, 0, none⟩, s.size, c0, Blk.new W1 _ _, ?_, hq0, hq1, by omega, Nat.le_refl _⟩
    exact (R0.more (by omega)).alloc (Nat.le_refl _) _
  have KZ2 := Lib.hid (KZ1.out.alloc (.cells #[.slice (some ⟨w.heap.size + 1, 0, none⟩) s.size c0, .bool true] 88))
  have BZ2 := Lib.hid (BZ1.out.alloc BZ1.out.size (.cells #[.slice (some ⟨w.heap.size + 1, 0, none⟩) s.size c0, .bool true] 88))
  have NW : Hid ((W1.alloc (.cells #[.slice (some ⟨w.heap.size + 1, 0, none⟩) s.size c0, .bool true] 88)).heap.size = W1.heap.size + 1) := by rw [Hid]; simp
  clear R0 hz hbw hq0 hq1 KZ BZ KZ1 BZ1
  go_enter Try.func24, Try.ntmps24
  go_upto_region 3 with fail
  rw [HWZ.out]
  go_wp2_with fail
  obtain ⟨gr, hgre⟩ : ∃ gr, W1.heap.size = gr := ⟨_, rfl⟩
  generalize hW2 : W1.alloc (.cells #[.slice (some ⟨w.heap.size + 1, 0, none⟩) s.size c0, .bool true] 88) = W2 at *
  rw [hgre] at SR hgr NW ⊢
  refine (ccommand_any gr gr l W2 SR.out).mono ?_
  rintro e w2 ⟨D, l', bad, rfl, hrd, hs2, ho, hg⟩
  have HRC := Lib.hid (Cp.readC_is hrd)
  have S2 := Lib.hid hs2
  have O2 := Lib.hid ho
  have K2 := Lib.hid (KZ2.out.grown hg (by intro e; injection e with e; omega))
  have B2 : Hid (Below w.heap.size w w2) := grown_to_below BZ2.out hg BZ2.out.size (by omega)
  have N2 : Hid (gr < w2.heap.size ∧ w.heap.size < w2.heap.size) := by have := hg.size; have := NW.out; rw [Hid]; omega
  clear hrd hs2 ho hg KZ2 BZ2 hcv HCV HWZ hgre hW2 SR
  have NB : Hid (w.heap.size ≤ W2.heap.size) := by have := NW.out; rw [Hid]; omega
  have O3 := Lib.hid ((O2.out.below ((Below.refl w2.heap.size w2).alloc (Nat.le_refl _) (.cells #[.int .u8 D.k, .int .i64 D.mi, .slice D.GA D.Gn D.Gc, .int .i64 D.mt, .string D.key, .string D.body, .int .i64 D.i, .int .i64 D.tm, .slice D.MA D.Mn D.Mc, .int .i64 D.tp, .int .i64 D.who, .int .i64 D.n] 26))).mono NB.out)
  have S3 := Lib.hid (S2.out.below ((Below.refl w2.heap.size w2).alloc (Nat.le_refl _) (.cells #[.int .u8 D.k, .int .i64 D.mi, .slice D.GA D.Gn D.Gc, .int .i64 D.mt, .string D.key, .string D.body, .int .i64 D.i, .int .i64 D.tm, .slice D.MA D.Mn D.Mc, .int .i64 D.tp, .int .i64 D.who, .int .i64 D.n] 26)))
  have K3 := Lib.hid (K2.out.alloc (.cells #[.int .u8 D.k, .int .i64 D.mi, .slice D.GA D.Gn D.Gc, .int .i64 D.mt, .string D.key, .string D.body, .int .i64 D.i, .int .i64 D.tm, .slice D.MA D.Mn D.Mc, .int .i64 D.tp, .int .i64 D.who, .int .i64 D.n] 26))
  have B3 := Lib.hid (B2.out.alloc B2.out.size (.cells #[.int .u8 D.k, .int .i64 D.mi, .slice D.GA D.Gn D.Gc, .int .i64 D.mt, .string D.key, .string D.body, .int .i64 D.i, .int .i64 D.tm, .slice D.MA D.Mn D.Mc, .int .i64 D.tp, .int .i64 D.who, .int .i64 D.n] 26))
  have KD := Lib.hid (Blk.new w2 26 #[.int .u8 D.k, .int .i64 D.mi, .slice D.GA D.Gn D.Gc, .int .i64 D.mt, .string D.key, .string D.body, .int .i64 D.i, .int .i64 D.tm, .slice D.MA D.Mn D.Mc, .int .i64 D.tp, .int .i64 D.who, .int .i64 D.n])
  clear O2 S2 K2 B2
  obtain ⟨A, n, c, q1, q2, q3, q4, q5, q6⟩ := S3.out
  have r0 := q1.cell 0
  have r1 := q1.cell 1
  have hnl := q2.len_b
  have HNL := Lib.hid hnl
  clear q1 q2 q3 q4 q6 hnl NW
  have d0 : (w2.alloc (.cells #[.int .u8 D.k, .int .i64 D.mi, .slice D.GA D.Gn D.Gc, .int .i64 D.mt, .string D.key, .string D.body, .int .i64 D.i, .int .i64 D.tm, .slice D.MA D.Mn D.Mc, .int .i64 D.tp, .int .i64 D.who, .int .i64 D.n] 26)).cell? ⟨w2.heap.size, 0, none⟩ = some (.int .u8 D.k) := KD.out.cell 0
  have d1 : (w2.alloc (.cells #[.int .u8 D.k, .int .i64 D.mi, .slice D.GA D.Gn D.Gc, .int .i64 D.mt, .string D.key, .string D.body, .int .i64 D.i, .int .i64 D.tm, .slice D.MA D.Mn D.Mc, .int .i64 D.tp, .int .i64 D.who, .int .i64 D.n] 26)).cell? ⟨w2.heap.size, 1, none⟩ = some (.int .i64 D.mi) := KD.out.cell 1
  have d2 : (w2.alloc (.cells #[.int .u8 D.k, .int .i64 D.mi, .slice D.GA D.Gn D.Gc, .int .i64 D.mt, .string D.key, .string D.body, .int .i64 D.i, .int .i64 D.tm, .slice D.MA D.Mn D.Mc, .int .i64 D.tp, .int .i64 D.who, .int .i64 D.n] 26)).cell? ⟨w2.heap.size, 2, none⟩ = some (.slice D.GA D.Gn D.Gc) := KD.out.cell 2
  have d3 : (w2.alloc (.cells #[.int .u8 D.k, .int .i64 D.mi, .slice D.GA D.Gn D.Gc, .int .i64 D.mt, .string D.key, .string D.body, .int .i64 D.i, .int .i64 D.tm, .slice D.MA D.Mn D.Mc, .int .i64 D.tp, .int .i64 D.who, .int .i64 D.n] 26)).cell? ⟨w2.heap.size, 3, none⟩ = some (.int .i64 D.mt) := KD.out.cell 3
  have d4 : (w2.alloc (.cells #[.int .u8 D.k, .int .i64 D.mi, .slice D.GA D.Gn D.Gc, .int .i64 D.mt, .string D.key, .string D.body, .int .i64 D.i, .int .i64 D.tm, .slice D.MA D.Mn D.Mc, .int .i64 D.tp, .int .i64 D.who, .int .i64 D.n] 26)).cell? ⟨w2.heap.size, 4, none⟩ = some (.string D.key) := KD.out.cell 4
  have d5 : (w2.alloc (.cells #[.int .u8 D.k, .int .i64 D.mi, .slice D.GA D.Gn D.Gc, .int .i64 D.mt, .string D.key, .string D.body, .int .i64 D.i, .int .i64 D.tm, .slice D.MA D.Mn D.Mc, .int .i64 D.tp, .int .i64 D.who, .int .i64 D.n] 26)).cell? ⟨w2.heap.size, 5, none⟩ = some (.string D.body) := KD.out.cell 5
  have d6 : (w2.alloc (.cells #[.int .u8 D.k, .int .i64 D.mi, .slice D.GA D.Gn D.Gc, .int .i64 D.mt, .string D.key, .string D.body, .int .i64 D.i, .int .i64 D.tm, .slice D.MA D.Mn D.Mc, .int .i64 D.tp, .int .i64 D.who, .int .i64 D.n] 26)).cell? ⟨w2.heap.size, 6, none⟩ = some (.int .i64 D.i) := KD.out.cell 6
  have d7 : (w2.alloc (.cells #[.int .u8 D.k, .int .i64 D.mi, .slice D.GA D.Gn D.Gc, .int .i64 D.mt, .string D.key, .string D.body, .int .i64 D.i, .int .i64 D.tm, .slice D.MA D.Mn D.Mc, .int .i64 D.tp, .int .i64 D.who, .int .i64 D.n] 26)).cell? ⟨w2.heap.size, 7, none⟩ = some (.int .i64 D.tm) := KD.out.cell 7
  have d8 : (w2.alloc (.cells #[.int .u8 D.k, .int .i64 D.mi, .slice D.GA D.Gn D.Gc, .int .i64 D.mt, .string D.key, .string D.body, .int .i64 D.i, .int .i64 D.tm, .slice D.MA D.Mn D.Mc, .int .i64 D.tp, .int .i64 D.who, .int .i64 D.n] 26)).cell? ⟨w2.heap.size, 8, none⟩ = some (.slice D.MA D.Mn D.Mc) := KD.out.cell 8
  have d9 : (w2.alloc (.cells #[.int .u8 D.k, .int .i64 D.mi, .slice D.GA D.Gn D.Gc, .int .i64 D.mt, .string D.key, .string D.body, .int .i64 D.i, .int .i64 D.tm, .slice D.MA D.Mn D.Mc, .int .i64 D.tp, .int .i64 D.who, .int .i64 D.n] 26)).cell? ⟨w2.heap.size, 9, none⟩ = some (.int .i64 D.tp) := KD.out.cell 9
  have d10 : (w2.alloc (.cells #[.int .u8 D.k, .int .i64 D.mi, .slice D.GA D.Gn D.Gc, .int .i64 D.mt, .string D.key, .string D.body, .int .i64 D.i, .int .i64 D.tm, .slice D.MA D.Mn D.Mc, .int .i64 D.tp, .int .i64 D.who, .int .i64 D.n] 26)).cell? ⟨w2.heap.size, 10, none⟩ = some (.int .i64 D.who) := KD.out.cell 10
  have d11 : (w2.alloc (.cells #[.int .u8 D.k, .int .i64 D.mi, .slice D.GA D.Gn D.Gc, .int .i64 D.mt, .string D.key, .string D.body, .int .i64 D.i, .int .i64 D.tm, .slice D.MA D.Mn D.Mc, .int .i64 D.tp, .int .i64 D.who, .int .i64 D.n] 26)).cell? ⟨w2.heap.size, 11, none⟩ = some (.int .i64 D.n) := KD.out.cell 11
  have k0 : (w2.alloc (.cells #[.int .u8 D.k, .int .i64 D.mi, .slice D.GA D.Gn D.Gc, .int .i64 D.mt, .string D.key, .string D.body, .int .i64 D.i, .int .i64 D.tm, .slice D.MA D.Mn D.Mc, .int .i64 D.tp, .int .i64 D.who, .int .i64 D.n] 26)).cell? ⟨w.heap.size, 0, none⟩ = some (.int .u8 0) := K3.out.cell 0
  have k1 : (w2.alloc (.cells #[.int .u8 D.k, .int .i64 D.mi, .slice D.GA D.Gn D.Gc, .int .i64 D.mt, .string D.key, .string D.body, .int .i64 D.i, .int .i64 D.tm, .slice D.MA D.Mn D.Mc, .int .i64 D.tp, .int .i64 D.who, .int .i64 D.n] 26)).cell? ⟨w.heap.size, 1, none⟩ = some (.int .i64 0) := K3.out.cell 1
  have k2 : (w2.alloc (.cells #[.int .u8 D.k, .int .i64 D.mi, .slice D.GA D.Gn D.Gc, .int .i64 D.mt, .string D.key, .string D.body, .int .i64 D.i, .int .i64 D.tm, .slice D.MA D.Mn D.Mc, .int .i64 D.tp, .int .i64 D.who, .int .i64 D.n] 26)).cell? ⟨w.heap.size, 2, none⟩ = some (.slice none 0 0) := K3.out.cell 2
  have k3 : (w2.alloc (.cells #[.int .u8 D.k, .int .i64 D.mi, .slice D.GA D.Gn D.Gc, .int .i64 D.mt, .string D.key, .string D.body, .int .i64 D.i, .int .i64 D.tm, .slice D.MA D.Mn D.Mc, .int .i64 D.tp, .int .i64 D.who, .int .i64 D.n] 26)).cell? ⟨w.heap.size, 3, none⟩ = some (.int .i64 0) := K3.out.cell 3
  have k4 : (w2.alloc (.cells #[.int .u8 D.k, .int .i64 D.mi, .slice D.GA D.Gn D.Gc, .int .i64 D.mt, .string D.key, .string D.body, .int .i64 D.i, .int .i64 D.tm, .slice D.MA D.Mn D.Mc, .int .i64 D.tp, .int .i64 D.who, .int .i64 D.n] 26)).cell? ⟨w.heap.size, 4, none⟩ = some (.string ⟨#[]⟩) := K3.out.cell 4
  have k5 : (w2.alloc (.cells #[.int .u8 D.k, .int .i64 D.mi, .slice D.GA D.Gn D.Gc, .int .i64 D.mt, .string D.key, .string D.body, .int .i64 D.i, .int .i64 D.tm, .slice D.MA D.Mn D.Mc, .int .i64 D.tp, .int .i64 D.who, .int .i64 D.n] 26)).cell? ⟨w.heap.size, 5, none⟩ = some (.string ⟨#[]⟩) := K3.out.cell 5
  have k6 : (w2.alloc (.cells #[.int .u8 D.k, .int .i64 D.mi, .slice D.GA D.Gn D.Gc, .int .i64 D.mt, .string D.key, .string D.body, .int .i64 D.i, .int .i64 D.tm, .slice D.MA D.Mn D.Mc, .int .i64 D.tp, .int .i64 D.who, .int .i64 D.n] 26)).cell? ⟨w.heap.size, 6, none⟩ = some (.int .i64 0) := K3.out.cell 6
  have k7 : (w2.alloc (.cells #[.int .u8 D.k, .int .i64 D.mi, .slice D.GA D.Gn D.Gc, .int .i64 D.mt, .string D.key, .string D.body, .int .i64 D.i, .int .i64 D.tm, .slice D.MA D.Mn D.Mc, .int .i64 D.tp, .int .i64 D.who, .int .i64 D.n] 26)).cell? ⟨w.heap.size, 7, none⟩ = some (.int .i64 0) := K3.out.cell 7
  have k8 : (w2.alloc (.cells #[.int .u8 D.k, .int .i64 D.mi, .slice D.GA D.Gn D.Gc, .int .i64 D.mt, .string D.key, .string D.body, .int .i64 D.i, .int .i64 D.tm, .slice D.MA D.Mn D.Mc, .int .i64 D.tp, .int .i64 D.who, .int .i64 D.n] 26)).cell? ⟨w.heap.size, 8, none⟩ = some (.slice none 0 0) := K3.out.cell 8
  have k9 : (w2.alloc (.cells #[.int .u8 D.k, .int .i64 D.mi, .slice D.GA D.Gn D.Gc, .int .i64 D.mt, .string D.key, .string D.body, .int .i64 D.i, .int .i64 D.tm, .slice D.MA D.Mn D.Mc, .int .i64 D.tp, .int .i64 D.who, .int .i64 D.n] 26)).cell? ⟨w.heap.size, 9, none⟩ = some (.int .i64 0) := K3.out.cell 9
  have k10 : (w2.alloc (.cells #[.int .u8 D.k, .int .i64 D.mi, .slice D.GA D.Gn D.Gc, .int .i64 D.mt, .string D.key, .string D.body, .int .i64 D.i, .int .i64 D.tm, .slice D.MA D.Mn D.Mc, .int .i64 D.tp, .int .i64 D.who, .int .i64 D.n] 26)).cell? ⟨w.heap.size, 10, none⟩ = some (.int .i64 0) := K3.out.cell 10
  have k11 : (w2.alloc (.cells #[.int .u8 D.k, .int .i64 D.mi, .slice D.GA D.Gn D.Gc, .int .i64 D.mt, .string D.key, .string D.body, .int .i64 D.i, .int .i64 D.tm, .slice D.MA D.Mn D.Mc, .int .i64 D.tp, .int .i64 D.who, .int .i64 D.n] 26)).cell? ⟨w.heap.size, 11, none⟩ = some (.int .i64 0) := K3.out.cell 11
  have kf := K3.out.frozen
  cases bad with
  | true =>
    go_wp2_with fail
    refine bodyPost_ret (v := .tuple #[.agg #[.int .u8 0, .int .i64 0, .slice none 0 0, .int .i64 0, .string ⟨#[]⟩, .string ⟨#[]⟩, .int .i64 0, .int .i64 0, .slice none 0 0, .int .i64 0, .int .i64 0, .int .i64 0], .int .i64 8]) (by simp [results, Try.results24, go_sem, k0, k1, k2, k3, k4, k5, k6, k7, k8, k9, k10, k11]) rfl ⟨zeroHC 0, 8, rfl, (Cp.readX_none (by have := HSZ.out; omega) (by rw [HRC.out, if_neg (by simp)])).symm, zeroHC_own _ _ (by omega), below_set12 B3.out (Nat.le_refl _) _ _ _ _ _ _ _ _ _ _ _ _⟩
  | false =>
    by_cases hn0 : 0 < n
    · have hne : l' ≠ [] := by intro e; have := HNL.out; rw [e] at this; simp at this; omega
      have HNE := Lib.hid hne
      clear hne
      go_wp2_with fail
      refine bodyPost_ret (v := .tuple #[.agg #[.int .u8 0, .int .i64 0, .slice none 0 0, .int .i64 0, .string ⟨#[]⟩, .string ⟨#[]⟩, .int .i64 0, .int .i64 0, .slice none 0 0, .int .i64 0, .int .i64 0, .int .i64 0], .int .i64 8]) (by simp [results, Try.results24, go_sem, k0, k1, k2, k3, k4, k5, k6, k7, k8, k9, k10, k11]) rfl ⟨zeroHC 0, 8, rfl, (Cp.readX_none (by have := HSZ.out; omega) (by rw [HRC.out, if_neg (fun x => HNE.out x.2.1)])).symm, zeroHC_own _ _ (by omega), below_set12 B3.out (Nat.le_refl _) _ _ _ _ _ _ _ _ _ _ _ _⟩
    · have hnil : l' = [] := List.eq_nil_of_length_eq_zero (by have := HNL.out; omega)
      have HNIL := Lib.hid hnil
      clear hnil
      obtain ⟨b, hb⟩ : ∃ b, Cp.mayC D.cmd = b := ⟨_, rfl⟩
      have HB := Lib.hid hb
      have HCK := Lib.hid (ccheck_any D _ O3.out.at_ b hb)
      clear hb
      go_wp2_with fail
      refine HCK.out.mono ?_
      rintro e w3 ⟨rfl, hb⟩
      have O4 := Lib.hid (O3.out.below hb)
      have K4 := Lib.hid (K3.out.below hb K3.out.lt)
      have B4 := Lib.hid (B3.out.trans (hb.mono B3.out.size))
      have KD4 := Lib.hid (KD.out.below hb KD.out.lt)
      clear hb HCK kf r0 r1 d0 k0 d1 k1 d2 k2 d3 k3 d4 k4 d5 k5 d6 k6 d7 k7 d8 k8 d9 k9 d10 k10 d11 k11
      have d0 : w3.cell? ⟨w2.heap.size, 0, none⟩ = some (.int .u8 D.k) := KD4.out.cell 0
      have d1 : w3.cell? ⟨w2.heap.size, 1, none⟩ = some (.int .i64 D.mi) := KD4.out.cell 1
      have d2 : w3.cell? ⟨w2.heap.size, 2, none⟩ = some (.slice D.GA D.Gn D.Gc) := KD4.out.cell 2
      have d3 : w3.cell? ⟨w2.heap.size, 3, none⟩ = some (.int .i64 D.mt) := KD4.out.cell 3
      have d4 : w3.cell? ⟨w2.heap.size, 4, none⟩ = some (.string D.key) := KD4.out.cell 4
      have d5 : w3.cell? ⟨w2.heap.size, 5, none⟩ = some (.string D.body) := KD4.out.cell 5
      have d6 : w3.cell? ⟨w2.heap.size, 6, none⟩ = some (.int .i64 D.i) := KD4.out.cell 6
      have d7 : w3.cell? ⟨w2.heap.size, 7, none⟩ = some (.int .i64 D.tm) := KD4.out.cell 7
      have d8 : w3.cell? ⟨w2.heap.size, 8, none⟩ = some (.slice D.MA D.Mn D.Mc) := KD4.out.cell 8
      have d9 : w3.cell? ⟨w2.heap.size, 9, none⟩ = some (.int .i64 D.tp) := KD4.out.cell 9
      have d10 : w3.cell? ⟨w2.heap.size, 10, none⟩ = some (.int .i64 D.who) := KD4.out.cell 10
      have d11 : w3.cell? ⟨w2.heap.size, 11, none⟩ = some (.int .i64 D.n) := KD4.out.cell 11
      have k0 : w3.cell? ⟨w.heap.size, 0, none⟩ = some (.int .u8 0) := K4.out.cell 0
      have k1 : w3.cell? ⟨w.heap.size, 1, none⟩ = some (.int .i64 0) := K4.out.cell 1
      have k2 : w3.cell? ⟨w.heap.size, 2, none⟩ = some (.slice none 0 0) := K4.out.cell 2
      have k3 : w3.cell? ⟨w.heap.size, 3, none⟩ = some (.int .i64 0) := K4.out.cell 3
      have k4 : w3.cell? ⟨w.heap.size, 4, none⟩ = some (.string ⟨#[]⟩) := K4.out.cell 4
      have k5 : w3.cell? ⟨w.heap.size, 5, none⟩ = some (.string ⟨#[]⟩) := K4.out.cell 5
      have k6 : w3.cell? ⟨w.heap.size, 6, none⟩ = some (.int .i64 0) := K4.out.cell 6
      have k7 : w3.cell? ⟨w.heap.size, 7, none⟩ = some (.int .i64 0) := K4.out.cell 7
      have k8 : w3.cell? ⟨w.heap.size, 8, none⟩ = some (.slice none 0 0) := K4.out.cell 8
      have k9 : w3.cell? ⟨w.heap.size, 9, none⟩ = some (.int .i64 0) := K4.out.cell 9
      have k10 : w3.cell? ⟨w.heap.size, 10, none⟩ = some (.int .i64 0) := K4.out.cell 10
      have k11 : w3.cell? ⟨w.heap.size, 11, none⟩ = some (.int .i64 0) := K4.out.cell 11
      have kf := K4.out.frozen
      cases b with
      | false =>
        rw [show errK false = 120 from rfl]
        go_wp2_with fail
        refine bodyPost_ret (v := .tuple #[.agg #[.int .u8 0, .int .i64 0, .slice none 0 0, .int .i64 0, .string ⟨#[]⟩, .string ⟨#[]⟩, .int .i64 0, .int .i64 0, .slice none 0 0, .int .i64 0, .int .i64 0, .int .i64 0], .int .i64 8]) (by simp [results, Try.results24, go_sem, k0, k1, k2, k3, k4, k5, k6, k7, k8, k9, k10, k11]) rfl ⟨zeroHC 0, 8, rfl, (Cp.readX_none (by have := HSZ.out; omega) (by rw [HRC.out, if_neg (fun x => by rw [HB.out] at x; exact absurd x.2.2 (by decide))])).symm, zeroHC_own _ _ (by omega), below_set12 B4.out (Nat.le_refl _) _ _ _ _ _ _ _ _ _ _ _ _⟩
      | true =>
        rw [show errK true = 0 from rfl]
        go_wp2_with fail
        refine bodyPost_ret (v := .tuple #[.agg #[.int .u8 D.k, .int .i64 D.mi, .slice D.GA D.Gn D.Gc, .int .i64 D.mt, .string D.key, .string D.body, .int .i64 D.i, .int .i64 D.tm, .slice D.MA D.Mn D.Mc, .int .i64 D.tp, .int .i64 D.who, .int .i64 D.n], .int .i64 0]) (by simp [results, Try.results24, go_sem, k0, k1, k2, k3, k4, k5, k6, k7, k8, k9, k10, k11]) rfl ⟨D, 0, rfl, (Cp.readX_some (by have := HSZ.out; omega) (by rw [HRC.out]; simp [HNIL.out, HB.out])).symm, own12 O4.out K4.out _ _ _ _ _ _ _ _ _ _ _ _, below_set12 B4.out (Nat.le_refl _) _ _ _ _ _ _ _ _ _ _ _ _⟩
end Go.Proofs.Ytaoekfgeggopbaa
