/-
  The reference of layer 12: Read; CommandReads' walk.
-/
import Derived.Test.YtaoekfgeggopbaaCmdParse
import Derived.Test.YtaoekfgeggopbaaCmdReadW
import Derived.Test.YtaoekfgeggopbaaCmdMayR
import Derived.Test.YtaoekfgeggopbaaCmdIn
namespace Go.Proofs.Ytaoekfgeggopbaa
open Go.RowKit
set_option maxHeartbeats 8000000
set_option maxRecDepth 100000
set_option linter.unusedVariables false
set_option linter.unusedSimpArgs false

theorem rread12_any (s : ByteArray) (l : List UInt8) (w : World) (hs : s.size ≤ maxLen) (hl : s.data.toList = l) :
    Calls Try.prog 25 #[.string s] w fun e w' => ∃ (D : HC) (x : Int), e = .returned (.tuple #[.agg #[.int .u8 D.k, .int .i64 D.mi, .slice D.GA D.Gn D.Gc, .int .i64 D.mt, .string D.key, .string D.body, .int .i64 D.i, .int .i64 D.tm, .slice D.MA D.Mn D.Mc, .int .i64 D.tp, .int .i64 D.who, .int .i64 D.n], .int .i64 x]) ∧ (D.cmd, x) = Cp.readX l ∧ OwnC w' w.heap.size D ∧ Below w.heap.size w w' := by
  have hsz := size_data s
  rw [hl] at hsz
  obtain ⟨WZ, hWZ⟩ : ∃ WZ, w.alloc (.cells #[.int .u8 (zeroHC 0).k, .int .i64 (zeroHC 0).mi, .slice (zeroHC 0).GA (zeroHC 0).Gn (zeroHC 0).Gc, .int .i64 (zeroHC 0).mt, .string (zeroHC 0).key, .string (zeroHC 0).body, .int .i64 (zeroHC 0).i, .int .i64 (zeroHC 0).tm, .slice (zeroHC 0).MA (zeroHC 0).Mn (zeroHC 0).Mc, .int .i64 (zeroHC 0).tp, .int .i64 (zeroHC 0).who, .int .i64 (zeroHC 0).n] 26) = WZ := ⟨_, rfl⟩
  have KZ : Hid (Blk WZ w.heap.size 26 #[.int .u8 (zeroHC 0).k, .int .i64 (zeroHC 0).mi, .slice (zeroHC 0).GA (zeroHC 0).Gn (zeroHC 0).Gc, .int .i64 (zeroHC 0).mt, .string (zeroHC 0).key, .string (zeroHC 0).body, .int .i64 (zeroHC 0).i, .int .i64 (zeroHC 0).tm, .slice (zeroHC 0).MA (zeroHC 0).Mn (zeroHC 0).Mc, .int .i64 (zeroHC 0).tp, .int .i64 (zeroHC 0).who, .int .i64 (zeroHC 0).n]) := by rw [Hid, ← hWZ]; exact Blk.new w _ _
  have BZ : Hid (Below w.heap.size w WZ) := by rw [Hid, ← hWZ]; exact (Below.refl _ w).alloc (Nat.le_refl _) _
  have NZ : Hid (WZ.heap.size = w.heap.size + 1) := by rw [Hid, ← hWZ]; simp
  have HWZ : Hid (w.alloc (.cells #[.int .u8 0, .int .i64 0, .slice none 0 0, .int .i64 0, .string ⟨#[]⟩, .string ⟨#[]⟩, .int .i64 0, .int .i64 0, .slice none 0 0, .int .i64 0, .int .i64 0, .int .i64 0] 26) = WZ) := hWZ
  have HL := Lib.hid hl
  have HSZ := Lib.hid hsz
  unfold maxLen at hs
  clear hWZ hl hsz
  by_cases hbig : (1024 : Int) < (s.size : Int)
  · go_enter Try.func25, Try.ntmps25
    go_upto_region 2 with fail
    rw [HWZ.out]
    have k0 : WZ.cell? ⟨w.heap.size, 0, none⟩ = some (.int .u8 0) := KZ.out.cell 0
    have k1 : WZ.cell? ⟨w.heap.size, 1, none⟩ = some (.int .i64 0) := KZ.out.cell 1
    have k2 : WZ.cell? ⟨w.heap.size, 2, none⟩ = some (.slice none 0 0) := KZ.out.cell 2
    have k3 : WZ.cell? ⟨w.heap.size, 3, none⟩ = some (.int .i64 0) := KZ.out.cell 3
    have k4 : WZ.cell? ⟨w.heap.size, 4, none⟩ = some (.string ⟨#[]⟩) := KZ.out.cell 4
    have k5 : WZ.cell? ⟨w.heap.size, 5, none⟩ = some (.string ⟨#[]⟩) := KZ.out.cell 5
    have k6 : WZ.cell? ⟨w.heap.size, 6, none⟩ = some (.int .i64 0) := KZ.out.cell 6
    have k7 : WZ.cell? ⟨w.heap.size, 7, none⟩ = some (.int .i64 0) := KZ.out.cell 7
    have k8 : WZ.cell? ⟨w.heap.size, 8, none⟩ = some (.slice none 0 0) := KZ.out.cell 8
    have k9 : WZ.cell? ⟨w.heap.size, 9, none⟩ = some (.int .i64 0) := KZ.out.cell 9
    have k10 : WZ.cell? ⟨w.heap.size, 10, none⟩ = some (.int .i64 0) := KZ.out.cell 10
    have k11 : WZ.cell? ⟨w.heap.size, 11, none⟩ = some (.int .i64 0) := KZ.out.cell 11
    have kf := KZ.out.frozen
    go_wp2_with fail
    refine bodyPost_ret (v := .tuple #[.agg #[.int .u8 0, .int .i64 0, .slice none 0 0, .int .i64 0, .string ⟨#[]⟩, .string ⟨#[]⟩, .int .i64 0, .int .i64 0, .slice none 0 0, .int .i64 0, .int .i64 0, .int .i64 0], .int .i64 3]) (by simp [results, Try.results25, go_sem, k0, k1, k2, k3, k4, k5, k6, k7, k8, k9, k10, k11]) rfl ⟨zeroHC 0, 3, rfl, (Cp.readX_long (by have := HSZ.out; omega)).symm, zeroHC_own _ _ (by omega), below_set12 BZ.out (Nat.le_refl _) _ _ _ _ _ _ _ _ _ _ _ _⟩
  have hcv := run_conv_to WZ s
  have R0 := convW_reads WZ s
  have hz := convW_size WZ s
  have hbw := convW_below WZ s
  have hq0 := convC_ge WZ s
  have hq1 := convC_le WZ s (by unfold maxLen; omega)
  unfold maxLen at hq1
  rw [HL.out] at R0
  generalize convW WZ s = W1 at *
  generalize convC WZ s = c0 at *
  rw [NZ.out] at hcv R0 hz hbw
  have KZ1 := Lib.hid (KZ.out.below hbw (by omega))
  have BZ1 := Lib.hid (BZ.out.trans (hbw.mono (by omega)))
  have NW : Hid (w.heap.size < W1.heap.size) := by rw [Hid, hz]; omega
  have HPA := Lib.hid (rparse_any (some ⟨w.heap.size + 1, 0, none⟩) s.size c0 l W1 _ (by rw [hz]; exact Nat.le_refl _) R0 hq0 hq1 (by omega))
  clear R0 hz hbw hq0 hq1 KZ BZ
  go_enter Try.func25, Try.ntmps25
  go_upto_region 3 with fail
  rw [HWZ.out]
  go_wp2_with fail
  refine HPA.out.mono ?_
  rintro e w2 ⟨⟨D, A, n, c, is, rfl, hyes, hno⟩, hb⟩
  have HY := Lib.hid hyes
  have HN := Lib.hid hno
  have K2 := Lib.hid (KZ1.out.below hb KZ1.out.lt)
  have B2 := Lib.hid (BZ1.out.trans (hb.mono BZ1.out.size))
  clear hyes hno hb KZ1 BZ1 hcv HPA HWZ
  have K3 := Lib.hid (K2.out.alloc (.cells #[.int .u8 D.k, .int .i64 D.mi, .slice D.GA D.Gn D.Gc, .int .i64 D.mt, .string D.key, .string D.body, .int .i64 D.i, .int .i64 D.tm, .slice D.MA D.Mn D.Mc, .int .i64 D.tp, .int .i64 D.who, .int .i64 D.n] 26))
  have B3 := Lib.hid (B2.out.alloc B2.out.size (.cells #[.int .u8 D.k, .int .i64 D.mi, .slice D.GA D.Gn D.Gc, .int .i64 D.mt, .string D.key, .string D.body, .int .i64 D.i, .int .i64 D.tm, .slice D.MA D.Mn D.Mc, .int .i64 D.tp, .int .i64 D.who, .int .i64 D.n] 26))
  have KD := Lib.hid (Blk.new w2 26 #[.int .u8 D.k, .int .i64 D.mi, .slice D.GA D.Gn D.Gc, .int .i64 D.mt, .string D.key, .string D.body, .int .i64 D.i, .int .i64 D.tm, .slice D.MA D.Mn D.Mc, .int .i64 D.tp, .int .i64 D.who, .int .i64 D.n])
  clear K2 B2
  have d0 : (w2.alloc (.cells #[.int .u8 D.k, .int .i64 D.mi, .slice D.GA D.Gn D.Gc, .int .i64 D.mt, .string D.key, .string D.body, .int .i64 D.i, .int .i64 D.tm, .slice D.MA D.Mn D.Mc, .int .i64 D.tp, .int .i64 D.who, .int .i64 D.n] 26)).cell? ⟨w2.heap.size, 0, none⟩ = some (.int .u8 D.k) := KD.out.cell 0
  have d1 : (w2.alloc (.cells #[.int .u8 D.k, .int .i64 D.mi, .slice D.GA D.Gn D.Gc, .int .i64 D.mt, .string D.key, .string D.body, .int .i64 D.i, .int .i64 D.tm, .slice D.MA D.Mn D.Mc, .int .i64 D.tp, .int .i64 D.who, .int .i64 D.n] 26)).cell? ⟨w2.heap.size, 1, none⟩ = some (.int .i64 D.mi) := KD.out.cell 1
  have d2 : (w2.alloc (.cells #[.int .u8 D.k, .int .i64 D.mi, .slice D.GA D.Gn D.Gc, .int .i64 D.mt, .string D.key, .string D.body, .int .i64 D.i, .int .i64 D.tm, .slice D.MA D.Mn D.Mc, .int .i64 D.tp, .int .i64 D.who, .int .i64 D.n] 26)).cell? ⟨w2.heap.size, 2, none⟩ = some (.slice D.GA D.Gn D.Gc) := KD.out.cell 2
  have d3 : (w2.alloc (.cells #[.int .u8 D.k, .int .i64 D.mi, .slice D.GA D.Gn D.Gc, .int .i64 D.mt, .string D.key, .string D.body, .int .i64 D.i, .int .i64 D.tm, .slice D.MA D.Mn D.Mc, .int .i64 D.tp, .int .i64 D.who, .int .i64 D.n] 26)).cell? ⟨w2.heap.size, 3, none⟩ = some (.int .i64 D.mt) := KD.out.cell 3
  have d4 : (w2.alloc (.cells #[.int .u8 D.k, .int .i64 D.mi, .slice D.GA D.Gn D.Gc, .int .i64 D.mt, .string D.key, .string D.body, .int .i64 D.i, .int .i64 D.tm, .slice D.MA D.Mn D.Mc, .int .i64 D.tp, .int .i64 D.who, .int .i64 D.n] 26)).cell? ⟨w2.heap.size, 4, none⟩ = some (.string D.key) := KD.out.cell 4
  have d5 : (w2.alloc (.cells #[.int .u8 D.k, .int .i64 D.mi, .slice D.GA D.Gn D.Gc, .int .i64 D.mt, .string D.key, .string D.body, .int .i64 D.i, .int .i64 D.tm, .slice D.MA D.Mn D.Mc, .int .i64 D.tp, .int .i64 D.who, .int .i64 D.n] 26)).cell? ⟨w2.heap.size, 5, none⟩ = some (.string D.body) := KD.out.cell 5
  have d6 : (w2.alloc (.cells #[.int .u8 D.k, .int .i64 D.mi, .slice D.GA D.Gn D.Gc, .int .i64 D.mt, .string D.key, .string D.body, .int .i64 D.i, .int .i64 D.tm, .slice D.MA D.Mn D.Mc, .int .i64 D.tp, .int .i64 D.who, .int .i64 D.n] 26)).cell? ⟨w2.heap.size, 6, none⟩ = some (.int .i64 D.i) := KD.out.cell 6
  have d7 : (w2.alloc (.cells #[.int .u8 D.k, .int .i64 D.mi, .slice D.GA D.Gn D.Gc, .int .i64 D.mt, .string D.key, .string D.body, .int .i64 D.i, .int .i64 D.tm, .slice D.MA D.Mn D.Mc, .int .i64 D.tp, .int .i64 D.who, .int .i64 D.n] 26)).cell? ⟨w2.heap.size, 7, none⟩ = some (.int .i64 D.tm) := KD.out.cell 7
  have d8 : (w2.alloc (.cells #[.int .u8 D.k, .int .i64 D.mi, .slice D.GA D.Gn D.Gc, .int .i64 D.mt, .string D.key, .string D.body, .int .i64 D.i, .int .i64 D.tm, .slice D.MA D.Mn D.Mc, .int .i64 D.tp, .int .i64 D.who, .int .i64 D.n] 26)).cell? ⟨w2.heap.size, 8, none⟩ = some (.slice D.MA D.Mn D.Mc) := KD.out.cell 8
  have d9 : (w2.alloc (.cells #[.int .u8 D.k, .int .i64 D.mi, .slice D.GA D.Gn D.Gc, .int .i64 D.mt, .string D.key, .string D.body, .int .i64 D.i, .int .i64 D.tm, .slice D.MA D.Mn D.Mc, .int .i64 D.tp, .int .i64 D.who, .int .i64 D.n] 26)).cell? ⟨w2.heap.size, 9, none⟩ = some (.int .i64 D.tp) := KD.out.cell 9
  have d10 : (w2.alloc (.cells #[.int .u8 D.k, .int .i64 D.mi, .slice D.GA D.Gn D.Gc, .int .i64 D.mt, .string D.key, .string D.body, .int .i64 D.i, .int .i64 D.tm, .slice D.MA D.Mn D.Mc, .int .i64 D.tp, .int .i64 D.who, .int .i64 D.n] 26)).cell? ⟨w2.heap.size, 10, none⟩ = some (.int .i64 D.who) := KD.out.cell 10
  have d11 : (w2.alloc (.cells #[.int .u8 D.k, .int .i64 D.mi, .slice D.GA D.Gn D.Gc, .int .i64 D.mt, .string D.key, .string D.body, .int .i64 D.i, .int .i64 D.tm, .slice D.MA D.Mn D.Mc, .int .i64 D.tp, .int .i64 D.who, .int .i64 D.n] 26)).cell? ⟨w2.heap.size, 11, none⟩ = some (.int .i64 D.n) := KD.out.cell 11
  have k0 : (w2.alloc (.cells #[.int .u8 D.k, .int .i64 D.mi, .slice D.GA D.Gn D.Gc, .int .i64 D.mt, .string D.key, .string D.body, .int .i64 D.i, .int .i64 D.tm, .slice D.MA D.Mn D.Mc, .int .i64 D.tp, .int .i64 D.who, .int .i64 D.n] 26)).cell? ⟨w.heap.size, 0, none⟩ = some (.int .u8 0) := K3.out.cell 0
  have k1 : (w2.alloc (.cells #[.int .u8 D.k, .int .i64 D.mi, .slice D.GA D.Gn D.Gc, .int .i64 D.mt, .string D.key, .string D.body, .int .i64 D.i, .int .i64 D.tm, .slice D.MA D.Mn D.Mc, .int .i64 D.tp, .int .i64 D.who, .int .i64 D.n] 26)).cell? ⟨w.heap.size, 1, none⟩ = some (.int .i64 0) := K3.out.cell 1
  have k2 : (w2.alloc (.cells #[.int .u8 D.k, .int .i64 D.mi, .slice D.GA D.Gn D.Gc, .int .i64 D.mt, .string D.key, .string D.body, .int .i64 D.i, .int .i64 D.tm, .slice D.MA D.Mn D.Mc, .int .i64 D.tp, .int .i64 D.who, .int .i64 D.n] 26)).cell? ⟨w.heap.size, 2, none⟩ = some (.slice none 0 0) := K3.out.cell 2
  have k3 : (w2.alloc (.cells #[.int .u8 D.k, .int .i64 D.mi, .slice D.GA D.Gn D.Gc, .int .i64 D.mt, .string D.key, .string D.body, .int .i64 D.i, .int .i64 D.tm, .slice D.MA D.Mn D.Mc, .int .i64 D.tp, .int .i64 D.who, .int .i64 D.n] 26)).cell? ⟨w.heap.size, 3, none⟩ = some (.int .i64 0) := K3.out.cell 3
  have k4 : (w2.alloc (.cells #[.int .u8 D.k, .int .i64 D.mi, .slice D.GA D.Gn D.Gc, .int .i64 D.mt, .string D.key, .string D.body, .int .i64 D.i, .int .i64 D.tm, .slice D.MA D.Mn D.Mc, .int .i64 D.tp, .int .i64 D.who, .int .i64 D.n] 26)).cell? ⟨w.heap.size, 4, none⟩ = some (.string ⟨#[]⟩) := K3.out.cell 4
  have k5 : (w2.alloc (.cells #[.int .u8 D.k, .int .i64 D.mi, .slice D.GA D.Gn D.Gc, .int .i64 D.mt, .string D.key, .string D.body, .int .i64 D.i, .int .i64 D.tm, .slice D.MA D.Mn D.Mc, .int .i64 D.tp, .int .i64 D.who, .int .i64 D.n] 26)).cell? ⟨w.heap.size, 5, none⟩ = some (.string ⟨#[]⟩) := K3.out.cell 5
  have k6 : (w2.alloc (.cells #[.int .u8 D.k, .int .i64 D.mi, .slice D.GA D.Gn D.Gc, .int .i64 D.mt, .string D.key, .string D.body, .int .i64 D.i, .int .i64 D.tm, .slice D.MA D.Mn D.Mc, .int .i64 D.tp, .int .i64 D.who, .int .i64 D.n] 26)).cell? ⟨w.heap.size, 6, none⟩ = some (.int .i64 0) := K3.out.cell 6
  have k7 : (w2.alloc (.cells #[.int .u8 D.k, .int .i64 D.mi, .slice D.GA D.Gn D.Gc, .int .i64 D.mt, .string D.key, .string D.body, .int .i64 D.i, .int .i64 D.tm, .slice D.MA D.Mn D.Mc, .int .i64 D.tp, .int .i64 D.who, .int .i64 D.n] 26)).cell? ⟨w.heap.size, 7, none⟩ = some (.int .i64 0) := K3.out.cell 7
  have k8 : (w2.alloc (.cells #[.int .u8 D.k, .int .i64 D.mi, .slice D.GA D.Gn D.Gc, .int .i64 D.mt, .string D.key, .string D.body, .int .i64 D.i, .int .i64 D.tm, .slice D.MA D.Mn D.Mc, .int .i64 D.tp, .int .i64 D.who, .int .i64 D.n] 26)).cell? ⟨w.heap.size, 8, none⟩ = some (.slice none 0 0) := K3.out.cell 8
  have k9 : (w2.alloc (.cells #[.int .u8 D.k, .int .i64 D.mi, .slice D.GA D.Gn D.Gc, .int .i64 D.mt, .string D.key, .string D.body, .int .i64 D.i, .int .i64 D.tm, .slice D.MA D.Mn D.Mc, .int .i64 D.tp, .int .i64 D.who, .int .i64 D.n] 26)).cell? ⟨w.heap.size, 9, none⟩ = some (.int .i64 0) := K3.out.cell 9
  have k10 : (w2.alloc (.cells #[.int .u8 D.k, .int .i64 D.mi, .slice D.GA D.Gn D.Gc, .int .i64 D.mt, .string D.key, .string D.body, .int .i64 D.i, .int .i64 D.tm, .slice D.MA D.Mn D.Mc, .int .i64 D.tp, .int .i64 D.who, .int .i64 D.n] 26)).cell? ⟨w.heap.size, 10, none⟩ = some (.int .i64 0) := K3.out.cell 10
  have k11 : (w2.alloc (.cells #[.int .u8 D.k, .int .i64 D.mi, .slice D.GA D.Gn D.Gc, .int .i64 D.mt, .string D.key, .string D.body, .int .i64 D.i, .int .i64 D.tm, .slice D.MA D.Mn D.Mc, .int .i64 D.tp, .int .i64 D.who, .int .i64 D.n] 26)).cell? ⟨w.heap.size, 11, none⟩ = some (.int .i64 0) := K3.out.cell 11
  have kf := K3.out.frozen
  cases is with
  | false =>
    go_wp2_with fail
    refine bodyPost_ret (v := .tuple #[.agg #[.int .u8 0, .int .i64 0, .slice none 0 0, .int .i64 0, .string ⟨#[]⟩, .string ⟨#[]⟩, .int .i64 0, .int .i64 0, .slice none 0 0, .int .i64 0, .int .i64 0, .int .i64 0], .int .i64 8]) (by simp [results, Try.results25, go_sem, k0, k1, k2, k3, k4, k5, k6, k7, k8, k9, k10, k11]) rfl ⟨zeroHC 0, 8, rfl, (Cp.readX_none (by have := HSZ.out; omega) (HN.out (by trivial))).symm, zeroHC_own _ _ (by omega), below_set12 B3.out (Nat.le_refl _) _ _ _ _ _ _ _ _ _ _ _ _⟩
  | true =>
    obtain ⟨l', hrd, hln, ho⟩ := HY.out rfl
    have HRD := Lib.hid hrd
    have HLN := Lib.hid hln
    have O3 := Lib.hid ((ho.below ((Below.refl w2.heap.size w2).alloc (Nat.le_refl _) (.cells #[.int .u8 D.k, .int .i64 D.mi, .slice D.GA D.Gn D.Gc, .int .i64 D.mt, .string D.key, .string D.body, .int .i64 D.i, .int .i64 D.tm, .slice D.MA D.Mn D.Mc, .int .i64 D.tp, .int .i64 D.who, .int .i64 D.n] 26))).mono (Nat.le_of_lt NW.out))
    clear hrd hln ho HY HN
    by_cases hn0 : 0 < n
    · have hne : l' ≠ [] := by intro e; have := HLN.out; rw [e] at this; simp at this; omega
      have HNE := Lib.hid hne
      clear hne
      go_wp2_with fail
      refine bodyPost_ret (v := .tuple #[.agg #[.int .u8 0, .int .i64 0, .slice none 0 0, .int .i64 0, .string ⟨#[]⟩, .string ⟨#[]⟩, .int .i64 0, .int .i64 0, .slice none 0 0, .int .i64 0, .int .i64 0, .int .i64 0], .int .i64 8]) (by simp [results, Try.results25, go_sem, k0, k1, k2, k3, k4, k5, k6, k7, k8, k9, k10, k11]) rfl ⟨zeroHC 0, 8, rfl, (Cp.readX_none (by have := HSZ.out; omega) (by rw [Cp.readC_rd, HRD.out, if_neg (fun x => HNE.out x.2.1)])).symm, zeroHC_own _ _ (by omega), below_set12 B3.out (Nat.le_refl _) _ _ _ _ _ _ _ _ _ _ _ _⟩
    · have hnil : l' = [] := List.eq_nil_of_length_eq_zero (by have := HLN.out; omega)
      have HNIL := Lib.hid hnil
      clear hnil
      obtain ⟨b, hb⟩ : ∃ b, Cp.mayC D.cmd = b := ⟨_, rfl⟩
      have HB := Lib.hid hb
      have HCK := Lib.hid (rmay12_any D _ O3.out.at_ b hb)
      clear hb
      go_wp2_with fail
      refine HCK.out.mono ?_
      rintro e w3 ⟨rfl, hb⟩
      have O4 := Lib.hid (O3.out.below hb)
      have K4 := Lib.hid (K3.out.below hb K3.out.lt)
      have B4 := Lib.hid (B3.out.trans (hb.mono B3.out.size))
      have KD4 := Lib.hid (KD.out.below hb KD.out.lt)
      clear hb HCK kf d0 k0 d1 k1 d2 k2 d3 k3 d4 k4 d5 k5 d6 k6 d7 k7 d8 k8 d9 k9 d10 k10 d11 k11
      have d0 : w3.cell? ⟨w2.heap.size, 0, none⟩ = some (.int .u8 D.k) := KD4.out.cell 0
      have d1 : w3.cell? ⟨w2.heap.size, 1, none⟩ = some (.int .i64 D.mi) := KD4.out.cell 1
      have d2 : w3.cell? ⟨w2.heap.size, 2, none⟩ = some (.slice D.GA D.Gn D.Gc) := KD4.out.cell 2
      have d3 : w3.cell? ⟨w2.heap.size, 3, none⟩ = some (.int .i64 D.mt) := KD4.out.cell 3
      have d4 : w3.cell? ⟨w2.heap.size, 4, none⟩ = some (.string D.key) := KD4.out.cell 4
      have d5 : w3.cell? ⟨w2.heap.size, 5, none⟩ = some (.string D.body) := KD4.out.cell 5
      have d6 : w3.cell? ⟨w2.heap.size, 6, none⟩ = some (.int .i64 D.i) := KD4.out.cell 6
      have d7 : w3.cell? ⟨w2.heap.size, 7, none⟩ = some (.int .i64 D.tm) := KD4.out.cell 7
      have d8 : w3.cell? ⟨w2.heap.size, 8, none⟩ = some (.slice D.MA D.Mn D.Mc) := KD4.out.cell 8
      have d9 : w3.cell? ⟨w2.heap.size, 9, none⟩ = some (.int .i64 D.tp) := KD4.out.cell 9
      have d10 : w3.cell? ⟨w2.heap.size, 10, none⟩ = some (.int .i64 D.who) := KD4.out.cell 10
      have d11 : w3.cell? ⟨w2.heap.size, 11, none⟩ = some (.int .i64 D.n) := KD4.out.cell 11
      have k0 : w3.cell? ⟨w.heap.size, 0, none⟩ = some (.int .u8 0) := K4.out.cell 0
      have k1 : w3.cell? ⟨w.heap.size, 1, none⟩ = some (.int .i64 0) := K4.out.cell 1
      have k2 : w3.cell? ⟨w.heap.size, 2, none⟩ = some (.slice none 0 0) := K4.out.cell 2
      have k3 : w3.cell? ⟨w.heap.size, 3, none⟩ = some (.int .i64 0) := K4.out.cell 3
      have k4 : w3.cell? ⟨w.heap.size, 4, none⟩ = some (.string ⟨#[]⟩) := K4.out.cell 4
      have k5 : w3.cell? ⟨w.heap.size, 5, none⟩ = some (.string ⟨#[]⟩) := K4.out.cell 5
      have k6 : w3.cell? ⟨w.heap.size, 6, none⟩ = some (.int .i64 0) := K4.out.cell 6
      have k7 : w3.cell? ⟨w.heap.size, 7, none⟩ = some (.int .i64 0) := K4.out.cell 7
      have k8 : w3.cell? ⟨w.heap.size, 8, none⟩ = some (.slice none 0 0) := K4.out.cell 8
      have k9 : w3.cell? ⟨w.heap.size, 9, none⟩ = some (.int .i64 0) := K4.out.cell 9
      have k10 : w3.cell? ⟨w.heap.size, 10, none⟩ = some (.int .i64 0) := K4.out.cell 10
      have k11 : w3.cell? ⟨w.heap.size, 11, none⟩ = some (.int .i64 0) := K4.out.cell 11
      have kf := K4.out.frozen
      cases b with
      | false =>
        go_wp2_with fail
        refine bodyPost_ret (v := .tuple #[.agg #[.int .u8 0, .int .i64 0, .slice none 0 0, .int .i64 0, .string ⟨#[]⟩, .string ⟨#[]⟩, .int .i64 0, .int .i64 0, .slice none 0 0, .int .i64 0, .int .i64 0, .int .i64 0], .int .i64 8]) (by simp [results, Try.results25, go_sem, k0, k1, k2, k3, k4, k5, k6, k7, k8, k9, k10, k11]) rfl ⟨zeroHC 0, 8, rfl, (Cp.readX_none (by have := HSZ.out; omega) (by rw [Cp.readC_rd, HRD.out, if_neg (fun x => by have h1 := x.2.2; have h2 := HB.out; simp only at h1; rw [h2] at h1; cases h1)])).symm, zeroHC_own _ _ (by omega), below_set12 B4.out (Nat.le_refl _) _ _ _ _ _ _ _ _ _ _ _ _⟩
      | true =>
        go_wp2_with fail
        refine bodyPost_ret (v := .tuple #[.agg #[.int .u8 D.k, .int .i64 D.mi, .slice D.GA D.Gn D.Gc, .int .i64 D.mt, .string D.key, .string D.body, .int .i64 D.i, .int .i64 D.tm, .slice D.MA D.Mn D.Mc, .int .i64 D.tp, .int .i64 D.who, .int .i64 D.n], .int .i64 0]) (by simp [results, Try.results25, go_sem, k0, k1, k2, k3, k4, k5, k6, k7, k8, k9, k10, k11]) rfl ⟨D, 0, rfl, (Cp.readX_some (by have := HSZ.out; omega) (by rw [Cp.readC_rd, HRD.out]; simp [HNIL.out, HB.out])).symm, own12 O4.out K4.out _ _ _ _ _ _ _ _ _ _ _ _, below_set12 B4.out (Nat.le_refl _) _ _ _ _ _ _ _ _ _ _ _ _⟩

theorem commandReads_walk (s : ByteArray) (w : World) (hs : s.size ≤ maxLen) :
    Calls Try.prog 4 #[.string s] w fun e w' => e = .returned (.bool true) ∧ Below w.heap.size w w' := by
  obtain ⟨l, hl⟩ : ∃ l, s.data.toList = l := ⟨_, rfl⟩
  have HL := Lib.hid hl
  have HS := Lib.hid hs
  clear hl hs
  by_cases hbig : (5000 : Int) < (s.size : Int)
  · go_enter Try.func4, Try.ntmps4
    go_wp2
    go_ret
    exact ⟨rfl, Below.refl _ _⟩
  go_enter Try.func4, Try.ntmps4
  go_wp2_with fail
  refine (cread_any s l _ HS.out HL.out).mono ?_
  rintro e w1 ⟨D, x, rfl, hx, ho, hb⟩
  have HD := Lib.hid (ho.at_.alloc (.cells #[.int .u8 D.k, .int .i64 D.mi, .slice D.GA D.Gn D.Gc, .int .i64 D.mt, .string D.key, .string D.body, .int .i64 D.i, .int .i64 D.tm, .slice D.MA D.Mn D.Mc, .int .i64 D.tp, .int .i64 D.who, .int .i64 D.n] 26))
  have HX := Lib.hid hx
  have B0 := Lib.hid (hb.alloc hb.size (.cells #[.int .u8 D.k, .int .i64 D.mi, .slice D.GA D.Gn D.Gc, .int .i64 D.mt, .string D.key, .string D.body, .int .i64 D.i, .int .i64 D.tm, .slice D.MA D.Mn D.Mc, .int .i64 D.tp, .int .i64 D.who, .int .i64 D.n] 26))
  have KD := Lib.hid (Blk.new w1 26 #[.int .u8 D.k, .int .i64 D.mi, .slice D.GA D.Gn D.Gc, .int .i64 D.mt, .string D.key, .string D.body, .int .i64 D.i, .int .i64 D.tm, .slice D.MA D.Mn D.Mc, .int .i64 D.tp, .int .i64 D.who, .int .i64 D.n])
  clear hx ho hb
  go_wp2_with fail
  refine (rread12_any s l _ HS.out HL.out).mono ?_
  rintro e w2 ⟨E, y, rfl, hy, ho, hb⟩
  have hxy := HX.out.trans hy.symm
  obtain rfl : x = y := congrArg Prod.snd hxy
  have EC : Hid (Cp.sameC D.cmd E.cmd = true) := by rw [Hid, show D.cmd = E.cmd from congrArg Prod.fst hxy]; exact Cp.sameC_refl _
  have HE := Lib.hid (ho.at_.alloc (.cells #[.int .u8 E.k, .int .i64 E.mi, .slice E.GA E.Gn E.Gc, .int .i64 E.mt, .string E.key, .string E.body, .int .i64 E.i, .int .i64 E.tm, .slice E.MA E.Mn E.Mc, .int .i64 E.tp, .int .i64 E.who, .int .i64 E.n] 26))
  replace HD := Lib.hid ((HD.out.up hb).alloc (.cells #[.int .u8 E.k, .int .i64 E.mi, .slice E.GA E.Gn E.Gc, .int .i64 E.mt, .string E.key, .string E.body, .int .i64 E.i, .int .i64 E.tm, .slice E.MA E.Mn E.Mc, .int .i64 E.tp, .int .i64 E.who, .int .i64 E.n] 26))
  replace KD := Lib.hid ((KD.out.below hb KD.out.lt).alloc (.cells #[.int .u8 E.k, .int .i64 E.mi, .slice E.GA E.Gn E.Gc, .int .i64 E.mt, .string E.key, .string E.body, .int .i64 E.i, .int .i64 E.tm, .slice E.MA E.Mn E.Mc, .int .i64 E.tp, .int .i64 E.who, .int .i64 E.n] 26))
  replace B0 := Lib.hid (B0.out.trans (hb.mono B0.out.size))
  replace B0 := Lib.hid (B0.out.alloc B0.out.size (.cells #[.int .u8 E.k, .int .i64 E.mi, .slice E.GA E.Gn E.Gc, .int .i64 E.mt, .string E.key, .string E.body, .int .i64 E.i, .int .i64 E.tm, .slice E.MA E.Mn E.Mc, .int .i64 E.tp, .int .i64 E.who, .int .i64 E.n] 26))
  have KE := Lib.hid (Blk.new w2 26 #[.int .u8 E.k, .int .i64 E.mi, .slice E.GA E.Gn E.Gc, .int .i64 E.mt, .string E.key, .string E.body, .int .i64 E.i, .int .i64 E.tm, .slice E.MA E.Mn E.Mc, .int .i64 E.tp, .int .i64 E.who, .int .i64 E.n])
  clear hxy hy ho hb HX
  have c0 := KD.out.cell 0
  have d0 := KE.out.cell 0
  have c1 := KD.out.cell 1
  have d1 := KE.out.cell 1
  have c2 := KD.out.cell 2
  have d2 := KE.out.cell 2
  have c3 := KD.out.cell 3
  have d3 := KE.out.cell 3
  have c4 := KD.out.cell 4
  have d4 := KE.out.cell 4
  have c5 := KD.out.cell 5
  have d5 := KE.out.cell 5
  have c6 := KD.out.cell 6
  have d6 := KE.out.cell 6
  have c7 := KD.out.cell 7
  have d7 := KE.out.cell 7
  have c8 := KD.out.cell 8
  have d8 := KE.out.cell 8
  have c9 := KD.out.cell 9
  have d9 := KE.out.cell 9
  have c10 := KD.out.cell 10
  have d10 := KE.out.cell 10
  have c11 := KD.out.cell 11
  have d11 := KE.out.cell 11
  go_wp2_with fail
  clear c0 d0 c1 d1 c2 d2 c3 d3 c4 d4 c5 d5 c6 d6 c7 d7 c8 d8 c9 d9 c10 d10 c11 d11
  refine (rsame12_any D E _ HD.out HE.out true EC.out).mono ?_
  rintro e w3 ⟨rfl, hb⟩
  replace B0 := Lib.hid (B0.out.trans (hb.mono B0.out.size))
  clear hb
  go_wp2
  go_ret
  exact ⟨rfl, B0.out⟩
end Go.Proofs.Ytaoekfgeggopbaa
