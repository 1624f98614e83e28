/-
  Layer 12: CommandNames' walk.
-/
import Derived.Test.YtaoekfgeggopbaaCmdLaws
import Derived.Test.YtaoekfgeggopbaaMake
import Derived.Deep.DeepCutAuto
namespace Go.Proofs.Ytaoekfgeggopbaa
open Go.RowKit
set_option maxHeartbeats 8000000
set_option maxRecDepth 100000
set_option linter.unusedVariables false
set_option linter.unusedSimpArgs false

theorem reads_blk_i {w : World} {g n : Nat} {cs : Array Value} (h : Blk w g 3 cs) (l : List Int) (hc : cs.toList = ci l) (hn : l.length = n) : Reads w w.heap.size 1 (some ⟨g, 0, none⟩) n (ci l) := by
  refine row_reads (by rw [ci_length, hn]) ?_
  intro i u hu
  have hadd : (⟨g, 0, none⟩ : Addr).add i = ⟨g, i, none⟩ := by unfold Addr.add; split <;> simp_all
  rw [hadd, Blk.cell h i, ← Array.getElem?_toList, hc]
  exact hu
theorem reads_blk_b {w : World} {g n : Nat} {cs : Array Value} (h : Blk w g 5 cs) (l : List UInt8) (hc : cs.toList = cb l) (hn : l.length = n) : Reads w w.heap.size 1 (some ⟨g, 0, none⟩) n (cb l) := by
  refine row_reads (by rw [cb_length, hn]) ?_
  intro i u hu
  have hadd : (⟨g, 0, none⟩ : Addr).add i = ⟨g, i, none⟩ := by unfold Addr.add; split <;> simp_all
  rw [hadd, Blk.cell h i, ← Array.getElem?_toList, hc]
  exact hu
/-- The example's command: its groups lie in block g. -/
def cAss (g : Nat) : HC := ⟨1, 1, some ⟨g, 0, none⟩, 2, 2, [0, 2], 3, ⟨#[107]⟩, ⟨#[]⟩, 0, 0, none, 0, 0, [], 0, 0, 0⟩
theorem cAss_at {w : World} {g : Nat} (h : Blk w g 3 #[.int .i64 0, .int .i64 2]) : CmdAt w w.heap.size (cAss g) := by
  have z := zeroHC_at w w.heap.size (k := 1) (by omega)
  have hr := reads_blk_i h [0, 2] rfl (n := 2) rfl
  exact ⟨hr, z.rm, Nat.le_refl _, (by show (2 : Nat) ≤ 9223372036854775807; omega), z.mc, z.mm, z.kk, (by show (1 : Nat) ≤ 9223372036854775807; omega), z.bb, (by
    intro x hx
    simp only [cAss, List.mem_cons, List.not_mem_nil, or_false] at hx
    rcases hx with rfl | rfl <;> exact ⟨by omega, by omega⟩), z.im, ⟨by simp [cAss], by simp [cAss]⟩, ⟨by simp [cAss], by simp [cAss]⟩, z.a3, z.a4, z.a5, z.a6, z.a7⟩
theorem cAss_may (g : Nat) : Cp.mayC (cAss g).cmd = true := (by decide : Cp.mayC ⟨1, 1, [0, 2], 3, [107], [], 0, 0, [], 0, 0, 0⟩ = true)
theorem cAss_msg (g : Nat) : Cp.msgB (cAss g).cmd = true := (by decide : Cp.msgB ⟨1, 1, [0, 2], 3, [107], [], 0, 0, [], 0, 0, 0⟩ = true)
theorem cAss_bytes (g : Nat) : Cp.bytesC (cAss g).cmd = [1, 1, 2, 0, 2, 3, 1, 107, 0] := (by decide +kernel : Cp.bytesC ⟨1, 1, [0, 2], 3, [107], [], 0, 0, [], 0, 0, 0⟩ = [1, 1, 2, 0, 2, 3, 1, 107, 0])
def cTm : HC := ⟨0, 0, none, 0, 0, [], 0, ⟨#[]⟩, ⟨#[]⟩, 0, 1, none, 0, 0, [], 0, 0, 0⟩
theorem cTm_at (w : World) (B : Nat) : CmdAt w B cTm := by
  have z := zeroHC_at w B (k := 0) (by omega)
  exact ⟨z.rg, z.rm, z.gc, z.gm, z.mc, z.mm, z.kk, z.bk, z.bb, z.ig, z.im, z.a1, z.a2, z.a3, ⟨by simp [cTm], by simp [cTm]⟩, z.a5, z.a6, z.a7⟩

theorem commandNames_walk (w : World) : Calls Try.prog 5 #[] w fun e w' => e = .returned (.bool true) ∧ Below w.heap.size w w' := by
  have hmk : ∀ w, (Instr.makeSlice 46 (.int .i64 1025) (.int .i64 1025)).run Try.prog w = .ok (.slice (some ⟨w.heap.size, 0, none⟩) 1025 1025) (w.alloc (.cells (zeroBytes 1025) 5)) := fun w => make_bytes 1025 (by omega) w
  obtain ⟨g, hg⟩ : ∃ g, w.heap.size = g := ⟨_, rfl⟩
  obtain ⟨W0, hW⟩ : ∃ W0, (w.alloc (.cells #[.int .i64 0, .int .i64 2] 3)).alloc (.cells #[.int .i64 1, .slice (some ⟨w.heap.size, 0, none⟩) 2 2, .int .i64 3, .string ⟨#[107]⟩, .string ⟨#[]⟩] 24) = W0 := ⟨_, rfl⟩
  have KI : Hid (Blk W0 w.heap.size 3 #[.int .i64 0, .int .i64 2]) := by rw [Hid, ← hW]; exact (Blk.new w _ _).alloc _
  have KM : Hid (Blk W0 (w.heap.size + 1) 24 #[.int .i64 1, .slice (some ⟨w.heap.size, 0, none⟩) 2 2, .int .i64 3, .string ⟨#[107]⟩, .string ⟨#[]⟩]) := by rw [Hid, ← hW]; exact Blk.newN (by simp) _ _
  have B0 : Hid (Below w.heap.size w W0) := by rw [Hid, ← hW]; exact ((Below.refl _ w).alloc (Nat.le_refl _) _).alloc (by simp) _
  have HW := Lib.hid hW
  clear hW hg
  go_enter Try.func5, Try.ntmps5
  go_upto_region 2 with fail
  rw [HW.out]
  have m0 := KM.out.cell 0
  have m1 := KM.out.cell 1
  have m2 := KM.out.cell 2
  have m3 := KM.out.cell 3
  have m4 := KM.out.cell 4
  go_wp2_with fail
  clear m0 m1 m2 m3 m4
  have RB := Lib.hid (reads_blk_b (Blk.new W0 5 #[.int .u8 1, .int .u8 1, .int .u8 2, .int .u8 0, .int .u8 2, .int .u8 3, .int .u8 1, .int .u8 107, .int .u8 0]) [1, 1, 2, 0, 2, 3, 1, 107, 0] rfl (n := 9) rfl)
  replace KI := Lib.hid (KI.out.alloc (.cells #[.int .u8 1, .int .u8 1, .int .u8 2, .int .u8 0, .int .u8 2, .int .u8 3, .int .u8 1, .int .u8 107, .int .u8 0] 5))
  replace KM := Lib.hid (KM.out.alloc (.cells #[.int .u8 1, .int .u8 1, .int .u8 2, .int .u8 0, .int .u8 2, .int .u8 3, .int .u8 1, .int .u8 107, .int .u8 0] 5))
  replace B0 := Lib.hid (B0.out.alloc B0.out.size (.cells #[.int .u8 1, .int .u8 1, .int .u8 2, .int .u8 0, .int .u8 2, .int .u8 3, .int .u8 1, .int .u8 107, .int .u8 0] 5))
  refine (cis_yes (cAss w.heap.size) (some ⟨W0.heap.size, 0, none⟩) 9 9 [1, 1, 2, 0, 2, 3, 1, 107, 0] _ (cAss_at KI.out) RB.out (cAss_may _) (cAss_bytes _)).mono ?_
  rintro e w1 ⟨rfl, hb⟩
  replace KI := Lib.hid (KI.out.below hb KI.out.lt)
  replace KM := Lib.hid (KM.out.below hb KM.out.lt)
  replace B0 := Lib.hid (B0.out.trans (hb.mono B0.out.size))
  clear hb
  clear RB
  have m0 := KM.out.cell 0
  have m1 := KM.out.cell 1
  have m2 := KM.out.cell 2
  have m3 := KM.out.cell 3
  have m4 := KM.out.cell 4
  go_wp2_with fail
  clear m0 m1 m2 m3 m4
  refine (ccheckMsg_any (cAss w.heap.size) _ (cAss_at KI.out) true (cAss_msg _)).mono ?_
  rintro e w2 ⟨rfl, hb⟩
  replace KI := Lib.hid (KI.out.below hb KI.out.lt)
  replace KM := Lib.hid (KM.out.below hb KM.out.lt)
  replace B0 := Lib.hid (B0.out.trans (hb.mono B0.out.size))
  clear hb
  rw [show errK true = 0 from rfl]
  go_wp2_with fail
  refine (ccheckMsg_any (zeroHC 0) _ (zeroHC_at _ _ (by omega)) false (by decide)).mono ?_
  rintro e w3 ⟨rfl, hb⟩
  replace KI := Lib.hid (KI.out.below hb KI.out.lt)
  replace KM := Lib.hid (KM.out.below hb KM.out.lt)
  replace B0 := Lib.hid (B0.out.trans (hb.mono B0.out.size))
  clear hb
  rw [show errK false = 120 from rfl]
  clear KI KM
  have KZ := Lib.hid (Blk.new w3 5 (zeroBytes 1025))
  have hcv := conv_zero KZ.out
  have BZ := Lib.hid (B0.out.alloc B0.out.size (.cells (zeroBytes 1025) 5))
  clear B0
  go_upto_region 3 with fail
  obtain ⟨U, hU⟩ : ∃ U, S (List.replicate 1025 0) = U := ⟨_, rfl⟩
  rw [hU] at hcv
  have hUz : U.size = 1025 := by rw [← hU, S_size, List.length_replicate]
  have HUZ := Lib.hid hUz
  have HUD : Hid (U.data.toList = List.replicate 1025 0) := by rw [Hid, ← hU]; rfl
  clear hU hUz
  go_wp2_with fail
  refine (cread_any U (List.replicate 1025 0) _ (by have := HUZ.out; unfold maxLen; omega) HUD.out).mono ?_
  rintro e w4 ⟨E, x, rfl, hx, ho, hb⟩
  rw [Cp.readX_long (by rw [List.length_replicate]; omega)] at hx
  obtain rfl : x = 3 := congrArg Prod.snd hx
  have B0 := Lib.hid (BZ.out.trans (hb.mono BZ.out.size))
  replace B0 := Lib.hid (B0.out.alloc B0.out.size (.cells #[.int .u8 E.k, .int .i64 E.mi, .slice E.GA E.Gn E.Gc, .int .i64 E.mt, .string E.key, .string E.body, .int .i64 E.i, .int .i64 E.tm, .slice E.MA E.Mn E.Mc, .int .i64 E.tp, .int .i64 E.who, .int .i64 E.n] 26))
  clear hx ho hb BZ KZ hcv hmk
  go_wp2_with fail
  generalize w4.alloc (.cells #[.int .u8 E.k, .int .i64 E.mi, .slice E.GA E.Gn E.Gc, .int .i64 E.mt, .string E.key, .string E.body, .int .i64 E.i, .int .i64 E.tm, .slice E.MA E.Mn E.Mc, .int .i64 E.tp, .int .i64 E.who, .int .i64 E.n] 26) = w5 at *
  refine (alive12_any _).mono ?_
  rintro e w6 ⟨rfl, hb⟩
  replace B0 := Lib.hid (B0.out.trans (hb.mono B0.out.size))
  clear hb
  go_wp2_with fail
  have RB := Lib.hid (reads_blk_b (Blk.new w6 5 #[.int .u8 0, .int .u8 0]) [0, 0] rfl (n := 2) rfl)
  replace B0 := Lib.hid (B0.out.alloc B0.out.size (.cells #[.int .u8 0, .int .u8 0] 5))
  refine (cbad_yes (some ⟨w6.heap.size, 0, none⟩) 2 2 [0, 0] _ RB.out (by decide) (by decide +kernel)).mono ?_
  rintro e w7 ⟨rfl, hb⟩
  replace B0 := Lib.hid (B0.out.trans (hb.mono B0.out.size))
  clear hb
  clear RB
  go_wp2_with fail
  refine (cbad_yes none 0 0 [] _ Reads.none_ (by decide) (by decide +kernel)).mono ?_
  rintro e w8 ⟨rfl, hb⟩
  replace B0 := Lib.hid (B0.out.trans (hb.mono B0.out.size))
  clear hb
  go_wp2_with fail
  have RB := Lib.hid (reads_blk_b (Blk.new w8 5 #[.int .u8 7]) [7] rfl (n := 1) rfl)
  replace B0 := Lib.hid (B0.out.alloc B0.out.size (.cells #[.int .u8 7] 5))
  refine (cbad_yes (some ⟨w8.heap.size, 0, none⟩) 1 1 [7] _ RB.out (by decide) (by decide +kernel)).mono ?_
  rintro e w9 ⟨rfl, hb⟩
  replace B0 := Lib.hid (B0.out.trans (hb.mono B0.out.size))
  clear hb
  clear RB
  go_wp2_with fail
  refine (ccheck_any cTm _ (cTm_at _ _) false (by decide)).mono ?_
  rintro e w10 ⟨rfl, hb⟩
  replace B0 := Lib.hid (B0.out.trans (hb.mono B0.out.size))
  clear hb
  rw [show errK false = 120 from rfl]
  go_wp2_with fail
  refine (ccheck_any (zeroHC 3) _ (zeroHC_at _ _ (by omega)) false (by decide)).mono ?_
  rintro e w11 ⟨rfl, hb⟩
  replace B0 := Lib.hid (B0.out.trans (hb.mono B0.out.size))
  clear hb
  rw [show errK false = 120 from rfl]
  go_wp2
  go_ret
  exact ⟨rfl, B0.out⟩
end Go.Proofs.Ytaoekfgeggopbaa
