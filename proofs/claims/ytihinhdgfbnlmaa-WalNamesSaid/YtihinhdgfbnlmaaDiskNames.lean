/-
  The walk of DiskNames. No condition.
-/
import Derived.Test.YtihinhdgfbnlmaaDiskSees
import Derived.Test.YtihinhdgfbnlmaaMake
namespace Go.Proofs.Ytihinhdgfbnlmaa
open Go.RowKit
set_option maxHeartbeats 8000000
set_option maxRecDepth 100000
set_option linter.unusedVariables false
set_option linter.unusedSimpArgs false

/-- Too many writes wait, whatever they are. -/
theorem check_long (A : Option Addr) (n c : Nat) (WA : Option Addr) (Wn Wc : Nat) (w : World) (z : 1024 < Wn) (z0 : Wn ≤ 140737488351232) :
    Calls Try.prog 20 #[.agg #[.slice A n c, .slice WA Wn Wc]] w fun e w' => e = .returned (.int .i64 30) ∧ Below w.heap.size w w' := by
  have z1 : (1024 : Int) < (Wn : Int) := by omega
  go_enter Try.func20, Try.ntmps20
  go_wp2
  go_ret
  exact ⟨rfl, (Below.refl _ w).alloc (Nat.le_refl _) _⟩
def zeroPuts : Array Value := madeCells #[.bool false, .slice none 0 0] (1025 * 2)
theorem make_puts (w : World) : (Instr.makeSlice 23 (.int .i64 1025) (.int .i64 1025)).run Try.prog w = .ok (.slice (some ⟨w.heap.size, 0, none⟩) 1025 1025) (w.alloc (.cells zeroPuts 43)) := by
  obtain ⟨i0, hi0, hz0, hz1, hz2⟩ := info_parts put_info
  have h := run_make_rowN (P := Try.prog) 23 43 i0 (.agg #[.bool false, .slice none 0 0]) Try.underlying23 hi0 hz0 .i64 .i64 1025 1025 (Nat.le_refl _) (by rw [hz2]; omega) (by omega) w
  rw [hz1] at h
  exact h
theorem write_full : Dp.write ⟨List.replicate 1048576 0, []⟩ ⟨false, [1]⟩ = (Dp.zeroD, 9) := by
  have h1 : Dp.mayD ⟨List.replicate 1048576 0, []⟩ = true := by rw [Dp.mayD_nil, List.length_replicate]; rfl
  rw [write_not h1, if_neg]
  simp only [step_f_len, Dp.seen, Dp.done, List.length_replicate, Bool.and_eq_true, decide_eq_true_eq]
  simp
theorem zero_len : (List.replicate 1048576 (0 : UInt8)).length = 1048576 := List.length_replicate

theorem names03 (w : World) : Calls Try.prog 4 #[] w fun e w' => e = .returned (.bool true) ∧ Below w.heap.size w w' := by
  have hmk : ∀ w, (Instr.makeSlice 22 (.int .i64 1048576) (.int .i64 1048576)).run Try.prog w = .ok (.slice (some ⟨w.heap.size, 0, none⟩) 1048576 1048576) (w.alloc (.cells (zeroBytes 1048576) 5)) := fun w => make_bytes 1048576 (by omega) w
  have hmp := make_puts
  go_enter Try.func4, Try.ntmps4
  go_wp2_with fail
  refine (some_any w).mono ?_
  rintro e w1 ⟨D, rfl, h, he, hb⟩
  have D0 := Lib.hid (h.at_.alloc (.cells #[.slice D.A D.n D.c, .slice D.WA D.Wn D.Wc] 25))
  have K0 := Lib.hid (Blk.new w1 25 #[.slice D.A D.n D.c, .slice D.WA D.Wn D.Wc])
  have C0 := Lib.hid (hb.alloc hb.size (.cells #[.slice D.A D.n D.c, .slice D.WA D.Wn D.Wc] 25))
  have HE := Lib.hid he
  clear h he hb
  have y0 := K0.out.cell 0
  have y1 := K0.out.cell 1
  go_wp2_with fail
  refine (crash_is D 0 1 _ ⟨[1, 2, 3], []⟩ 0 (by rw [HE.out]; rfl) D0.out (by omega)).mono ?_
  rintro e w2 ⟨Da, rfl, hx, hex, hb⟩
  have Ka := Lib.hid (Blk.new w2 25 #[.slice Da.A Da.n Da.c, .slice Da.WA Da.Wn Da.Wc])
  have Ra := Lib.hid (hx.at_.alloc (.cells #[.slice Da.A Da.n Da.c, .slice Da.WA Da.Wn Da.Wc] 25)).rd
  rw [show Da.d = [1, 2, 3] from congrArg Dp.Disk.data hex] at Ra
  replace K0 := Lib.hid ((K0.out.below hb K0.out.lt).alloc (.cells #[.slice Da.A Da.n Da.c, .slice Da.WA Da.Wn Da.Wc] 25))
  replace C0 := Lib.hid (below_alloc (C0.out.trans (hb.mono C0.out.size)) (.cells #[.slice Da.A Da.n Da.c, .slice Da.WA Da.Wn Da.Wc] 25))
  replace D0 := Lib.hid ((D0.out.up hb).alloc (.cells #[.slice Da.A Da.n Da.c, .slice Da.WA Da.Wn Da.Wc] 25))
  clear hx hex hb y0 y1
  have y0 := K0.out.cell 0
  have y1 := K0.out.cell 1
  go_wp2_with fail
  refine (crash_is D 1 5 _ ⟨[1, 2, 3, 4], []⟩ 0 (by rw [HE.out]; rfl) D0.out (by omega)).mono ?_
  rintro e w3 ⟨Db, rfl, hx, hex, hb⟩
  have Kb := Lib.hid (Blk.new w3 25 #[.slice Db.A Db.n Db.c, .slice Db.WA Db.Wn Db.Wc])
  have Rb := Lib.hid (hx.at_.alloc (.cells #[.slice Db.A Db.n Db.c, .slice Db.WA Db.Wn Db.Wc] 25)).rd
  rw [show Db.d = [1, 2, 3, 4] from congrArg Dp.Disk.data hex] at Rb
  replace K0 := Lib.hid ((K0.out.below hb K0.out.lt).alloc (.cells #[.slice Db.A Db.n Db.c, .slice Db.WA Db.Wn Db.Wc] 25))
  replace C0 := Lib.hid (below_alloc (C0.out.trans (hb.mono C0.out.size)) (.cells #[.slice Db.A Db.n Db.c, .slice Db.WA Db.Wn Db.Wc] 25))
  replace D0 := Lib.hid ((D0.out.up hb).alloc (.cells #[.slice Db.A Db.n Db.c, .slice Db.WA Db.Wn Db.Wc] 25))
  replace Ka := Lib.hid ((Ka.out.below hb Ka.out.lt).alloc (.cells #[.slice Db.A Db.n Db.c, .slice Db.WA Db.Wn Db.Wc] 25))
  replace Ra := Lib.hid (((Ra.out.below hb).more hb.size).up_alloc (.cells #[.slice Db.A Db.n Db.c, .slice Db.WA Db.Wn Db.Wc] 25))
  clear hx hex hb y0 y1
  have y0 := K0.out.cell 0
  have y1 := K0.out.cell 1
  go_wp2_with fail
  refine (crash_is D 2 0 _ ⟨[9], []⟩ 0 (by rw [HE.out]; rfl) D0.out (by omega)).mono ?_
  rintro e w4 ⟨Dc, rfl, hx, hex, hb⟩
  have Kc := Lib.hid (Blk.new w4 25 #[.slice Dc.A Dc.n Dc.c, .slice Dc.WA Dc.Wn Dc.Wc])
  have Rc := Lib.hid (hx.at_.alloc (.cells #[.slice Dc.A Dc.n Dc.c, .slice Dc.WA Dc.Wn Dc.Wc] 25)).rd
  rw [show Dc.d = [9] from congrArg Dp.Disk.data hex] at Rc
  replace K0 := Lib.hid ((K0.out.below hb K0.out.lt).alloc (.cells #[.slice Dc.A Dc.n Dc.c, .slice Dc.WA Dc.Wn Dc.Wc] 25))
  replace C0 := Lib.hid (below_alloc (C0.out.trans (hb.mono C0.out.size)) (.cells #[.slice Dc.A Dc.n Dc.c, .slice Dc.WA Dc.Wn Dc.Wc] 25))
  replace D0 := Lib.hid ((D0.out.up hb).alloc (.cells #[.slice Dc.A Dc.n Dc.c, .slice Dc.WA Dc.Wn Dc.Wc] 25))
  replace Ka := Lib.hid ((Ka.out.below hb Ka.out.lt).alloc (.cells #[.slice Dc.A Dc.n Dc.c, .slice Dc.WA Dc.Wn Dc.Wc] 25))
  replace Ra := Lib.hid (((Ra.out.below hb).more hb.size).up_alloc (.cells #[.slice Dc.A Dc.n Dc.c, .slice Dc.WA Dc.Wn Dc.Wc] 25))
  replace Kb := Lib.hid ((Kb.out.below hb Kb.out.lt).alloc (.cells #[.slice Dc.A Dc.n Dc.c, .slice Dc.WA Dc.Wn Dc.Wc] 25))
  replace Rb := Lib.hid (((Rb.out.below hb).more hb.size).up_alloc (.cells #[.slice Dc.A Dc.n Dc.c, .slice Dc.WA Dc.Wn Dc.Wc] 25))
  clear hx hex hb y0 y1
  have y0 := K0.out.cell 0
  have y1 := K0.out.cell 1
  go_wp2_with fail
  refine (crash_is D 3 0 _ ⟨[9, 8], []⟩ 0 (by rw [HE.out]; rfl) D0.out (by omega)).mono ?_
  rintro e w5 ⟨Dx, rfl, hx, hex, hb⟩
  have Kx := Lib.hid (Blk.new w5 25 #[.slice Dx.A Dx.n Dx.c, .slice Dx.WA Dx.Wn Dx.Wc])
  have Rx := Lib.hid (hx.at_.alloc (.cells #[.slice Dx.A Dx.n Dx.c, .slice Dx.WA Dx.Wn Dx.Wc] 25)).rd
  rw [show Dx.d = [9, 8] from congrArg Dp.Disk.data hex] at Rx
  replace K0 := Lib.hid ((K0.out.below hb K0.out.lt).alloc (.cells #[.slice Dx.A Dx.n Dx.c, .slice Dx.WA Dx.Wn Dx.Wc] 25))
  replace C0 := Lib.hid (below_alloc (C0.out.trans (hb.mono C0.out.size)) (.cells #[.slice Dx.A Dx.n Dx.c, .slice Dx.WA Dx.Wn Dx.Wc] 25))
  replace D0 := Lib.hid ((D0.out.up hb).alloc (.cells #[.slice Dx.A Dx.n Dx.c, .slice Dx.WA Dx.Wn Dx.Wc] 25))
  replace Ka := Lib.hid ((Ka.out.below hb Ka.out.lt).alloc (.cells #[.slice Dx.A Dx.n Dx.c, .slice Dx.WA Dx.Wn Dx.Wc] 25))
  replace Ra := Lib.hid (((Ra.out.below hb).more hb.size).up_alloc (.cells #[.slice Dx.A Dx.n Dx.c, .slice Dx.WA Dx.Wn Dx.Wc] 25))
  replace Kb := Lib.hid ((Kb.out.below hb Kb.out.lt).alloc (.cells #[.slice Dx.A Dx.n Dx.c, .slice Dx.WA Dx.Wn Dx.Wc] 25))
  replace Rb := Lib.hid (((Rb.out.below hb).more hb.size).up_alloc (.cells #[.slice Dx.A Dx.n Dx.c, .slice Dx.WA Dx.Wn Dx.Wc] 25))
  replace Kc := Lib.hid ((Kc.out.below hb Kc.out.lt).alloc (.cells #[.slice Dx.A Dx.n Dx.c, .slice Dx.WA Dx.Wn Dx.Wc] 25))
  replace Rc := Lib.hid (((Rc.out.below hb).more hb.size).up_alloc (.cells #[.slice Dx.A Dx.n Dx.c, .slice Dx.WA Dx.Wn Dx.Wc] 25))
  clear hx hex hb y0 y1
  have y0 := K0.out.cell 0
  have y1 := K0.out.cell 1
  go_wp2_with fail
  refine (sync_is D _ ⟨[9, 8], []⟩ 0 (by rw [HE.out]; rfl) D0.out).mono ?_
  rintro e w6 ⟨Ds, rfl, hx, hex, hb⟩
  have Ks := Lib.hid (Blk.new w6 25 #[.slice Ds.A Ds.n Ds.c, .slice Ds.WA Ds.Wn Ds.Wc])
  have Rs := Lib.hid (hx.at_.alloc (.cells #[.slice Ds.A Ds.n Ds.c, .slice Ds.WA Ds.Wn Ds.Wc] 25)).rd
  rw [show Ds.d = [9, 8] from congrArg Dp.Disk.data hex] at Rs
  replace K0 := Lib.hid ((K0.out.below hb K0.out.lt).alloc (.cells #[.slice Ds.A Ds.n Ds.c, .slice Ds.WA Ds.Wn Ds.Wc] 25))
  replace C0 := Lib.hid (below_alloc (C0.out.trans (hb.mono C0.out.size)) (.cells #[.slice Ds.A Ds.n Ds.c, .slice Ds.WA Ds.Wn Ds.Wc] 25))
  replace D0 := Lib.hid ((D0.out.up hb).alloc (.cells #[.slice Ds.A Ds.n Ds.c, .slice Ds.WA Ds.Wn Ds.Wc] 25))
  replace Ka := Lib.hid ((Ka.out.below hb Ka.out.lt).alloc (.cells #[.slice Ds.A Ds.n Ds.c, .slice Ds.WA Ds.Wn Ds.Wc] 25))
  replace Ra := Lib.hid (((Ra.out.below hb).more hb.size).up_alloc (.cells #[.slice Ds.A Ds.n Ds.c, .slice Ds.WA Ds.Wn Ds.Wc] 25))
  replace Kb := Lib.hid ((Kb.out.below hb Kb.out.lt).alloc (.cells #[.slice Ds.A Ds.n Ds.c, .slice Ds.WA Ds.Wn Ds.Wc] 25))
  replace Rb := Lib.hid (((Rb.out.below hb).more hb.size).up_alloc (.cells #[.slice Ds.A Ds.n Ds.c, .slice Ds.WA Ds.Wn Ds.Wc] 25))
  replace Kc := Lib.hid ((Kc.out.below hb Kc.out.lt).alloc (.cells #[.slice Ds.A Ds.n Ds.c, .slice Ds.WA Ds.Wn Ds.Wc] 25))
  replace Rc := Lib.hid (((Rc.out.below hb).more hb.size).up_alloc (.cells #[.slice Ds.A Ds.n Ds.c, .slice Ds.WA Ds.Wn Ds.Wc] 25))
  replace Kx := Lib.hid ((Kx.out.below hb Kx.out.lt).alloc (.cells #[.slice Ds.A Ds.n Ds.c, .slice Ds.WA Ds.Wn Ds.Wc] 25))
  replace Rx := Lib.hid (((Rx.out.below hb).more hb.size).up_alloc (.cells #[.slice Ds.A Ds.n Ds.c, .slice Ds.WA Ds.Wn Ds.Wc] 25))
  clear hx hex hb y0 y1
  have y0 := K0.out.cell 0
  have y1 := K0.out.cell 1
  go_wp2_with fail
  refine (crash_is D 4 0 _ Dp.zeroD 2 (by rw [HE.out]; rfl) D0.out (by omega)).mono ?_
  rintro e w7 ⟨Dj, rfl, hx, hex, hb⟩
  replace K0 := Lib.hid ((K0.out.below hb K0.out.lt).alloc (.cells #[.slice Dj.A Dj.n Dj.c, .slice Dj.WA Dj.Wn Dj.Wc] 25))
  replace C0 := Lib.hid (below_alloc (C0.out.trans (hb.mono C0.out.size)) (.cells #[.slice Dj.A Dj.n Dj.c, .slice Dj.WA Dj.Wn Dj.Wc] 25))
  replace D0 := Lib.hid ((D0.out.up hb).alloc (.cells #[.slice Dj.A Dj.n Dj.c, .slice Dj.WA Dj.Wn Dj.Wc] 25))
  replace Ka := Lib.hid ((Ka.out.below hb Ka.out.lt).alloc (.cells #[.slice Dj.A Dj.n Dj.c, .slice Dj.WA Dj.Wn Dj.Wc] 25))
  replace Ra := Lib.hid (((Ra.out.below hb).more hb.size).up_alloc (.cells #[.slice Dj.A Dj.n Dj.c, .slice Dj.WA Dj.Wn Dj.Wc] 25))
  replace Kb := Lib.hid ((Kb.out.below hb Kb.out.lt).alloc (.cells #[.slice Dj.A Dj.n Dj.c, .slice Dj.WA Dj.Wn Dj.Wc] 25))
  replace Rb := Lib.hid (((Rb.out.below hb).more hb.size).up_alloc (.cells #[.slice Dj.A Dj.n Dj.c, .slice Dj.WA Dj.Wn Dj.Wc] 25))
  replace Kc := Lib.hid ((Kc.out.below hb Kc.out.lt).alloc (.cells #[.slice Dj.A Dj.n Dj.c, .slice Dj.WA Dj.Wn Dj.Wc] 25))
  replace Rc := Lib.hid (((Rc.out.below hb).more hb.size).up_alloc (.cells #[.slice Dj.A Dj.n Dj.c, .slice Dj.WA Dj.Wn Dj.Wc] 25))
  replace Kx := Lib.hid ((Kx.out.below hb Kx.out.lt).alloc (.cells #[.slice Dj.A Dj.n Dj.c, .slice Dj.WA Dj.Wn Dj.Wc] 25))
  replace Rx := Lib.hid (((Rx.out.below hb).more hb.size).up_alloc (.cells #[.slice Dj.A Dj.n Dj.c, .slice Dj.WA Dj.Wn Dj.Wc] 25))
  replace Ks := Lib.hid ((Ks.out.below hb Ks.out.lt).alloc (.cells #[.slice Dj.A Dj.n Dj.c, .slice Dj.WA Dj.Wn Dj.Wc] 25))
  replace Rs := Lib.hid (((Rs.out.below hb).more hb.size).up_alloc (.cells #[.slice Dj.A Dj.n Dj.c, .slice Dj.WA Dj.Wn Dj.Wc] 25))
  clear hx hex hb y0 y1
  have y0 := K0.out.cell 0
  have y1 := K0.out.cell 1
  go_wp2_with fail
  refine (crash_is D 0 (-1) _ Dp.zeroD 2 (by rw [HE.out]; rfl) D0.out (by omega)).mono ?_
  rintro e w8 ⟨Dk, rfl, hx, hex, hb⟩
  replace K0 := Lib.hid ((K0.out.below hb K0.out.lt).alloc (.cells #[.slice Dk.A Dk.n Dk.c, .slice Dk.WA Dk.Wn Dk.Wc] 25))
  replace C0 := Lib.hid (below_alloc (C0.out.trans (hb.mono C0.out.size)) (.cells #[.slice Dk.A Dk.n Dk.c, .slice Dk.WA Dk.Wn Dk.Wc] 25))
  replace D0 := Lib.hid ((D0.out.up hb).alloc (.cells #[.slice Dk.A Dk.n Dk.c, .slice Dk.WA Dk.Wn Dk.Wc] 25))
  replace Ka := Lib.hid ((Ka.out.below hb Ka.out.lt).alloc (.cells #[.slice Dk.A Dk.n Dk.c, .slice Dk.WA Dk.Wn Dk.Wc] 25))
  replace Ra := Lib.hid (((Ra.out.below hb).more hb.size).up_alloc (.cells #[.slice Dk.A Dk.n Dk.c, .slice Dk.WA Dk.Wn Dk.Wc] 25))
  replace Kb := Lib.hid ((Kb.out.below hb Kb.out.lt).alloc (.cells #[.slice Dk.A Dk.n Dk.c, .slice Dk.WA Dk.Wn Dk.Wc] 25))
  replace Rb := Lib.hid (((Rb.out.below hb).more hb.size).up_alloc (.cells #[.slice Dk.A Dk.n Dk.c, .slice Dk.WA Dk.Wn Dk.Wc] 25))
  replace Kc := Lib.hid ((Kc.out.below hb Kc.out.lt).alloc (.cells #[.slice Dk.A Dk.n Dk.c, .slice Dk.WA Dk.Wn Dk.Wc] 25))
  replace Rc := Lib.hid (((Rc.out.below hb).more hb.size).up_alloc (.cells #[.slice Dk.A Dk.n Dk.c, .slice Dk.WA Dk.Wn Dk.Wc] 25))
  replace Kx := Lib.hid ((Kx.out.below hb Kx.out.lt).alloc (.cells #[.slice Dk.A Dk.n Dk.c, .slice Dk.WA Dk.Wn Dk.Wc] 25))
  replace Rx := Lib.hid (((Rx.out.below hb).more hb.size).up_alloc (.cells #[.slice Dk.A Dk.n Dk.c, .slice Dk.WA Dk.Wn Dk.Wc] 25))
  replace Ks := Lib.hid ((Ks.out.below hb Ks.out.lt).alloc (.cells #[.slice Dk.A Dk.n Dk.c, .slice Dk.WA Dk.Wn Dk.Wc] 25))
  replace Rs := Lib.hid (((Rs.out.below hb).more hb.size).up_alloc (.cells #[.slice Dk.A Dk.n Dk.c, .slice Dk.WA Dk.Wn Dk.Wc] 25))
  clear hx hex hb y0 y1
  obtain ⟨W, hW⟩ : ∃ W, w8.alloc (.cells #[.slice Dk.A Dk.n Dk.c, .slice Dk.WA Dk.Wn Dk.Wc] 25) = W := ⟨_, rfl⟩
  have hWs : W.heap.size = w8.heap.size + 1 := by rw [← hW]; simp
  rw [hW] at K0
  rw [hW] at C0
  rw [hW] at D0
  rw [hW] at Ka
  rw [hW] at Ra
  rw [hW] at Kb
  rw [hW] at Rb
  rw [hW] at Kc
  rw [hW] at Rc
  rw [hW] at Kx
  rw [hW] at Rx
  rw [hW] at Ks
  rw [hW] at Rs
  have KZ := Lib.hid ((Blk.newAt (w := W) (g := w8.heap.size + 1) hWs 5 (zeroBytes 1048576)).alloc (.cells #[.int .u8 1] 5))
  have KL := Lib.hid (Blk.newAt (w := W.alloc (.cells (zeroBytes 1048576) 5)) (g := w8.heap.size + 1 + 1) (by simp [hWs]) 5 #[.int .u8 1])
  have DZ := Lib.hid (blk_disk (l := List.replicate 1048576 0) (n := 1048576) KZ.out (toList_zeroBytes 1048576) zero_len (by omega))
  have PL := Lib.hid (blk_put (l := [1]) (n := 1) false KL.out rfl rfl (by decide))
  have CW := Lib.hid (below_alloc ((Below.refl W.heap.size W).alloc (Nat.le_refl _) (.cells (zeroBytes 1048576) 5)) (.cells #[.int .u8 1] 5))
  go_wp2_with fail
  refine (append_is ⟨some ⟨w8.heap.size + 1, 0, none⟩, 1048576, 1048576, List.replicate 1048576 0, none, 0, 0, []⟩ (some ⟨w8.heap.size + 1 + 1, 0, none⟩) 1 1 [1] _ Dp.zeroD 9 write_full DZ.out PL.out).mono ?_
  rintro e w9 ⟨Dl, rfl, -, -, hb0⟩
  have hb := CW.out.trans (hb0.mono CW.out.size)
  replace K0 := Lib.hid ((K0.out.below hb K0.out.lt).alloc (.cells #[.slice Dl.A Dl.n Dl.c, .slice Dl.WA Dl.Wn Dl.Wc] 25))
  replace C0 := Lib.hid (below_alloc (C0.out.trans (hb.mono C0.out.size)) (.cells #[.slice Dl.A Dl.n Dl.c, .slice Dl.WA Dl.Wn Dl.Wc] 25))
  replace D0 := Lib.hid ((D0.out.up hb).alloc (.cells #[.slice Dl.A Dl.n Dl.c, .slice Dl.WA Dl.Wn Dl.Wc] 25))
  replace Ka := Lib.hid ((Ka.out.below hb Ka.out.lt).alloc (.cells #[.slice Dl.A Dl.n Dl.c, .slice Dl.WA Dl.Wn Dl.Wc] 25))
  replace Ra := Lib.hid (((Ra.out.below hb).more hb.size).up_alloc (.cells #[.slice Dl.A Dl.n Dl.c, .slice Dl.WA Dl.Wn Dl.Wc] 25))
  replace Kb := Lib.hid ((Kb.out.below hb Kb.out.lt).alloc (.cells #[.slice Dl.A Dl.n Dl.c, .slice Dl.WA Dl.Wn Dl.Wc] 25))
  replace Rb := Lib.hid (((Rb.out.below hb).more hb.size).up_alloc (.cells #[.slice Dl.A Dl.n Dl.c, .slice Dl.WA Dl.Wn Dl.Wc] 25))
  replace Kc := Lib.hid ((Kc.out.below hb Kc.out.lt).alloc (.cells #[.slice Dl.A Dl.n Dl.c, .slice Dl.WA Dl.Wn Dl.Wc] 25))
  replace Rc := Lib.hid (((Rc.out.below hb).more hb.size).up_alloc (.cells #[.slice Dl.A Dl.n Dl.c, .slice Dl.WA Dl.Wn Dl.Wc] 25))
  replace Kx := Lib.hid ((Kx.out.below hb Kx.out.lt).alloc (.cells #[.slice Dl.A Dl.n Dl.c, .slice Dl.WA Dl.Wn Dl.Wc] 25))
  replace Rx := Lib.hid (((Rx.out.below hb).more hb.size).up_alloc (.cells #[.slice Dl.A Dl.n Dl.c, .slice Dl.WA Dl.Wn Dl.Wc] 25))
  replace Ks := Lib.hid ((Ks.out.below hb Ks.out.lt).alloc (.cells #[.slice Dl.A Dl.n Dl.c, .slice Dl.WA Dl.Wn Dl.Wc] 25))
  replace Rs := Lib.hid (((Rs.out.below hb).more hb.size).up_alloc (.cells #[.slice Dl.A Dl.n Dl.c, .slice Dl.WA Dl.Wn Dl.Wc] 25))
  clear hb hb0 KZ KL DZ PL CW
  have ka := Ka.out.cell 0
  have va := conv_b (c := Da.c) Ra.out
  have kb := Kb.out.cell 0
  have vb := conv_b (c := Db.c) Rb.out
  have kc := Kc.out.cell 0
  have vc := conv_b (c := Dc.c) Rc.out
  have kx := Kx.out.cell 0
  have vx := conv_b (c := Dx.c) Rx.out
  have ks := Ks.out.cell 0
  have vs := conv_b (c := Ds.c) Rs.out
  go_wp2_with fail
  refine (alive03_any _).mono ?_
  rintro e w10 ⟨rfl, hb⟩
  replace K0 := Lib.hid (K0.out.below hb K0.out.lt)
  replace C0 := Lib.hid (C0.out.trans (hb.mono C0.out.size))
  replace D0 := Lib.hid (D0.out.up hb)
  clear hb ka kb kc kx ks va vb vc vx vs Ka Kb Kc Kx Ks Ra Rb Rc Rx Rs
  go_wp2_with fail
  refine (check_long none 0 0 _ 1025 1025 _ (by omega) (by omega)).mono ?_
  rintro e w11 ⟨rfl, hb0⟩
  have hb := (below_alloc (Below.refl w10.heap.size w10) (.cells zeroPuts 43)).trans (hb0.mono (by simp))
  replace K0 := Lib.hid (K0.out.below hb K0.out.lt)
  replace C0 := Lib.hid (C0.out.trans (hb.mono C0.out.size))
  replace D0 := Lib.hid (D0.out.up hb)
  clear hb hb0
  have y0 := K0.out.cell 0
  have y1 := K0.out.cell 1
  go_wp2_with fail
  refine (check_is D _ 0 (by rw [HE.out]; rfl) D0.out).mono ?_
  rintro e w12 ⟨rfl, hb⟩
  have C1 := Lib.hid (C0.out.trans (hb.mono C0.out.size))
  clear hb K0 C0 D0 y0 y1
  go_wp2
  go_ret
  exact ⟨rfl, C1.out⟩
end Go.Proofs.Ytihinhdgfbnlmaa
