/-
  The reference of layer 12: Great, Twin.
-/
import Derived.Test.YtaoekfgeggopbaaCmdMem
import Derived.Test.YtaoekfgeggopbaaCmdPl
import Derived.Test.YtaoekfgeggopbaaAppI
import Derived.Deep.DeepCutAuto
import Derived.Test.YtaoekfgeggopbaaCmdRdB
namespace Go.Proofs.Ytaoekfgeggopbaa
open Go.RowKit
set_option maxHeartbeats 8000000
set_option maxRecDepth 100000
set_option linter.unusedVariables false
set_option linter.unusedSimpArgs false

def GreatC (D : HC) (e : Ending) : Prop := ∃ r : Bool, e = .returned (.bool r) ∧ (r = false → D.Gn ≤ 1000 ∧ D.Mn ≤ 1000 ∧ D.key.size ≤ 5000 ∧ D.body.size ≤ 5000)
theorem rgreat12_any (D : HC) (w : World) (hD : CmdAt w w.heap.size D) :
    Calls Try.prog 12 #[.agg #[.int .u8 D.k, .int .i64 D.mi, .slice D.GA D.Gn D.Gc, .int .i64 D.mt, .string D.key, .string D.body, .int .i64 D.i, .int .i64 D.tm, .slice D.MA D.Mn D.Mc, .int .i64 D.tp, .int .i64 D.who, .int .i64 D.n]] w fun e w' => GreatC D e ∧ Below w.heap.size w w' := by
  have B0 := Lib.hid ((Below.refl _ w).alloc (Nat.le_refl w.heap.size) (.cells #[.int .u8 D.k, .int .i64 D.mi, .slice D.GA D.Gn D.Gc, .int .i64 D.mt, .string D.key, .string D.body, .int .i64 D.i, .int .i64 D.tm, .slice D.MA D.Mn D.Mc, .int .i64 D.tp, .int .i64 D.who, .int .i64 D.n] 26))
  clear hD
  by_cases h1 : (1000 : Int) < (D.Gn : Int)
  · go_enter Try.func12, Try.ntmps12
    go_wp2
    go_ret
    exact ⟨⟨true, rfl, by simp⟩, B0.out⟩
  by_cases h2 : (1000 : Int) < (D.Mn : Int)
  · go_enter Try.func12, Try.ntmps12
    go_wp2
    go_ret
    exact ⟨⟨true, rfl, by simp⟩, B0.out⟩
  by_cases h3 : (5000 : Int) < (D.key.size : Int)
  · go_enter Try.func12, Try.ntmps12
    go_wp2
    go_ret
    exact ⟨⟨true, rfl, by simp⟩, B0.out⟩
  by_cases h4 : (5000 : Int) < (D.body.size : Int)
  · have d4 : decide ((5000 : Int) < (D.body.size : Int)) = true := decide_eq_true h4
    go_enter Try.func12, Try.ntmps12
    go_wp2
    go_ret
    exact ⟨⟨true, by simp [d4], by simp⟩, B0.out⟩
  · have d4 : decide ((5000 : Int) < (D.body.size : Int)) = false := decide_eq_false h4
    go_enter Try.func12, Try.ntmps12
    go_wp2
    go_ret
    exact ⟨⟨false, by simp [d4], fun _ => by omega⟩, B0.out⟩

/-- A twin: the same command, its lists in new memory. -/
def TwinC (D : HC) (e : Ending) (w' : World) : Prop := ∃ E : HC, e = .returned (.agg #[.int .u8 E.k, .int .i64 E.mi, .slice E.GA E.Gn E.Gc, .int .i64 E.mt, .string E.key, .string E.body, .int .i64 E.i, .int .i64 E.tm, .slice E.MA E.Mn E.Mc, .int .i64 E.tp, .int .i64 E.who, .int .i64 E.n]) ∧ E.cmd = D.cmd ∧ CmdAt w' w'.heap.size E ∧ E.Gn = D.Gn ∧ E.Mn = D.Mn
theorem rtwin12_any (D : HC) (w : World) (hD : CmdAt w w.heap.size D) (h1 : D.Gn ≤ 1000) (h2 : D.Mn ≤ 1000) :
    Calls Try.prog 13 #[.agg #[.int .u8 D.k, .int .i64 D.mi, .slice D.GA D.Gn D.Gc, .int .i64 D.mt, .string D.key, .string D.body, .int .i64 D.i, .int .i64 D.tm, .slice D.MA D.Mn D.Mc, .int .i64 D.tp, .int .i64 D.who, .int .i64 D.n]] w fun e w' => TwinC D e w' ∧ Below w.heap.size w w' := by
  obtain ⟨W, hW⟩ : ∃ W, ((w.alloc (.cells #[.int .u8 D.k, .int .i64 D.mi, .slice D.GA D.Gn D.Gc, .int .i64 D.mt, .string D.key, .string D.body, .int .i64 D.i, .int .i64 D.tm, .slice D.MA D.Mn D.Mc, .int .i64 D.tp, .int .i64 D.who, .int .i64 D.n] 26)).alloc (.cells #[.int .u8 0, .int .i64 0, .slice none 0 0, .int .i64 0, .string ⟨#[]⟩, .string ⟨#[]⟩, .int .i64 0, .int .i64 0, .slice none 0 0, .int .i64 0, .int .i64 0, .int .i64 0] 26)).alloc (.cells #[.int .u8 D.k, .int .i64 D.mi, .slice D.GA D.Gn D.Gc, .int .i64 D.mt, .string D.key, .string D.body, .int .i64 D.i, .int .i64 D.tm, .slice D.MA D.Mn D.Mc, .int .i64 D.tp, .int .i64 D.who, .int .i64 D.n] 26) = W := ⟨_, rfl⟩
  have K0 : Hid (Blk W w.heap.size 26 #[.int .u8 D.k, .int .i64 D.mi, .slice D.GA D.Gn D.Gc, .int .i64 D.mt, .string D.key, .string D.body, .int .i64 D.i, .int .i64 D.tm, .slice D.MA D.Mn D.Mc, .int .i64 D.tp, .int .i64 D.who, .int .i64 D.n]) := by rw [Hid, ← hW]; exact ((Blk.new w _ _).alloc _).alloc _
  have KR : Hid (Blk W (w.heap.size + 1) 26 #[.int .u8 0, .int .i64 0, .slice none 0 0, .int .i64 0, .string ⟨#[]⟩, .string ⟨#[]⟩, .int .i64 0, .int .i64 0, .slice none 0 0, .int .i64 0, .int .i64 0, .int .i64 0]) := by rw [Hid, ← hW]; exact (Blk.newN (by simp) _ _).alloc _
  have KT : Hid (Blk W (w.heap.size + 1 + 1) 26 #[.int .u8 D.k, .int .i64 D.mi, .slice D.GA D.Gn D.Gc, .int .i64 D.mt, .string D.key, .string D.body, .int .i64 D.i, .int .i64 D.tm, .slice D.MA D.Mn D.Mc, .int .i64 D.tp, .int .i64 D.who, .int .i64 D.n]) := by rw [Hid, ← hW]; exact Blk.newN (by simp) _ _
  have B0 : Hid (Below w.heap.size w W) := by rw [Hid, ← hW]; exact (((Below.refl _ w).alloc (Nat.le_refl _) _).alloc (by simp) _).alloc (by simp; omega) _
  have HD0 := Lib.hid hD
  have HD1 := Lib.hid (hD.below B0.out)
  have HW := Lib.hid hW
  clear hD hW
  have c0 := K0.out.cell 0
  have t0 := KT.out.cell 0
  have c1 := K0.out.cell 1
  have t1 := KT.out.cell 1
  have c2 := K0.out.cell 2
  have t2 := KT.out.cell 2
  have c3 := K0.out.cell 3
  have t3 := KT.out.cell 3
  have c4 := K0.out.cell 4
  have t4 := KT.out.cell 4
  have c5 := K0.out.cell 5
  have t5 := KT.out.cell 5
  have c6 := K0.out.cell 6
  have t6 := KT.out.cell 6
  have c7 := K0.out.cell 7
  have t7 := KT.out.cell 7
  have c8 := K0.out.cell 8
  have t8 := KT.out.cell 8
  have c9 := K0.out.cell 9
  have t9 := KT.out.cell 9
  have c10 := K0.out.cell 10
  have t10 := KT.out.cell 10
  have c11 := K0.out.cell 11
  have t11 := KT.out.cell 11
  have tf := KT.out.frozen
  go_enter Try.func13, Try.ntmps13
  go_upto_region 2 with fail
  rw [HW.out]
  go_upto_region 3 with fail
  have KA1 : Hid (Blk (W.setCell ⟨w.heap.size + 1 + 1, 2, none⟩ (.slice none 0 0)) w.heap.size 26 #[.int .u8 D.k, .int .i64 D.mi, .slice D.GA D.Gn D.Gc, .int .i64 D.mt, .string D.key, .string D.body, .int .i64 D.i, .int .i64 D.tm, .slice D.MA D.Mn D.Mc, .int .i64 D.tp, .int .i64 D.who, .int .i64 D.n]) := (Blk.far K0.out (p := ⟨w.heap.size + 1 + 1, 2, none⟩) (by show w.heap.size ≠ w.heap.size + 1 + 1; omega) (.slice none 0 0))
  have RA1 : Hid (Blk (W.setCell ⟨w.heap.size + 1 + 1, 2, none⟩ (.slice none 0 0)) (w.heap.size + 1) 26 #[.int .u8 0, .int .i64 0, .slice none 0 0, .int .i64 0, .string ⟨#[]⟩, .string ⟨#[]⟩, .int .i64 0, .int .i64 0, .slice none 0 0, .int .i64 0, .int .i64 0, .int .i64 0]) := (Blk.far KR.out (p := ⟨w.heap.size + 1 + 1, 2, none⟩) (by show w.heap.size + 1 ≠ w.heap.size + 1 + 1; omega) (.slice none 0 0))
  have TA1 : Hid (Blk (W.setCell ⟨w.heap.size + 1 + 1, 2, none⟩ (.slice none 0 0)) (w.heap.size + 1 + 1) 26 #[.int .u8 D.k, .int .i64 D.mi, .slice none 0 0, .int .i64 D.mt, .string D.key, .string D.body, .int .i64 D.i, .int .i64 D.tm, .slice D.MA D.Mn D.Mc, .int .i64 D.tp, .int .i64 D.who, .int .i64 D.n]) := (KT.out.set_ 2 (.slice none 0 0))
  have BA1 : Hid (Below w.heap.size w (W.setCell ⟨w.heap.size + 1 + 1, 2, none⟩ (.slice none 0 0))) := (Below.setCell B0.out (by show w.heap.size ≤ w.heap.size + 1 + 1; omega) (.slice none 0 0))
  clear tf c0 t0 c1 t1 c2 t2 c3 t3 c4 t4 c5 t5 c6 t6 c7 t7 c8 t8 c9 t9 c10 t10 c11 t11
  generalize (W.setCell ⟨w.heap.size + 1 + 1, 2, none⟩ (.slice none 0 0)) = X1 at *
  clear K0 KR KT B0 HW
  have c0 := KA1.out.cell 0
  have t0 := TA1.out.cell 0
  have c1 := KA1.out.cell 1
  have t1 := TA1.out.cell 1
  have c2 := KA1.out.cell 2
  have t2 := TA1.out.cell 2
  have c3 := KA1.out.cell 3
  have t3 := TA1.out.cell 3
  have c4 := KA1.out.cell 4
  have t4 := TA1.out.cell 4
  have c5 := KA1.out.cell 5
  have t5 := TA1.out.cell 5
  have c6 := KA1.out.cell 6
  have t6 := TA1.out.cell 6
  have c7 := KA1.out.cell 7
  have t7 := TA1.out.cell 7
  have c8 := KA1.out.cell 8
  have t8 := TA1.out.cell 8
  have c9 := KA1.out.cell 9
  have t9 := TA1.out.cell 9
  have c10 := KA1.out.cell 10
  have t10 := TA1.out.cell 10
  have c11 := KA1.out.cell 11
  have t11 := TA1.out.cell 11
  have tf := TA1.out.frozen
  have HDX := Lib.hid (HD0.out.below BA1.out)
  have hlg := HD0.out.len_g
  go_wp2_with (at_builtin; refine app_is rfl (.tmp 9) (.tmp 12) rfl w.heap.size (.slice none 0 0) 0 [] rfl (World.ownsRow_nil _ _ _ _) w.heap.size D.GA D.Gn D.Gc D.gs rfl HDX.out.rg ?d1 ?d2 ?_)
  case d1 => omega
  case d2 => exact BA1.out.size
  intro v1 w2 o1 hg1
  obtain ⟨A1, g1, rfl, -, -, -⟩ := own_form o1
  have bb1 : Below X1.heap.size X1 w2 := hg1.below (Nat.le_refl _) (by simp [Value.ownBlock])
  have KB1 := Lib.hid (KA1.out.below bb1 KA1.out.lt)
  have RB1 := Lib.hid (RA1.out.below bb1 RA1.out.lt)
  have TB1 := Lib.hid (TA1.out.below bb1 TA1.out.lt)
  have BB1 := Lib.hid (BA1.out.trans (bb1.mono BA1.out.size))
  have O1 := Lib.hid o1
  clear o1 hg1 bb1 HDX KA1 RA1 TA1 BA1
  clear tf c0 t0 c1 t1 c2 t2 c3 t3 c4 t4 c5 t5 c6 t6 c7 t7 c8 t8 c9 t9 c10 t10 c11 t11
  have tf := TB1.out.frozen
  have t2 := TB1.out.cell 2
  have t8 := TB1.out.cell 8
  go_upto_region 5 with fail
  clear t2 t8 tf
  have KA2 : Hid (Blk ((w2.setCell ⟨w.heap.size + 1 + 1, 2, none⟩ (.slice A1 D.Gn g1)).setCell ⟨w.heap.size + 1 + 1, 8, none⟩ (.slice none 0 0)) w.heap.size 26 #[.int .u8 D.k, .int .i64 D.mi, .slice D.GA D.Gn D.Gc, .int .i64 D.mt, .string D.key, .string D.body, .int .i64 D.i, .int .i64 D.tm, .slice D.MA D.Mn D.Mc, .int .i64 D.tp, .int .i64 D.who, .int .i64 D.n]) := (Blk.far (Blk.far KB1.out (p := ⟨w.heap.size + 1 + 1, 2, none⟩) (by show w.heap.size ≠ w.heap.size + 1 + 1; omega) (.slice A1 D.Gn g1)) (p := ⟨w.heap.size + 1 + 1, 8, none⟩) (by show w.heap.size ≠ w.heap.size + 1 + 1; omega) (.slice none 0 0))
  have RA2 : Hid (Blk ((w2.setCell ⟨w.heap.size + 1 + 1, 2, none⟩ (.slice A1 D.Gn g1)).setCell ⟨w.heap.size + 1 + 1, 8, none⟩ (.slice none 0 0)) (w.heap.size + 1) 26 #[.int .u8 0, .int .i64 0, .slice none 0 0, .int .i64 0, .string ⟨#[]⟩, .string ⟨#[]⟩, .int .i64 0, .int .i64 0, .slice none 0 0, .int .i64 0, .int .i64 0, .int .i64 0]) := (Blk.far (Blk.far RB1.out (p := ⟨w.heap.size + 1 + 1, 2, none⟩) (by show w.heap.size + 1 ≠ w.heap.size + 1 + 1; omega) (.slice A1 D.Gn g1)) (p := ⟨w.heap.size + 1 + 1, 8, none⟩) (by show w.heap.size + 1 ≠ w.heap.size + 1 + 1; omega) (.slice none 0 0))
  have TA2 : Hid (Blk ((w2.setCell ⟨w.heap.size + 1 + 1, 2, none⟩ (.slice A1 D.Gn g1)).setCell ⟨w.heap.size + 1 + 1, 8, none⟩ (.slice none 0 0)) (w.heap.size + 1 + 1) 26 #[.int .u8 D.k, .int .i64 D.mi, .slice A1 D.Gn g1, .int .i64 D.mt, .string D.key, .string D.body, .int .i64 D.i, .int .i64 D.tm, .slice none 0 0, .int .i64 D.tp, .int .i64 D.who, .int .i64 D.n]) := ((TB1.out.set_ 2 (.slice A1 D.Gn g1)).set_ 8 (.slice none 0 0))
  have BA2 : Hid (Below w.heap.size w ((w2.setCell ⟨w.heap.size + 1 + 1, 2, none⟩ (.slice A1 D.Gn g1)).setCell ⟨w.heap.size + 1 + 1, 8, none⟩ (.slice none 0 0))) := (Below.setCell (Below.setCell BB1.out (by show w.heap.size ≤ w.heap.size + 1 + 1; omega) (.slice A1 D.Gn g1)) (by show w.heap.size ≤ w.heap.size + 1 + 1; omega) (.slice none 0 0))
  have OA2 : Hid (World.ownsRow ((w2.setCell ⟨w.heap.size + 1 + 1, 2, none⟩ (.slice A1 D.Gn g1)).setCell ⟨w.heap.size + 1 + 1, 8, none⟩ (.slice none 0 0)) w.heap.size 3 1 (.slice A1 D.Gn g1) D.Gn (ci D.gs)) := own_setC (own_setC O1.out TB1.out (by decide) 2 (.slice A1 D.Gn g1)) (TB1.out.set_ 2 (.slice A1 D.Gn g1)) (by decide) 8 (.slice none 0 0)
  generalize ((w2.setCell ⟨w.heap.size + 1 + 1, 2, none⟩ (.slice A1 D.Gn g1)).setCell ⟨w.heap.size + 1 + 1, 8, none⟩ (.slice none 0 0)) = X2 at *
  clear KB1 RB1 TB1 BB1 O1
  have c0 := KA2.out.cell 0
  have t0 := TA2.out.cell 0
  have c1 := KA2.out.cell 1
  have t1 := TA2.out.cell 1
  have c2 := KA2.out.cell 2
  have t2 := TA2.out.cell 2
  have c3 := KA2.out.cell 3
  have t3 := TA2.out.cell 3
  have c4 := KA2.out.cell 4
  have t4 := TA2.out.cell 4
  have c5 := KA2.out.cell 5
  have t5 := TA2.out.cell 5
  have c6 := KA2.out.cell 6
  have t6 := TA2.out.cell 6
  have c7 := KA2.out.cell 7
  have t7 := TA2.out.cell 7
  have c8 := KA2.out.cell 8
  have t8 := TA2.out.cell 8
  have c9 := KA2.out.cell 9
  have t9 := TA2.out.cell 9
  have c10 := KA2.out.cell 10
  have t10 := TA2.out.cell 10
  have c11 := KA2.out.cell 11
  have t11 := TA2.out.cell 11
  have tf := TA2.out.frozen
  have HDX := Lib.hid (HD0.out.below BA2.out)
  go_wp2_with (at_builtin; refine app_is rfl (.tmp 18) (.tmp 20) rfl w.heap.size (.slice none 0 0) 0 [] rfl (World.ownsRow_nil _ _ _ _) w.heap.size D.MA D.Mn D.Mc D.mem rfl HDX.out.rm ?d1 ?d2 ?_)
  case d1 => omega
  case d2 => exact BA2.out.size
  intro v2 w4 o2 hg2
  obtain ⟨A2, g2, rfl, -, -, -⟩ := own_form o2
  have bb2 : Below X2.heap.size X2 w4 := hg2.below (Nat.le_refl _) (by simp [Value.ownBlock])
  have RB2 := Lib.hid (RA2.out.below bb2 RA2.out.lt)
  have TB2 := Lib.hid (TA2.out.below bb2 TA2.out.lt)
  have BB2 := Lib.hid (BA2.out.trans (bb2.mono BA2.out.size))
  have O2 := Lib.hid o2
  have OB2 := Lib.hid (own_kept OA2.out bb2)
  clear o2 hg2 bb2 HDX KA2 RA2 TA2 BA2 OA2
  clear tf c0 t0 c1 t1 c2 t2 c3 t3 c4 t4 c5 t5 c6 t6 c7 t7 c8 t8 c9 t9 c10 t10 c11 t11
  have tf := TB2.out.frozen
  have t2 := TB2.out.cell 8
  go_upto_region 6 with fail
  clear t2 tf
  have R3 : Hid (Blk (w4.setCell ⟨w.heap.size + 1 + 1, 8, none⟩ (.slice A2 D.Mn g2)) (w.heap.size + 1) 26 #[.int .u8 0, .int .i64 0, .slice none 0 0, .int .i64 0, .string ⟨#[]⟩, .string ⟨#[]⟩, .int .i64 0, .int .i64 0, .slice none 0 0, .int .i64 0, .int .i64 0, .int .i64 0]) := (Blk.far RB2.out (p := ⟨w.heap.size + 1 + 1, 8, none⟩) (by show w.heap.size + 1 ≠ w.heap.size + 1 + 1; omega) (.slice A2 D.Mn g2))
  have T3 : Hid (Blk (w4.setCell ⟨w.heap.size + 1 + 1, 8, none⟩ (.slice A2 D.Mn g2)) (w.heap.size + 1 + 1) 26 #[.int .u8 D.k, .int .i64 D.mi, .slice A1 D.Gn g1, .int .i64 D.mt, .string D.key, .string D.body, .int .i64 D.i, .int .i64 D.tm, .slice A2 D.Mn g2, .int .i64 D.tp, .int .i64 D.who, .int .i64 D.n]) := (TB2.out.set_ 8 (.slice A2 D.Mn g2))
  have B3 : Hid (Below w.heap.size w (w4.setCell ⟨w.heap.size + 1 + 1, 8, none⟩ (.slice A2 D.Mn g2))) := (Below.setCell BB2.out (by show w.heap.size ≤ w.heap.size + 1 + 1; omega) (.slice A2 D.Mn g2))
  have OG : Hid (World.ownsRow (w4.setCell ⟨w.heap.size + 1 + 1, 8, none⟩ (.slice A2 D.Mn g2)) w.heap.size 3 1 (.slice A1 D.Gn g1) D.Gn (ci D.gs)) := own_setC OB2.out TB2.out (by decide) 8 (.slice A2 D.Mn g2)
  have OM : Hid (World.ownsRow (w4.setCell ⟨w.heap.size + 1 + 1, 8, none⟩ (.slice A2 D.Mn g2)) w.heap.size 3 1 (.slice A2 D.Mn g2) D.Mn (ci D.mem)) := own_setC O2.out TB2.out (by decide) 8 (.slice A2 D.Mn g2)
  generalize (w4.setCell ⟨w.heap.size + 1 + 1, 8, none⟩ (.slice A2 D.Mn g2)) = X3 at *
  clear RB2 TB2 BB2 O2 OB2
  have t0 := T3.out.cell 0
  have r0 := R3.out.cell 0
  have t1 := T3.out.cell 1
  have r1 := R3.out.cell 1
  have t2 := T3.out.cell 2
  have r2 := R3.out.cell 2
  have t3 := T3.out.cell 3
  have r3 := R3.out.cell 3
  have t4 := T3.out.cell 4
  have r4 := R3.out.cell 4
  have t5 := T3.out.cell 5
  have r5 := R3.out.cell 5
  have t6 := T3.out.cell 6
  have r6 := R3.out.cell 6
  have t7 := T3.out.cell 7
  have r7 := R3.out.cell 7
  have t8 := T3.out.cell 8
  have r8 := R3.out.cell 8
  have t9 := T3.out.cell 9
  have r9 := R3.out.cell 9
  have t10 := T3.out.cell 10
  have r10 := R3.out.cell 10
  have t11 := T3.out.cell 11
  have r11 := R3.out.cell 11
  have rf := R3.out.frozen
  go_wp2_with fail
  refine bodyPost_ret (v := .agg #[.int .u8 D.k, .int .i64 D.mi, .slice A1 D.Gn g1, .int .i64 D.mt, .string D.key, .string D.body, .int .i64 D.i, .int .i64 D.tm, .slice A2 D.Mn g2, .int .i64 D.tp, .int .i64 D.who, .int .i64 D.n]) (by simp [results, Try.results13, go_sem, r0, r1, r2, r3, r4, r5, r6, r7, r8, r9, r10, r11]) rfl ⟨⟨{ D with GA := A1, Gc := g1, MA := A2, Mc := g2 }, rfl, rfl, ?_, rfl, rfl⟩, below_set12 B3.out (by omega) _ _ _ _ _ _ _ _ _ _ _ _⟩
  have og := (own_setC (own_setC (own_setC (own_setC (own_setC (own_setC (own_setC (own_setC (own_setC (own_setC (own_setC (own_setC OG.out R3.out (by decide) 0 (.int .u8 D.k)) (R3.out.set_ 0 (.int .u8 D.k)) (by decide) 1 (.int .i64 D.mi)) ((R3.out.set_ 0 (.int .u8 D.k)).set_ 1 (.int .i64 D.mi)) (by decide) 2 (.slice A1 D.Gn g1)) (((R3.out.set_ 0 (.int .u8 D.k)).set_ 1 (.int .i64 D.mi)).set_ 2 (.slice A1 D.Gn g1)) (by decide) 3 (.int .i64 D.mt)) ((((R3.out.set_ 0 (.int .u8 D.k)).set_ 1 (.int .i64 D.mi)).set_ 2 (.slice A1 D.Gn g1)).set_ 3 (.int .i64 D.mt)) (by decide) 4 (.string D.key)) (((((R3.out.set_ 0 (.int .u8 D.k)).set_ 1 (.int .i64 D.mi)).set_ 2 (.slice A1 D.Gn g1)).set_ 3 (.int .i64 D.mt)).set_ 4 (.string D.key)) (by decide) 5 (.string D.body)) ((((((R3.out.set_ 0 (.int .u8 D.k)).set_ 1 (.int .i64 D.mi)).set_ 2 (.slice A1 D.Gn g1)).set_ 3 (.int .i64 D.mt)).set_ 4 (.string D.key)).set_ 5 (.string D.body)) (by decide) 6 (.int .i64 D.i)) (((((((R3.out.set_ 0 (.int .u8 D.k)).set_ 1 (.int .i64 D.mi)).set_ 2 (.slice A1 D.Gn g1)).set_ 3 (.int .i64 D.mt)).set_ 4 (.string D.key)).set_ 5 (.string D.body)).set_ 6 (.int .i64 D.i)) (by decide) 7 (.int .i64 D.tm)) ((((((((R3.out.set_ 0 (.int .u8 D.k)).set_ 1 (.int .i64 D.mi)).set_ 2 (.slice A1 D.Gn g1)).set_ 3 (.int .i64 D.mt)).set_ 4 (.string D.key)).set_ 5 (.string D.body)).set_ 6 (.int .i64 D.i)).set_ 7 (.int .i64 D.tm)) (by decide) 8 (.slice A2 D.Mn g2)) (((((((((R3.out.set_ 0 (.int .u8 D.k)).set_ 1 (.int .i64 D.mi)).set_ 2 (.slice A1 D.Gn g1)).set_ 3 (.int .i64 D.mt)).set_ 4 (.string D.key)).set_ 5 (.string D.body)).set_ 6 (.int .i64 D.i)).set_ 7 (.int .i64 D.tm)).set_ 8 (.slice A2 D.Mn g2)) (by decide) 9 (.int .i64 D.tp)) ((((((((((R3.out.set_ 0 (.int .u8 D.k)).set_ 1 (.int .i64 D.mi)).set_ 2 (.slice A1 D.Gn g1)).set_ 3 (.int .i64 D.mt)).set_ 4 (.string D.key)).set_ 5 (.string D.body)).set_ 6 (.int .i64 D.i)).set_ 7 (.int .i64 D.tm)).set_ 8 (.slice A2 D.Mn g2)).set_ 9 (.int .i64 D.tp)) (by decide) 10 (.int .i64 D.who)) (((((((((((R3.out.set_ 0 (.int .u8 D.k)).set_ 1 (.int .i64 D.mi)).set_ 2 (.slice A1 D.Gn g1)).set_ 3 (.int .i64 D.mt)).set_ 4 (.string D.key)).set_ 5 (.string D.body)).set_ 6 (.int .i64 D.i)).set_ 7 (.int .i64 D.tm)).set_ 8 (.slice A2 D.Mn g2)).set_ 9 (.int .i64 D.tp)).set_ 10 (.int .i64 D.who)) (by decide) 11 (.int .i64 D.n))
  have om := (own_setC (own_setC (own_setC (own_setC (own_setC (own_setC (own_setC (own_setC (own_setC (own_setC (own_setC (own_setC OM.out R3.out (by decide) 0 (.int .u8 D.k)) (R3.out.set_ 0 (.int .u8 D.k)) (by decide) 1 (.int .i64 D.mi)) ((R3.out.set_ 0 (.int .u8 D.k)).set_ 1 (.int .i64 D.mi)) (by decide) 2 (.slice A1 D.Gn g1)) (((R3.out.set_ 0 (.int .u8 D.k)).set_ 1 (.int .i64 D.mi)).set_ 2 (.slice A1 D.Gn g1)) (by decide) 3 (.int .i64 D.mt)) ((((R3.out.set_ 0 (.int .u8 D.k)).set_ 1 (.int .i64 D.mi)).set_ 2 (.slice A1 D.Gn g1)).set_ 3 (.int .i64 D.mt)) (by decide) 4 (.string D.key)) (((((R3.out.set_ 0 (.int .u8 D.k)).set_ 1 (.int .i64 D.mi)).set_ 2 (.slice A1 D.Gn g1)).set_ 3 (.int .i64 D.mt)).set_ 4 (.string D.key)) (by decide) 5 (.string D.body)) ((((((R3.out.set_ 0 (.int .u8 D.k)).set_ 1 (.int .i64 D.mi)).set_ 2 (.slice A1 D.Gn g1)).set_ 3 (.int .i64 D.mt)).set_ 4 (.string D.key)).set_ 5 (.string D.body)) (by decide) 6 (.int .i64 D.i)) (((((((R3.out.set_ 0 (.int .u8 D.k)).set_ 1 (.int .i64 D.mi)).set_ 2 (.slice A1 D.Gn g1)).set_ 3 (.int .i64 D.mt)).set_ 4 (.string D.key)).set_ 5 (.string D.body)).set_ 6 (.int .i64 D.i)) (by decide) 7 (.int .i64 D.tm)) ((((((((R3.out.set_ 0 (.int .u8 D.k)).set_ 1 (.int .i64 D.mi)).set_ 2 (.slice A1 D.Gn g1)).set_ 3 (.int .i64 D.mt)).set_ 4 (.string D.key)).set_ 5 (.string D.body)).set_ 6 (.int .i64 D.i)).set_ 7 (.int .i64 D.tm)) (by decide) 8 (.slice A2 D.Mn g2)) (((((((((R3.out.set_ 0 (.int .u8 D.k)).set_ 1 (.int .i64 D.mi)).set_ 2 (.slice A1 D.Gn g1)).set_ 3 (.int .i64 D.mt)).set_ 4 (.string D.key)).set_ 5 (.string D.body)).set_ 6 (.int .i64 D.i)).set_ 7 (.int .i64 D.tm)).set_ 8 (.slice A2 D.Mn g2)) (by decide) 9 (.int .i64 D.tp)) ((((((((((R3.out.set_ 0 (.int .u8 D.k)).set_ 1 (.int .i64 D.mi)).set_ 2 (.slice A1 D.Gn g1)).set_ 3 (.int .i64 D.mt)).set_ 4 (.string D.key)).set_ 5 (.string D.body)).set_ 6 (.int .i64 D.i)).set_ 7 (.int .i64 D.tm)).set_ 8 (.slice A2 D.Mn g2)).set_ 9 (.int .i64 D.tp)) (by decide) 10 (.int .i64 D.who)) (((((((((((R3.out.set_ 0 (.int .u8 D.k)).set_ 1 (.int .i64 D.mi)).set_ 2 (.slice A1 D.Gn g1)).set_ 3 (.int .i64 D.mt)).set_ 4 (.string D.key)).set_ 5 (.string D.body)).set_ 6 (.int .i64 D.i)).set_ 7 (.int .i64 D.tm)).set_ 8 (.slice A2 D.Mn g2)).set_ 9 (.int .i64 D.tp)).set_ 10 (.int .i64 D.who)) (by decide) 11 (.int .i64 D.n))
  have cg := own_cap OG.out
  have cm := own_cap OM.out
  unfold maxLen at cg cm
  exact { HD0.out with rg := Reads.of_own og, rm := Reads.of_own om, gc := cg.1, gm := cg.2, mc := cm.1, mm := cm.2 }
end Go.Proofs.Ytaoekfgeggopbaa
