/-
  Layer 12: CommandWrites' walk.
-/
import Derived.Test.YtaoekfgeggopbaaCmdTwin
import Derived.Test.YtaoekfgeggopbaaCmdTextW
import Derived.Test.YtaoekfgeggopbaaCmdTextR
import Derived.Test.YtaoekfgeggopbaaCmdIn
import Derived.Test.YtaoekfgeggopbaaQuiet
namespace Go.Proofs.Ytaoekfgeggopbaa
open Go.RowKit Go.Sort Go.BigFrame
set_option maxHeartbeats 8000000
set_option maxRecDepth 100000
set_option linter.unusedVariables false
set_option linter.unusedSimpArgs false

theorem CmdAt.cur {W cur : World} {D : HC} (h : CmdAt W W.heap.size D) (hb : Below W.heap.size W cur) : CmdAt cur cur.heap.size D := h.up hb

theorem commandWrites_walk (D O : HC) (w : World) (hD : CmdAt w w.heap.size D) (hO : CmdAt w w.heap.size O) :
    Calls Try.prog 3 #[.agg #[.int .u8 D.k, .int .i64 D.mi, .slice D.GA D.Gn D.Gc, .int .i64 D.mt, .string D.key, .string D.body, .int .i64 D.i, .int .i64 D.tm, .slice D.MA D.Mn D.Mc, .int .i64 D.tp, .int .i64 D.who, .int .i64 D.n], .agg #[.int .u8 O.k, .int .i64 O.mi, .slice O.GA O.Gn O.Gc, .int .i64 O.mt, .string O.key, .string O.body, .int .i64 O.i, .int .i64 O.tm, .slice O.MA O.Mn O.Mc, .int .i64 O.tp, .int .i64 O.who, .int .i64 O.n]] w fun e w' => e = .returned (.bool true) ∧ Below w.heap.size w w' := by
  obtain ⟨W0, hW⟩ : ∃ W0, (w.alloc (.cells #[.int .u8 D.k, .int .i64 D.mi, .slice D.GA D.Gn D.Gc, .int .i64 D.mt, .string D.key, .string D.body, .int .i64 D.i, .int .i64 D.tm, .slice D.MA D.Mn D.Mc, .int .i64 D.tp, .int .i64 D.who, .int .i64 D.n] 26)).alloc (.cells #[.int .u8 O.k, .int .i64 O.mi, .slice O.GA O.Gn O.Gc, .int .i64 O.mt, .string O.key, .string O.body, .int .i64 O.i, .int .i64 O.tm, .slice O.MA O.Mn O.Mc, .int .i64 O.tp, .int .i64 O.who, .int .i64 O.n] 26) = W0 := ⟨_, rfl⟩
  have KD : Hid (Blk W0 w.heap.size 26 #[.int .u8 D.k, .int .i64 D.mi, .slice D.GA D.Gn D.Gc, .int .i64 D.mt, .string D.key, .string D.body, .int .i64 D.i, .int .i64 D.tm, .slice D.MA D.Mn D.Mc, .int .i64 D.tp, .int .i64 D.who, .int .i64 D.n]) := by rw [Hid, ← hW]; exact (Blk.new w _ _).alloc _
  have KO : Hid (Blk W0 (w.heap.size + 1) 26 #[.int .u8 O.k, .int .i64 O.mi, .slice O.GA O.Gn O.Gc, .int .i64 O.mt, .string O.key, .string O.body, .int .i64 O.i, .int .i64 O.tm, .slice O.MA O.Mn O.Mc, .int .i64 O.tp, .int .i64 O.who, .int .i64 O.n]) := by rw [Hid, ← hW]; exact Blk.newN (by simp) _ _
  have B0 : Hid (Below w.heap.size w W0) := by rw [Hid, ← hW]; exact ((Below.refl _ w).alloc (Nat.le_refl _) _).alloc (by simp) _
  have HD := Lib.hid ((hD.below B0.out).more B0.out.size)
  have HO := Lib.hid ((hO.below B0.out).more B0.out.size)
  have HW := Lib.hid hW
  clear hD hO hW
  go_enter Try.func3, Try.ntmps3
  go_upto_region 1 with fail
  rw [HW.out]
  have c0 := KD.out.cell 0
  have c1 := KD.out.cell 1
  have c2 := KD.out.cell 2
  have c3 := KD.out.cell 3
  have c4 := KD.out.cell 4
  have c5 := KD.out.cell 5
  have c6 := KD.out.cell 6
  have c7 := KD.out.cell 7
  have c8 := KD.out.cell 8
  have c9 := KD.out.cell 9
  have c10 := KD.out.cell 10
  have c11 := KD.out.cell 11
  go_wp2_with fail
  clear c0 c1 c2 c3 c4 c5 c6 c7 c8 c9 c10 c11
  refine (rgreat12_any D _ HD.out).mono ?_
  rintro e w1 ⟨⟨r, rfl, hg⟩, hb⟩
  replace KD := Lib.hid (KD.out.below hb KD.out.lt)
  replace KO := Lib.hid (KO.out.below hb KO.out.lt)
  replace HD := Lib.hid (HD.out.up hb)
  replace HO := Lib.hid (HO.out.up hb)
  replace B0 := Lib.hid (B0.out.trans (hb.mono B0.out.size))
  clear hb 
  cases r with
  | true =>
    go_wp2
    go_ret
    exact ⟨rfl, B0.out⟩
  | false =>
    have G := Lib.hid (hg rfl)
    clear hg
    have c0 := KO.out.cell 0
    have c1 := KO.out.cell 1
    have c2 := KO.out.cell 2
    have c3 := KO.out.cell 3
    have c4 := KO.out.cell 4
    have c5 := KO.out.cell 5
    have c6 := KO.out.cell 6
    have c7 := KO.out.cell 7
    have c8 := KO.out.cell 8
    have c9 := KO.out.cell 9
    have c10 := KO.out.cell 10
    have c11 := KO.out.cell 11
    go_wp2_with fail
    clear c0 c1 c2 c3 c4 c5 c6 c7 c8 c9 c10 c11
    refine (rgreat12_any O _ HO.out).mono ?_
    rintro e w2 ⟨⟨r, rfl, hg⟩, hb⟩
    replace KD := Lib.hid (KD.out.below hb KD.out.lt)
    replace KO := Lib.hid (KO.out.below hb KO.out.lt)
    replace HD := Lib.hid (HD.out.up hb)
    replace HO := Lib.hid (HO.out.up hb)
    replace B0 := Lib.hid (B0.out.trans (hb.mono B0.out.size))
    clear hb hg
    cases r with
    | true =>
      go_wp2
      go_ret
      exact ⟨rfl, B0.out⟩
    | false =>
      have c0 := KD.out.cell 0
      have c1 := KD.out.cell 1
      have c2 := KD.out.cell 2
      have c3 := KD.out.cell 3
      have c4 := KD.out.cell 4
      have c5 := KD.out.cell 5
      have c6 := KD.out.cell 6
      have c7 := KD.out.cell 7
      have c8 := KD.out.cell 8
      have c9 := KD.out.cell 9
      have c10 := KD.out.cell 10
      have c11 := KD.out.cell 11
      go_wp2_with fail
      clear c0 c1 c2 c3 c4 c5 c6 c7 c8 c9 c10 c11
      refine (rtwin12_any D _ HD.out G.out.1 G.out.2.1).mono ?_
      rintro e w3 ⟨⟨E, rfl, he, hE, heg, hem⟩, hb⟩
      replace KD := Lib.hid (KD.out.below hb KD.out.lt)
      replace KO := Lib.hid (KO.out.below hb KO.out.lt)
      replace HD := Lib.hid (HD.out.up hb)
      replace HO := Lib.hid (HO.out.up hb)
      replace B0 := Lib.hid (B0.out.trans (hb.mono B0.out.size))
      clear hb 
      have EC := Lib.hid he
      have HE := Lib.hid hE
      clear he hE heg hem G
      have KE := Lib.hid (Blk.new w3 26 #[.int .u8 E.k, .int .i64 E.mi, .slice E.GA E.Gn E.Gc, .int .i64 E.mt, .string E.key, .string E.body, .int .i64 E.i, .int .i64 E.tm, .slice E.MA E.Mn E.Mc, .int .i64 E.tp, .int .i64 E.who, .int .i64 E.n])
      replace HE := Lib.hid (HE.out.alloc (.cells #[.int .u8 E.k, .int .i64 E.mi, .slice E.GA E.Gn E.Gc, .int .i64 E.mt, .string E.key, .string E.body, .int .i64 E.i, .int .i64 E.tm, .slice E.MA E.Mn E.Mc, .int .i64 E.tp, .int .i64 E.who, .int .i64 E.n] 26))
      replace HD := Lib.hid (HD.out.alloc (.cells #[.int .u8 E.k, .int .i64 E.mi, .slice E.GA E.Gn E.Gc, .int .i64 E.mt, .string E.key, .string E.body, .int .i64 E.i, .int .i64 E.tm, .slice E.MA E.Mn E.Mc, .int .i64 E.tp, .int .i64 E.who, .int .i64 E.n] 26))
      replace HO := Lib.hid (HO.out.alloc (.cells #[.int .u8 E.k, .int .i64 E.mi, .slice E.GA E.Gn E.Gc, .int .i64 E.mt, .string E.key, .string E.body, .int .i64 E.i, .int .i64 E.tm, .slice E.MA E.Mn E.Mc, .int .i64 E.tp, .int .i64 E.who, .int .i64 E.n] 26))
      replace KD := Lib.hid (KD.out.alloc (.cells #[.int .u8 E.k, .int .i64 E.mi, .slice E.GA E.Gn E.Gc, .int .i64 E.mt, .string E.key, .string E.body, .int .i64 E.i, .int .i64 E.tm, .slice E.MA E.Mn E.Mc, .int .i64 E.tp, .int .i64 E.who, .int .i64 E.n] 26))
      replace KO := Lib.hid (KO.out.alloc (.cells #[.int .u8 E.k, .int .i64 E.mi, .slice E.GA E.Gn E.Gc, .int .i64 E.mt, .string E.key, .string E.body, .int .i64 E.i, .int .i64 E.tm, .slice E.MA E.Mn E.Mc, .int .i64 E.tp, .int .i64 E.who, .int .i64 E.n] 26))
      replace B0 := Lib.hid (B0.out.alloc B0.out.size (.cells #[.int .u8 E.k, .int .i64 E.mi, .slice E.GA E.Gn E.Gc, .int .i64 E.mt, .string E.key, .string E.body, .int .i64 E.i, .int .i64 E.tm, .slice E.MA E.Mn E.Mc, .int .i64 E.tp, .int .i64 E.who, .int .i64 E.n] 26))
      obtain ⟨b, hb0⟩ : ∃ b, Cp.mayC D.cmd = b := ⟨_, rfl⟩
      have HB := Lib.hid hb0
      have HBE : Hid (Cp.mayC E.cmd = b) := by rw [Hid, EC.out]; exact hb0
      obtain ⟨U, hU⟩ : ∃ U, (if b = true then S (Cp.bytesC D.cmd) else (⟨#[]⟩ : ByteArray)) = U := ⟨_, rfl⟩
      have HU := Lib.hid hU
      have HUE : Hid ((if b = true then S (Cp.bytesC E.cmd) else (⟨#[]⟩ : ByteArray)) = U) := by rw [Hid, EC.out]; exact hU
      clear hb0 hU
      obtain ⟨gt, hgt⟩ : ∃ g, w3.heap.size = g := ⟨_, rfl⟩
      go_upto_region 4 with fail
      generalize w3.alloc (.cells #[.int .u8 E.k, .int .i64 E.mi, .slice E.GA E.Gn E.Gc, .int .i64 E.mt, .string E.key, .string E.body, .int .i64 E.i, .int .i64 E.tm, .slice E.MA E.Mn E.Mc, .int .i64 E.tp, .int .i64 E.who, .int .i64 E.n] 26) = W4 at *
      rw [hgt] at KE
      clear hgt
      have c0 := KE.out.cell 0
      have c1 := KE.out.cell 1
      have c2 := KE.out.cell 2
      have c3 := KE.out.cell 3
      have c4 := KE.out.cell 4
      have c5 := KE.out.cell 5
      have c6 := KE.out.cell 6
      have c7 := KE.out.cell 7
      have c8 := KE.out.cell 8
      have c9 := KE.out.cell 9
      have c10 := KE.out.cell 10
      have c11 := KE.out.cell 11
      go_wp2_with fail
      clear c0 c1 c2 c3 c4 c5 c6 c7 c8 c9 c10 c11
      refine (cwrite_any E _ HE.out b HBE.out U HUE.out).mono ?_
      rintro e w5 ⟨rfl, hb⟩
      replace KD := Lib.hid (KD.out.below hb KD.out.lt)
      replace KO := Lib.hid (KO.out.below hb KO.out.lt)
      replace KE := Lib.hid (KE.out.below hb KE.out.lt)
      replace HD := Lib.hid (HD.out.up hb)
      replace HO := Lib.hid (HO.out.up hb)
      replace HE := Lib.hid (HE.out.up hb)
      replace B0 := Lib.hid (B0.out.trans (hb.mono B0.out.size))
      clear hb 
      have c0 := KD.out.cell 0
      have c1 := KD.out.cell 1
      have c2 := KD.out.cell 2
      have c3 := KD.out.cell 3
      have c4 := KD.out.cell 4
      have c5 := KD.out.cell 5
      have c6 := KD.out.cell 6
      have c7 := KD.out.cell 7
      have c8 := KD.out.cell 8
      have c9 := KD.out.cell 9
      have c10 := KD.out.cell 10
      have c11 := KD.out.cell 11
      go_wp2_with fail
      clear c0 c1 c2 c3 c4 c5 c6 c7 c8 c9 c10 c11
      refine (rwrite12_any D _ HD.out b HB.out U HU.out).mono ?_
      rintro e w6 ⟨rfl, hb⟩
      replace KD := Lib.hid (KD.out.below hb KD.out.lt)
      replace KO := Lib.hid (KO.out.below hb KO.out.lt)
      replace KE := Lib.hid (KE.out.below hb KE.out.lt)
      replace HD := Lib.hid (HD.out.up hb)
      replace HO := Lib.hid (HO.out.up hb)
      replace HE := Lib.hid (HE.out.up hb)
      replace B0 := Lib.hid (B0.out.trans (hb.mono B0.out.size))
      clear hb 
      go_upto_region 6 with fail
      obtain ⟨mb, hmb⟩ : ∃ b, Cp.msgB D.cmd = b := ⟨_, rfl⟩
      have F1 := Lib.hid (qb (W := w6) fun cur hc => ccheck_any E cur (HE.out.up hc) b HBE.out)
      have F2 := Lib.hid (qb (W := w6) fun cur hc => rcheck12_any D cur (HD.out.up hc) b HB.out)
      have F3 := Lib.hid (qb (W := w6) fun cur hc => ccheckMsg_any E cur (HE.out.up hc) mb (by rw [EC.out]; exact hmb))
      have F4 := Lib.hid (qb (W := w6) fun cur hc => rcheckMsg_any D cur (HD.out.up hc) mb hmb)
      clear hmb
      obtain ⟨x1, hx1⟩ : ∃ x, errK b = x := ⟨_, rfl⟩
      obtain ⟨x2, hx2⟩ : ∃ x, errK mb = x := ⟨_, rfl⟩
      rw [hx1] at F1 F2
      rw [hx2] at F3 F4
      rw [hx1]
      clear hx1 hx2
      have c0 := cell_regrown (KD.out.cell 0)
      have c1 := cell_regrown (KD.out.cell 1)
      have c2 := cell_regrown (KD.out.cell 2)
      have c3 := cell_regrown (KD.out.cell 3)
      have c4 := cell_regrown (KD.out.cell 4)
      have c5 := cell_regrown (KD.out.cell 5)
      have c6 := cell_regrown (KD.out.cell 6)
      have c7 := cell_regrown (KD.out.cell 7)
      have c8 := cell_regrown (KD.out.cell 8)
      have c9 := cell_regrown (KD.out.cell 9)
      have c10 := cell_regrown (KD.out.cell 10)
      have c11 := cell_regrown (KD.out.cell 11)
      have d0 := cell_regrown (KE.out.cell 0)
      have d1 := cell_regrown (KE.out.cell 1)
      have d2 := cell_regrown (KE.out.cell 2)
      have d3 := cell_regrown (KE.out.cell 3)
      have d4 := cell_regrown (KE.out.cell 4)
      have d5 := cell_regrown (KE.out.cell 5)
      have d6 := cell_regrown (KE.out.cell 6)
      have d7 := cell_regrown (KE.out.cell 7)
      have d8 := cell_regrown (KE.out.cell 8)
      have d9 := cell_regrown (KE.out.cell 9)
      have d10 := cell_regrown (KE.out.cell 10)
      have d11 := cell_regrown (KE.out.cell 11)
      refine wp_region_quiet_below (by kernel_rfl) (by kernel_rfl) ?_
      repeat (go_big_quiet_step ((first | with_reducible exact F1.out _ _ | with_reducible exact F2.out _ _ | with_reducible exact F3.out _ _ | with_reducible exact F4.out _ _)))
      refine wpQuiet_nil ?_
      intro _ hw'
      obtain ⟨⟨dq, osq⟩, hw''⟩ := hw'
      subst hw''
      clear c0 c1 c2 c3 c4 c5 c6 c7 c8 c9 c10 c11 d0 d1 d2 d3 d4 d5 d6 d7 d8 d9 d10 d11
      have bq := below_regrown w6 dq osq
      replace KD := Lib.hid (KD.out.below bq KD.out.lt)
      replace KO := Lib.hid (KO.out.below bq KO.out.lt)
      replace KE := Lib.hid (KE.out.below bq KE.out.lt)
      replace HD := Lib.hid (HD.out.up bq)
      replace HO := Lib.hid (HO.out.up bq)
      replace HE := Lib.hid (HE.out.up bq)
      replace B0 := Lib.hid (B0.out.trans (bq.mono B0.out.size))
      clear F1 F2 F3 F4 bq
      generalize grow (redrawn w6 dq) osq = w7 at *
      go_upto_region 7 with fail
      obtain ⟨sb, hsb⟩ : ∃ b, Cp.sameC D.cmd O.cmd = b := ⟨_, rfl⟩
      obtain ⟨nb, hnb⟩ : ∃ b, Cp.sameM D.cmd O.cmd = b := ⟨_, rfl⟩
      have SE : Hid (Cp.sameC E.cmd D.cmd = true) := by rw [Hid, EC.out]; exact Cp.sameC_refl _
      have F1 := Lib.hid (qb (W := w7) fun cur hc => csame_any D O cur (HD.out.up hc) (HO.out.up hc) sb hsb)
      have F2 := Lib.hid (qb (W := w7) fun cur hc => rsame12_any D O cur (HD.out.up hc) (HO.out.up hc) sb hsb)
      have F3 := Lib.hid (qb (W := w7) fun cur hc => csame_any E D cur (HE.out.up hc) (HD.out.up hc) true SE.out)
      have F4 := Lib.hid (qb (W := w7) fun cur hc => csameMsg_any D O cur (HD.out.up hc) (HO.out.up hc) nb hnb)
      have F5 := Lib.hid (qb (W := w7) fun cur hc => rsameMsg_any D O cur (HD.out.up hc) (HO.out.up hc) nb hnb)
      clear hsb hnb
      have c0 := cell_regrown (KD.out.cell 0)
      have c1 := cell_regrown (KD.out.cell 1)
      have c2 := cell_regrown (KD.out.cell 2)
      have c3 := cell_regrown (KD.out.cell 3)
      have c4 := cell_regrown (KD.out.cell 4)
      have c5 := cell_regrown (KD.out.cell 5)
      have c6 := cell_regrown (KD.out.cell 6)
      have c7 := cell_regrown (KD.out.cell 7)
      have c8 := cell_regrown (KD.out.cell 8)
      have c9 := cell_regrown (KD.out.cell 9)
      have c10 := cell_regrown (KD.out.cell 10)
      have c11 := cell_regrown (KD.out.cell 11)
      have d0 := cell_regrown (KE.out.cell 0)
      have d1 := cell_regrown (KE.out.cell 1)
      have d2 := cell_regrown (KE.out.cell 2)
      have d3 := cell_regrown (KE.out.cell 3)
      have d4 := cell_regrown (KE.out.cell 4)
      have d5 := cell_regrown (KE.out.cell 5)
      have d6 := cell_regrown (KE.out.cell 6)
      have d7 := cell_regrown (KE.out.cell 7)
      have d8 := cell_regrown (KE.out.cell 8)
      have d9 := cell_regrown (KE.out.cell 9)
      have d10 := cell_regrown (KE.out.cell 10)
      have d11 := cell_regrown (KE.out.cell 11)
      have o0 := cell_regrown (KO.out.cell 0)
      have o1 := cell_regrown (KO.out.cell 1)
      have o2 := cell_regrown (KO.out.cell 2)
      have o3 := cell_regrown (KO.out.cell 3)
      have o4 := cell_regrown (KO.out.cell 4)
      have o5 := cell_regrown (KO.out.cell 5)
      have o6 := cell_regrown (KO.out.cell 6)
      have o7 := cell_regrown (KO.out.cell 7)
      have o8 := cell_regrown (KO.out.cell 8)
      have o9 := cell_regrown (KO.out.cell 9)
      have o10 := cell_regrown (KO.out.cell 10)
      have o11 := cell_regrown (KO.out.cell 11)
      refine wp_region_quiet_below (by kernel_rfl) (by kernel_rfl) ?_
      repeat (go_big_quiet_step ((first | with_reducible exact F1.out _ _ | with_reducible exact F2.out _ _ | with_reducible exact F3.out _ _ | with_reducible exact F4.out _ _ | with_reducible exact F5.out _ _)))
      refine wpQuiet_nil ?_
      intro _ hw'
      obtain ⟨⟨dq, osq⟩, hw''⟩ := hw'
      subst hw''
      clear c0 c1 c2 c3 c4 c5 c6 c7 c8 c9 c10 c11 d0 d1 d2 d3 d4 d5 d6 d7 d8 d9 d10 d11 o0 o1 o2 o3 o4 o5 o6 o7 o8 o9 o10 o11
      have bq := below_regrown w7 dq osq
      replace KD := Lib.hid (KD.out.below bq KD.out.lt)
      replace KE := Lib.hid (KE.out.below bq KE.out.lt)
      replace HD := Lib.hid (HD.out.up bq)
      replace HE := Lib.hid (HE.out.up bq)
      replace B0 := Lib.hid (B0.out.trans (bq.mono B0.out.size))
      clear F1 F2 F3 F4 F5 bq
      generalize grow (redrawn w7 dq) osq = w8 at *
      have c0 := KD.out.cell 0
      have c1 := KD.out.cell 1
      have c2 := KD.out.cell 2
      have c3 := KD.out.cell 3
      have c4 := KD.out.cell 4
      have c5 := KD.out.cell 5
      have c6 := KD.out.cell 6
      have c7 := KD.out.cell 7
      have c8 := KD.out.cell 8
      have c9 := KD.out.cell 9
      have c10 := KD.out.cell 10
      have c11 := KD.out.cell 11
      have d0 := KE.out.cell 0
      have d1 := KE.out.cell 1
      have d2 := KE.out.cell 2
      have d3 := KE.out.cell 3
      have d4 := KE.out.cell 4
      have d5 := KE.out.cell 5
      have d6 := KE.out.cell 6
      have d7 := KE.out.cell 7
      have d8 := KE.out.cell 8
      have d9 := KE.out.cell 9
      have d10 := KE.out.cell 10
      have d11 := KE.out.cell 11
      go_wp2_with fail
      refine (rsame12_any E D _ HE.out HD.out true SE.out).mono ?_
      rintro e w9 ⟨rfl, hb⟩
      replace B0 := Lib.hid (B0.out.trans (hb.mono B0.out.size))
      clear hb c0 c1 c2 c3 c4 c5 c6 c7 c8 c9 c10 c11 d0 d1 d2 d3 d4 d5 d6 d7 d8 d9 d10 d11
      go_wp2
      go_ret
      exact ⟨rfl, B0.out⟩
end Go.Proofs.Ytaoekfgeggopbaa
