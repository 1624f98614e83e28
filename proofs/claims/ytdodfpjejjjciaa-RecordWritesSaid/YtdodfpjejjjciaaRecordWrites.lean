/-
  Layer 10: RecordWrites' walk: package record and the reference, call by call.
-/
import Derived.Test.YtdodfpjejjjciaaRecordLaws
import Derived.Test.YtdodfpjejjjciaaRecordRefR
import Derived.Test.YtdodfpjejjjciaaQuiet
namespace Go.Proofs.Ytdodfpjejjjciaa
open Go.RowKit Bal Go.Sort Go.BigFrame
set_option maxHeartbeats 16000000
set_option maxRecDepth 100000
set_option linter.unusedVariables false
set_option linter.unusedSimpArgs false

theorem rread10_no (s : ByteArray) (w : World) (hs : s.size ≤ 1000000) (h : Rp.readR s.data.toList = none) :
    Calls Try.prog 21 #[.string s] w fun e w' => e = .returned (.tuple #[.agg #[.int .u8 0, .int .i64 0, .int .i64 0, .int .i64 0, .string ⟨#[]⟩], .int .i64 8]) ∧ Below w.heap.size w w' := by
  have := rread10_any s w hs
  rw [Rp.rread_eq, h] at this
  exact this
theorem rread10_yes (s : ByteArray) (k g t b : Int) (v : List UInt8) (w : World) (hs : s.size ≤ 1000000) (h : Rp.readR s.data.toList = some ⟨k, g, t, b, v⟩) :
    Calls Try.prog 21 #[.string s] w fun e w' => e = .returned (.tuple #[.agg #[.int .u8 k, .int .i64 g, .int .i64 t, .int .i64 b, .string (S v)], .int .i64 0]) ∧ Below w.heap.size w w' := by
  have := rread10_any s w hs
  rw [Rp.rread_eq, h] at this
  exact this

theorem recordWrites_walk (k g s b : Int) (v : ByteArray) (t : ByteArray) (w : World) (hr : IsRec k g s b v) (ht : t.size ≤ maxLen) :
    Calls Try.prog 5 #[.agg #[.int .u8 k, .int .i64 g, .int .i64 s, .int .i64 b, .string v], .string t] w fun e w' => e = .returned (.bool true) ∧ Below w.heap.size w w' := by
  obtain ⟨hv, ⟨k0, k1⟩, ⟨g0, g1⟩, ⟨s0, s1⟩, ⟨b0, b1⟩⟩ := hr
  unfold maxLen at hv ht
  by_cases z0 : (10000 : Int) < (v.size : Int)
  · go_enter Try.func5, Try.ntmps5
    go_wp2
    go_ret
    exact ⟨rfl, (Below.refl _ _).alloc (Nat.le_refl _) _⟩
  by_cases z1 : (10000 : Int) < (t.size : Int)
  · go_enter Try.func5, Try.ntmps5
    go_wp2
    go_ret
    exact ⟨rfl, (Below.refl _ _).alloc (Nat.le_refl _) _⟩
  cases hm : Rp.mayB k g s b v.size with
  | false =>
    have HM := Lib.hid hm
    clear hm
    cases hq : Rp.readR t.data.toList with
    | none =>
      have R1 := Lib.hid (fun w => rread_no t w (by omega) hq)
      have R2 := Lib.hid (fun w => rread10_no t w (by omega) hq)
      clear hq
      have W1 := Lib.hid (fun w => rwrite_bad k g s b v w (by omega) b0 b1 HM.out)
      have W2 := Lib.hid (fun w => rwrite10_bad k g s b v w (by omega) HM.out)
      have hq1 : ∀ w, (binOp .eql 36 (.agg #[.int .u8 0, .int .i64 0, .int .i64 0, .int .i64 0, .string ⟨#[]⟩]) (.agg #[.int .u8 0, .int .i64 0, .int .i64 0, .int .i64 0, .string ⟨#[]⟩])).run Try.prog w = .ok (.bool true) w := fun w => by rw [rec_eq, rec_self]
      have hq2 : ∀ w, (Op.equalIn 10000 36 (.agg #[.int .u8 0, .int .i64 0, .int .i64 0, .int .i64 0, .string ⟨#[]⟩]) (.agg #[.int .u8 0, .int .i64 0, .int .i64 0, .int .i64 0, .string ⟨#[]⟩])).run Try.prog w = .ok true w := fun w => by rw [rec_eqIn, rec_self]
      go_enter Try.func5, Try.ntmps5
      go_wp2_with fail
      refine (W1.out _).mono ?_
      rintro e w1 ⟨rfl, hb⟩
      have K0 := Lib.hid (Blk.below (Blk.new w 36 #[.int .u8 k, .int .i64 g, .int .i64 s, .int .i64 b, .string v]) hb (by simp))
      have B1 := Lib.hid (below_of_alloc (hb.mono (B' := w.heap.size) (by simp)) (Nat.le_refl _))
      have c0 := K0.out.cell 0
      have c1 := K0.out.cell 1
      have c2 := K0.out.cell 2
      have c3 := K0.out.cell 3
      have c4 := K0.out.cell 4
      clear hb
      go_wp2_with fail
      refine (W2.out _).mono ?_
      rintro e w2 ⟨rfl, hb⟩
      have K0 := Lib.hid (K0.out.below hb K0.out.lt)
      have B2 := Lib.hid (then_ B1.out hb)
      clear hb c0 c1 c2 c3 c4
      go_wp2_with fail
      refine (R1.out _).mono ?_
      rintro e w3 ⟨rfl, hb⟩
      have K0 := Lib.hid ((K0.out.below hb K0.out.lt).alloc (.cells #[.int .u8 0, .int .i64 0, .int .i64 0, .int .i64 0, .string ⟨#[]⟩] 36))
      have B3 := Lib.hid ((then_ B2.out hb).alloc (then_ B2.out hb).size (.cells #[.int .u8 0, .int .i64 0, .int .i64 0, .int .i64 0, .string ⟨#[]⟩] 36))
      have KX := Lib.hid (Blk.new w3 36 #[.int .u8 0, .int .i64 0, .int .i64 0, .int .i64 0, .string ⟨#[]⟩])
      clear hb
      go_wp2_with fail
      refine (R2.out _).mono ?_
      rintro e w4 ⟨rfl, hb⟩
      have K0 := Lib.hid ((K0.out.below hb K0.out.lt).alloc (.cells #[.int .u8 0, .int .i64 0, .int .i64 0, .int .i64 0, .string ⟨#[]⟩] 36))
      have KX := Lib.hid ((KX.out.below hb KX.out.lt).alloc (.cells #[.int .u8 0, .int .i64 0, .int .i64 0, .int .i64 0, .string ⟨#[]⟩] 36))
      have B4 := Lib.hid ((then_ B3.out hb).alloc (then_ B3.out hb).size (.cells #[.int .u8 0, .int .i64 0, .int .i64 0, .int .i64 0, .string ⟨#[]⟩] 36))
      have KY := Lib.hid (Blk.new w4 36 #[.int .u8 0, .int .i64 0, .int .i64 0, .int .i64 0, .string ⟨#[]⟩])
      clear hb
      go_wp2_with fail
      generalize w4.alloc (.cells #[.int .u8 0, .int .i64 0, .int .i64 0, .int .i64 0, .string ⟨#[]⟩] 36) = W at *
      have FC := Lib.hid (qb (W := W) fun cur _ => rcheck_no10 k g s b v cur (by omega) b0 b1 HM.out)
      have FM := Lib.hid (qb (W := W) fun cur _ => (show Calls Try.prog 22 #[.agg #[.int .u8 k, .int .i64 g, .int .i64 s, .int .i64 b, .string v]] cur fun e w' => e = .returned (.bool false) ∧ Below cur.heap.size cur w' from by have := rmay10_any k g s b v cur (by omega); rw [HM.out] at this; exact this))
      have a0 := cell_regrown (K0.out.cell 0)
      have a1 := cell_regrown (K0.out.cell 1)
      have a2 := cell_regrown (K0.out.cell 2)
      have a3 := cell_regrown (K0.out.cell 3)
      have a4 := cell_regrown (K0.out.cell 4)
      have x0 := cell_regrown (KX.out.cell 0)
      have x1 := cell_regrown (KX.out.cell 1)
      have x2 := cell_regrown (KX.out.cell 2)
      have x3 := cell_regrown (KX.out.cell 3)
      have x4 := cell_regrown (KX.out.cell 4)
      have y0 := cell_regrown (KY.out.cell 0)
      have y1 := cell_regrown (KY.out.cell 1)
      have y2 := cell_regrown (KY.out.cell 2)
      have y3 := cell_regrown (KY.out.cell 3)
      have y4 := cell_regrown (KY.out.cell 4)
      refine wp_region_quiet_below (by kernel_rfl) (by kernel_rfl) ?_
      repeat (go_big_quiet_step ((first | with_reducible exact FC.out _ _ | with_reducible exact FM.out _ _)))
      refine wpQuiet_nil ?_
      intro _ hw'
      obtain ⟨⟨dq, osq⟩, hw''⟩ := hw'
      subst hw''
      go_wp2
      go_ret
      exact ⟨rfl, then_ B4.out (below_regrown _ _ _)⟩
    | some r =>
      obtain ⟨k', g', s', b', v'⟩ := r
      have R1 := Lib.hid (fun w => rread_yes t k' g' s' b' v' w (by omega) hq)
      have R2 := Lib.hid (fun w => rread10_yes t k' g' s' b' v' w (by omega) hq)
      clear hq
      generalize S v' = u at *
      have W1 := Lib.hid (fun w => rwrite_bad k g s b v w (by omega) b0 b1 HM.out)
      have W2 := Lib.hid (fun w => rwrite10_bad k g s b v w (by omega) HM.out)
      have hq1 : ∀ w, (binOp .eql 36 (.agg #[.int .u8 k', .int .i64 g', .int .i64 s', .int .i64 b', .string u]) (.agg #[.int .u8 k', .int .i64 g', .int .i64 s', .int .i64 b', .string u])).run Try.prog w = .ok (.bool true) w := fun w => by rw [rec_eq, rec_self]
      have hq2 : ∀ w, (Op.equalIn 10000 36 (.agg #[.int .u8 k', .int .i64 g', .int .i64 s', .int .i64 b', .string u]) (.agg #[.int .u8 k', .int .i64 g', .int .i64 s', .int .i64 b', .string u])).run Try.prog w = .ok true w := fun w => by rw [rec_eqIn, rec_self]
      go_enter Try.func5, Try.ntmps5
      go_wp2_with fail
      refine (W1.out _).mono ?_
      rintro e w1 ⟨rfl, hb⟩
      have K0 := Lib.hid (Blk.below (Blk.new w 36 #[.int .u8 k, .int .i64 g, .int .i64 s, .int .i64 b, .string v]) hb (by simp))
      have B1 := Lib.hid (below_of_alloc (hb.mono (B' := w.heap.size) (by simp)) (Nat.le_refl _))
      have c0 := K0.out.cell 0
      have c1 := K0.out.cell 1
      have c2 := K0.out.cell 2
      have c3 := K0.out.cell 3
      have c4 := K0.out.cell 4
      clear hb
      go_wp2_with fail
      refine (W2.out _).mono ?_
      rintro e w2 ⟨rfl, hb⟩
      have K0 := Lib.hid (K0.out.below hb K0.out.lt)
      have B2 := Lib.hid (then_ B1.out hb)
      clear hb c0 c1 c2 c3 c4
      go_wp2_with fail
      refine (R1.out _).mono ?_
      rintro e w3 ⟨rfl, hb⟩
      have K0 := Lib.hid ((K0.out.below hb K0.out.lt).alloc (.cells #[.int .u8 k', .int .i64 g', .int .i64 s', .int .i64 b', .string u] 36))
      have B3 := Lib.hid ((then_ B2.out hb).alloc (then_ B2.out hb).size (.cells #[.int .u8 k', .int .i64 g', .int .i64 s', .int .i64 b', .string u] 36))
      have KX := Lib.hid (Blk.new w3 36 #[.int .u8 k', .int .i64 g', .int .i64 s', .int .i64 b', .string u])
      clear hb
      go_wp2_with fail
      refine (R2.out _).mono ?_
      rintro e w4 ⟨rfl, hb⟩
      have K0 := Lib.hid ((K0.out.below hb K0.out.lt).alloc (.cells #[.int .u8 k', .int .i64 g', .int .i64 s', .int .i64 b', .string u] 36))
      have KX := Lib.hid ((KX.out.below hb KX.out.lt).alloc (.cells #[.int .u8 k', .int .i64 g', .int .i64 s', .int .i64 b', .string u] 36))
      have B4 := Lib.hid ((then_ B3.out hb).alloc (then_ B3.out hb).size (.cells #[.int .u8 k', .int .i64 g', .int .i64 s', .int .i64 b', .string u] 36))
      have KY := Lib.hid (Blk.new w4 36 #[.int .u8 k', .int .i64 g', .int .i64 s', .int .i64 b', .string u])
      clear hb
      go_wp2_with fail
      generalize w4.alloc (.cells #[.int .u8 k', .int .i64 g', .int .i64 s', .int .i64 b', .string u] 36) = W at *
      have FC := Lib.hid (qb (W := W) fun cur _ => rcheck_no10 k g s b v cur (by omega) b0 b1 HM.out)
      have FM := Lib.hid (qb (W := W) fun cur _ => (show Calls Try.prog 22 #[.agg #[.int .u8 k, .int .i64 g, .int .i64 s, .int .i64 b, .string v]] cur fun e w' => e = .returned (.bool false) ∧ Below cur.heap.size cur w' from by have := rmay10_any k g s b v cur (by omega); rw [HM.out] at this; exact this))
      have a0 := cell_regrown (K0.out.cell 0)
      have a1 := cell_regrown (K0.out.cell 1)
      have a2 := cell_regrown (K0.out.cell 2)
      have a3 := cell_regrown (K0.out.cell 3)
      have a4 := cell_regrown (K0.out.cell 4)
      have x0 := cell_regrown (KX.out.cell 0)
      have x1 := cell_regrown (KX.out.cell 1)
      have x2 := cell_regrown (KX.out.cell 2)
      have x3 := cell_regrown (KX.out.cell 3)
      have x4 := cell_regrown (KX.out.cell 4)
      have y0 := cell_regrown (KY.out.cell 0)
      have y1 := cell_regrown (KY.out.cell 1)
      have y2 := cell_regrown (KY.out.cell 2)
      have y3 := cell_regrown (KY.out.cell 3)
      have y4 := cell_regrown (KY.out.cell 4)
      refine wp_region_quiet_below (by kernel_rfl) (by kernel_rfl) ?_
      repeat (go_big_quiet_step ((first | with_reducible exact FC.out _ _ | with_reducible exact FM.out _ _)))
      refine wpQuiet_nil ?_
      intro _ hw'
      obtain ⟨⟨dq, osq⟩, hw''⟩ := hw'
      subst hw''
      go_wp2
      go_ret
      exact ⟨rfl, then_ B4.out (below_regrown _ _ _)⟩
  | true =>
    have HM := Lib.hid hm
    clear hm
    obtain ⟨out, ho⟩ : ∃ o, S (recB k g s b v) = o := ⟨_, rfl⟩
    have HO := Lib.hid ho
    clear ho
    cases hq : Rp.readR t.data.toList with
    | none =>
      have R1 := Lib.hid (fun w => rread_no t w (by omega) hq)
      have R2 := Lib.hid (fun w => rread10_no t w (by omega) hq)
      clear hq
      have W1 := Lib.hid (fun w => rwrite_is k g s b v out w HM.out HO.out)
      have W2 := Lib.hid (fun w => (show Calls Try.prog 20 #[.agg #[.int .u8 k, .int .i64 g, .int .i64 s, .int .i64 b, .string v]] w fun e w' => e = .returned (.tuple #[.string out, .int .i64 0]) ∧ Below w.heap.size w w' from by rw [← HO.out]; exact rwrite10_ok k g s b v w HM.out))
      have hq1 : ∀ w, (binOp .eql 36 (.agg #[.int .u8 0, .int .i64 0, .int .i64 0, .int .i64 0, .string ⟨#[]⟩]) (.agg #[.int .u8 0, .int .i64 0, .int .i64 0, .int .i64 0, .string ⟨#[]⟩])).run Try.prog w = .ok (.bool true) w := fun w => by rw [rec_eq, rec_self]
      have hq2 : ∀ w, (Op.equalIn 10000 36 (.agg #[.int .u8 0, .int .i64 0, .int .i64 0, .int .i64 0, .string ⟨#[]⟩]) (.agg #[.int .u8 0, .int .i64 0, .int .i64 0, .int .i64 0, .string ⟨#[]⟩])).run Try.prog w = .ok true w := fun w => by rw [rec_eqIn, rec_self]
      go_enter Try.func5, Try.ntmps5
      go_wp2_with fail
      refine (W1.out _).mono ?_
      rintro e w1 ⟨rfl, hb⟩
      have K0 := Lib.hid (Blk.below (Blk.new w 36 #[.int .u8 k, .int .i64 g, .int .i64 s, .int .i64 b, .string v]) hb (by simp))
      have B1 := Lib.hid (below_of_alloc (hb.mono (B' := w.heap.size) (by simp)) (Nat.le_refl _))
      have c0 := K0.out.cell 0
      have c1 := K0.out.cell 1
      have c2 := K0.out.cell 2
      have c3 := K0.out.cell 3
      have c4 := K0.out.cell 4
      clear hb
      go_wp2_with fail
      refine (W2.out _).mono ?_
      rintro e w2 ⟨rfl, hb⟩
      have K0 := Lib.hid (K0.out.below hb K0.out.lt)
      have B2 := Lib.hid (then_ B1.out hb)
      clear hb c0 c1 c2 c3 c4
      go_wp2_with fail
      refine (R1.out _).mono ?_
      rintro e w3 ⟨rfl, hb⟩
      have K0 := Lib.hid ((K0.out.below hb K0.out.lt).alloc (.cells #[.int .u8 0, .int .i64 0, .int .i64 0, .int .i64 0, .string ⟨#[]⟩] 36))
      have B3 := Lib.hid ((then_ B2.out hb).alloc (then_ B2.out hb).size (.cells #[.int .u8 0, .int .i64 0, .int .i64 0, .int .i64 0, .string ⟨#[]⟩] 36))
      have KX := Lib.hid (Blk.new w3 36 #[.int .u8 0, .int .i64 0, .int .i64 0, .int .i64 0, .string ⟨#[]⟩])
      clear hb
      go_wp2_with fail
      refine (R2.out _).mono ?_
      rintro e w4 ⟨rfl, hb⟩
      have K0 := Lib.hid ((K0.out.below hb K0.out.lt).alloc (.cells #[.int .u8 0, .int .i64 0, .int .i64 0, .int .i64 0, .string ⟨#[]⟩] 36))
      have KX := Lib.hid ((KX.out.below hb KX.out.lt).alloc (.cells #[.int .u8 0, .int .i64 0, .int .i64 0, .int .i64 0, .string ⟨#[]⟩] 36))
      have B4 := Lib.hid ((then_ B3.out hb).alloc (then_ B3.out hb).size (.cells #[.int .u8 0, .int .i64 0, .int .i64 0, .int .i64 0, .string ⟨#[]⟩] 36))
      have KY := Lib.hid (Blk.new w4 36 #[.int .u8 0, .int .i64 0, .int .i64 0, .int .i64 0, .string ⟨#[]⟩])
      clear hb
      go_wp2_with fail
      generalize w4.alloc (.cells #[.int .u8 0, .int .i64 0, .int .i64 0, .int .i64 0, .string ⟨#[]⟩] 36) = W at *
      have FC := Lib.hid (qb (W := W) fun cur _ => rcheck_ok10 k g s b v cur (by omega) b0 b1 HM.out)
      have FM := Lib.hid (qb (W := W) fun cur _ => (show Calls Try.prog 22 #[.agg #[.int .u8 k, .int .i64 g, .int .i64 s, .int .i64 b, .string v]] cur fun e w' => e = .returned (.bool true) ∧ Below cur.heap.size cur w' from by have := rmay10_any k g s b v cur (by omega); rw [HM.out] at this; exact this))
      have a0 := cell_regrown (K0.out.cell 0)
      have a1 := cell_regrown (K0.out.cell 1)
      have a2 := cell_regrown (K0.out.cell 2)
      have a3 := cell_regrown (K0.out.cell 3)
      have a4 := cell_regrown (K0.out.cell 4)
      have x0 := cell_regrown (KX.out.cell 0)
      have x1 := cell_regrown (KX.out.cell 1)
      have x2 := cell_regrown (KX.out.cell 2)
      have x3 := cell_regrown (KX.out.cell 3)
      have x4 := cell_regrown (KX.out.cell 4)
      have y0 := cell_regrown (KY.out.cell 0)
      have y1 := cell_regrown (KY.out.cell 1)
      have y2 := cell_regrown (KY.out.cell 2)
      have y3 := cell_regrown (KY.out.cell 3)
      have y4 := cell_regrown (KY.out.cell 4)
      refine wp_region_quiet_below (by kernel_rfl) (by kernel_rfl) ?_
      repeat (go_big_quiet_step ((first | with_reducible exact FC.out _ _ | with_reducible exact FM.out _ _)))
      refine wpQuiet_nil ?_
      intro _ hw'
      obtain ⟨⟨dq, osq⟩, hw''⟩ := hw'
      subst hw''
      go_wp2
      go_ret
      exact ⟨rfl, then_ B4.out (below_regrown _ _ _)⟩
    | some r =>
      obtain ⟨k', g', s', b', v'⟩ := r
      have R1 := Lib.hid (fun w => rread_yes t k' g' s' b' v' w (by omega) hq)
      have R2 := Lib.hid (fun w => rread10_yes t k' g' s' b' v' w (by omega) hq)
      clear hq
      generalize S v' = u at *
      have W1 := Lib.hid (fun w => rwrite_is k g s b v out w HM.out HO.out)
      have W2 := Lib.hid (fun w => (show Calls Try.prog 20 #[.agg #[.int .u8 k, .int .i64 g, .int .i64 s, .int .i64 b, .string v]] w fun e w' => e = .returned (.tuple #[.string out, .int .i64 0]) ∧ Below w.heap.size w w' from by rw [← HO.out]; exact rwrite10_ok k g s b v w HM.out))
      have hq1 : ∀ w, (binOp .eql 36 (.agg #[.int .u8 k', .int .i64 g', .int .i64 s', .int .i64 b', .string u]) (.agg #[.int .u8 k', .int .i64 g', .int .i64 s', .int .i64 b', .string u])).run Try.prog w = .ok (.bool true) w := fun w => by rw [rec_eq, rec_self]
      have hq2 : ∀ w, (Op.equalIn 10000 36 (.agg #[.int .u8 k', .int .i64 g', .int .i64 s', .int .i64 b', .string u]) (.agg #[.int .u8 k', .int .i64 g', .int .i64 s', .int .i64 b', .string u])).run Try.prog w = .ok true w := fun w => by rw [rec_eqIn, rec_self]
      go_enter Try.func5, Try.ntmps5
      go_wp2_with fail
      refine (W1.out _).mono ?_
      rintro e w1 ⟨rfl, hb⟩
      have K0 := Lib.hid (Blk.below (Blk.new w 36 #[.int .u8 k, .int .i64 g, .int .i64 s, .int .i64 b, .string v]) hb (by simp))
      have B1 := Lib.hid (below_of_alloc (hb.mono (B' := w.heap.size) (by simp)) (Nat.le_refl _))
      have c0 := K0.out.cell 0
      have c1 := K0.out.cell 1
      have c2 := K0.out.cell 2
      have c3 := K0.out.cell 3
      have c4 := K0.out.cell 4
      clear hb
      go_wp2_with fail
      refine (W2.out _).mono ?_
      rintro e w2 ⟨rfl, hb⟩
      have K0 := Lib.hid (K0.out.below hb K0.out.lt)
      have B2 := Lib.hid (then_ B1.out hb)
      clear hb c0 c1 c2 c3 c4
      go_wp2_with fail
      refine (R1.out _).mono ?_
      rintro e w3 ⟨rfl, hb⟩
      have K0 := Lib.hid ((K0.out.below hb K0.out.lt).alloc (.cells #[.int .u8 k', .int .i64 g', .int .i64 s', .int .i64 b', .string u] 36))
      have B3 := Lib.hid ((then_ B2.out hb).alloc (then_ B2.out hb).size (.cells #[.int .u8 k', .int .i64 g', .int .i64 s', .int .i64 b', .string u] 36))
      have KX := Lib.hid (Blk.new w3 36 #[.int .u8 k', .int .i64 g', .int .i64 s', .int .i64 b', .string u])
      clear hb
      go_wp2_with fail
      refine (R2.out _).mono ?_
      rintro e w4 ⟨rfl, hb⟩
      have K0 := Lib.hid ((K0.out.below hb K0.out.lt).alloc (.cells #[.int .u8 k', .int .i64 g', .int .i64 s', .int .i64 b', .string u] 36))
      have KX := Lib.hid ((KX.out.below hb KX.out.lt).alloc (.cells #[.int .u8 k', .int .i64 g', .int .i64 s', .int .i64 b', .string u] 36))
      have B4 := Lib.hid ((then_ B3.out hb).alloc (then_ B3.out hb).size (.cells #[.int .u8 k', .int .i64 g', .int .i64 s', .int .i64 b', .string u] 36))
      have KY := Lib.hid (Blk.new w4 36 #[.int .u8 k', .int .i64 g', .int .i64 s', .int .i64 b', .string u])
      clear hb
      go_wp2_with fail
      generalize w4.alloc (.cells #[.int .u8 k', .int .i64 g', .int .i64 s', .int .i64 b', .string u] 36) = W at *
      have FC := Lib.hid (qb (W := W) fun cur _ => rcheck_ok10 k g s b v cur (by omega) b0 b1 HM.out)
      have FM := Lib.hid (qb (W := W) fun cur _ => (show Calls Try.prog 22 #[.agg #[.int .u8 k, .int .i64 g, .int .i64 s, .int .i64 b, .string v]] cur fun e w' => e = .returned (.bool true) ∧ Below cur.heap.size cur w' from by have := rmay10_any k g s b v cur (by omega); rw [HM.out] at this; exact this))
      have a0 := cell_regrown (K0.out.cell 0)
      have a1 := cell_regrown (K0.out.cell 1)
      have a2 := cell_regrown (K0.out.cell 2)
      have a3 := cell_regrown (K0.out.cell 3)
      have a4 := cell_regrown (K0.out.cell 4)
      have x0 := cell_regrown (KX.out.cell 0)
      have x1 := cell_regrown (KX.out.cell 1)
      have x2 := cell_regrown (KX.out.cell 2)
      have x3 := cell_regrown (KX.out.cell 3)
      have x4 := cell_regrown (KX.out.cell 4)
      have y0 := cell_regrown (KY.out.cell 0)
      have y1 := cell_regrown (KY.out.cell 1)
      have y2 := cell_regrown (KY.out.cell 2)
      have y3 := cell_regrown (KY.out.cell 3)
      have y4 := cell_regrown (KY.out.cell 4)
      refine wp_region_quiet_below (by kernel_rfl) (by kernel_rfl) ?_
      repeat (go_big_quiet_step ((first | with_reducible exact FC.out _ _ | with_reducible exact FM.out _ _)))
      refine wpQuiet_nil ?_
      intro _ hw'
      obtain ⟨⟨dq, osq⟩, hw''⟩ := hw'
      subst hw''
      go_wp2
      go_ret
      exact ⟨rfl, then_ B4.out (below_regrown _ _ _)⟩
end Go.Proofs.Ytdodfpjejjjciaa
