/-
  wire.Check: what the call returns, for every mail.
-/
import Derived.Test.YtmchnjnknnolmaaWireCheck
import Derived.Test.YtmchnjnknnolmaaQuiet
namespace Go.Proofs.Ytmchnjnknnolmaa
open Go.RowKit Bal Go.Sort Go.BigFrame
set_option maxHeartbeats 16000000
set_option maxRecDepth 100000
set_option linter.unusedVariables false
set_option linter.unusedSimpArgs false

def CkRel (m : Wp.Mail) (fl : List UInt8) (ok0 : Bool) (gm gp : Nat) (w : World) (x5 x45 : Value) (wr : World) : Prop :=
  ∃ (j : Nat) (o : Bool), x45 = .int .i64 (j : Int) ∧ j ≤ fl.length ∧ x5 = .bool o ∧ o = (ok0 && okR m (fl.take j)) ∧ Blk wr gm 25 (mA m) ∧ Blk wr gp 25 (mA (Wp.mrg (fl.take j) m (Wp.zeroM m.f m.t m.k m.g))) ∧ Below w.heap.size w wr
def inI (n : Int) : Prop := -9223372036854775808 ≤ n ∧ n ≤ 9223372036854775807
def IsMailM (m : Wp.Mail) : Prop := (0 ≤ m.k ∧ m.k ≤ 255) ∧ m.v.length ≤ 9223372036854775807 ∧ inI m.f ∧ inI m.t ∧ inI m.g ∧ inI m.s ∧ inI m.b ∧ inI m.p ∧ inI m.i ∧ inI m.tm
theorem mrg_snoc : ∀ (cs : List UInt8) (c : UInt8) (m m0 : Wp.Mail), Wp.mrg (cs ++ [c]) m m0 = if c = 118 then { Wp.mrg cs m m0 with v := m.v } else (Wp.mrg cs m m0).put c (m.get c)
  | [], c, m, m0 => by
    simp only [List.nil_append, Wp.mrg]
  | d :: cs, c, m, m0 => by
    simp only [List.cons_append, Wp.mrg]
    split
    · exact mrg_snoc cs c m _
    · exact mrg_snoc cs c m _
theorem okR_snoc (m : Wp.Mail) (cs : List UInt8) (c : UInt8) : okR m (cs ++ [c]) = (okR m cs && (c == 118 || rightB m c (m.get c))) := by simp [okR]
theorem take_snoc' {l : List UInt8} {k : Nat} (h : k < l.length) : l.take (k + 1) = l.take k ++ [l[k]] := by
  rw [List.take_succ_eq_append_getElem h]
theorem idx_S (fl : List UInt8) (j : Nat) (hj : j < fl.length) (w : World) : (Instr.index 9 (.string (S fl)) (.int .i64 (j : Int))).run Try.prog w = .ok (.int .u8 ((fl[j]).toNat : Int)) w := by
  have hs := S_size fl
  rw [run_index_string w 9 (S fl) .i64 (j : Int) Try.underlying9, dif_pos (by omega)]
  rfl
theorem get_inI {m : Wp.Mail} (h : IsMailM m) (c : UInt8) : inI (m.get c) := by
  obtain ⟨_, _, _, _, _, h1, h2, h3, h4, h5⟩ := h
  unfold Wp.Mail.get
  repeat' split
  all_goals assumption

def okE (m : Wp.Mail) : Int := if okC m then 0 else 8
theorem okE_is {m : Wp.Mail} {x : Bool} (h : okC m = x) : okE m = if x then 0 else 8 := by rw [okE, h]
theorem wcheckA (m : Wp.Mail) (w : World) (hm : IsMailM m) :
    Calls Try.prog 96 #[.agg (mA m)] w fun e w' => e = .returned (.int .i64 (okE m)) ∧ Below w.heap.size w w' := by
  obtain ⟨fl, hfl⟩ : ∃ fl, Wp.fieldsL m.k = fl := ⟨_, rfl⟩
  obtain ⟨F, hF⟩ : ∃ F, S fl = F := ⟨_, rfl⟩
  obtain ⟨U, hU⟩ : ∃ U, S m.v = U := ⟨_, rfl⟩
  have hk := hm.1
  have HFl := Lib.hid hfl
  have HF := Lib.hid hF
  have HU := Lib.hid hU
  have HM := Lib.hid hm
  have hfz : F.size = fl.length := by rw [← hF]; exact S_size fl
  have huz : U.size = m.v.length := by rw [← hU]; exact S_size _
  have hul : U.size ≤ 9223372036854775807 := by rw [huz]; exact hm.2.1
  have HUZ := Lib.hid huz
  clear huz
  have W1 := wfields_any m.k (w.alloc (.cells (mA m) 25)) hk.1 hk.2
  rw [hfl, hF] at W1
  have HW1 := Lib.hid W1
  clear W1 hfl hF hm
  have eA : mA m = #[.int .i64 m.f, .int .i64 m.t, .int .u8 m.k, .int .i64 m.g, .int .i64 m.s, .int .i64 m.b, .int .i64 m.p, .string U, .int .i64 m.i, .int .i64 m.tm] := by rw [← hU]; rfl
  clear hU
  rw [eA] at HW1 ⊢
  have EA := Lib.hid eA
  clear eA
  go_enter Try.func96, Try.ntmps96
  go_wp2_with fail
  with_reducible refine HW1.out.mono ?_
  rintro e w1 ⟨rfl, hb⟩
  have KM := Lib.hid (Blk.below (Blk.new w 25 #[.int .i64 m.f, .int .i64 m.t, .int .u8 m.k, .int .i64 m.g, .int .i64 m.s, .int .i64 m.b, .int .i64 m.p, .string U, .int .i64 m.i, .int .i64 m.tm]) hb (by simp))
  have B1 := Lib.hid (below_of_alloc (hb.mono (B' := w.heap.size) (by simp)) (Nat.le_refl _))
  have c0 := KM.out.cell 0
  have c1 := KM.out.cell 1
  have c2 := KM.out.cell 2
  have c3 := KM.out.cell 3
  have c7 := KM.out.cell 7
  have lt1 := KM.out.lt
  clear hb HW1
  have hemp : F.toList.isEmpty = fl.isEmpty := by rw [← HF.out, S_toList]
  have HEMP := Lib.hid hemp
  clear hemp
  go_upto_region 3 with fail
  go_cut [5] (fun s5 wx => s5 = .bool (okH m) ∧ wx = (w1.alloc (.cells #[.int .i64 m.f, .int .i64 m.t, .int .u8 m.k, .int .i64 m.g, .int .i64 0, .int .i64 0, .int .i64 0, .string ⟨#[]⟩, .int .i64 0, .int .i64 0] 25)))
  case first =>
    cases he : F.toList.isEmpty with
    | true =>
      have he2 : fl.isEmpty = true := HEMP.out.symm.trans he
      have HE : Hid (okH m = false) := by simp [Hid, okH, Wp.headB, HFl.out, he2]
      go_wp2_with fail
      go_meet
      exact ⟨by rw [HE.out], rfl⟩
    | false =>
      have he2 : fl.isEmpty = false := HEMP.out.symm.trans he
      by_cases h0 : (0 : Int) ≤ m.f ∧ m.f ≤ 5
      rotate_left
      · have HI0 := Lib.hid (win_no m.f 0 5 (w1.alloc (.cells #[.int .i64 m.f, .int .i64 m.t, .int .u8 m.k, .int .i64 m.g, .int .i64 0, .int .i64 0, .int .i64 0, .string ⟨#[]⟩, .int .i64 0, .int .i64 0] 25)) h0)
        have HE : Hid (okH m = false) := by simp [Hid, okH, Wp.headB, HFl.out, he2, h0]
        go_wp2_with (first | (with_reducible refine HI0.out.mono ?_; rintro e w' ⟨rfl, rfl⟩))
        go_meet
        exact ⟨by rw [HE.out], rfl⟩
      have HI0 := Lib.hid (win_yes m.f 0 5 (w1.alloc (.cells #[.int .i64 m.f, .int .i64 m.t, .int .u8 m.k, .int .i64 m.g, .int .i64 0, .int .i64 0, .int .i64 0, .string ⟨#[]⟩, .int .i64 0, .int .i64 0] 25)) h0)
      by_cases h1 : (0 : Int) ≤ m.t ∧ m.t ≤ 5
      rotate_left
      · have HI1 := Lib.hid (win_no m.t 0 5 (w1.alloc (.cells #[.int .i64 m.f, .int .i64 m.t, .int .u8 m.k, .int .i64 m.g, .int .i64 0, .int .i64 0, .int .i64 0, .string ⟨#[]⟩, .int .i64 0, .int .i64 0] 25)) h1)
        have HE : Hid (okH m = false) := by simp [Hid, okH, Wp.headB, HFl.out, he2, h0, h1]
        go_wp2_with (first | (with_reducible refine HI0.out.mono ?_; rintro e w' ⟨rfl, rfl⟩) | (with_reducible refine HI1.out.mono ?_; rintro e w' ⟨rfl, rfl⟩))
        go_meet
        exact ⟨by rw [HE.out], rfl⟩
      have HI1 := Lib.hid (win_yes m.t 0 5 (w1.alloc (.cells #[.int .i64 m.f, .int .i64 m.t, .int .u8 m.k, .int .i64 m.g, .int .i64 0, .int .i64 0, .int .i64 0, .string ⟨#[]⟩, .int .i64 0, .int .i64 0] 25)) h1)
      by_cases h2 : (0 : Int) ≤ m.g ∧ m.g ≤ 3
      rotate_left
      · have HI2 := Lib.hid (win_no m.g 0 3 (w1.alloc (.cells #[.int .i64 m.f, .int .i64 m.t, .int .u8 m.k, .int .i64 m.g, .int .i64 0, .int .i64 0, .int .i64 0, .string ⟨#[]⟩, .int .i64 0, .int .i64 0] 25)) h2)
        have HE : Hid (okH m = false) := by simp [Hid, okH, Wp.headB, HFl.out, he2, h0, h1, h2]
        go_wp2_with (first | (with_reducible refine HI0.out.mono ?_; rintro e w' ⟨rfl, rfl⟩) | (with_reducible refine HI1.out.mono ?_; rintro e w' ⟨rfl, rfl⟩) | (with_reducible refine HI2.out.mono ?_; rintro e w' ⟨rfl, rfl⟩))
        go_meet
        exact ⟨by rw [HE.out], rfl⟩
      have HI2 := Lib.hid (win_yes m.g 0 3 (w1.alloc (.cells #[.int .i64 m.f, .int .i64 m.t, .int .u8 m.k, .int .i64 m.g, .int .i64 0, .int .i64 0, .int .i64 0, .string ⟨#[]⟩, .int .i64 0, .int .i64 0] 25)) h2)
      cases hz : decide ((U.size : Int) ≤ 1024) with
      | true =>
        have hz2 : m.v.length ≤ 1024 := by have := of_decide_eq_true hz; have := HUZ.out; omega
        have HE : Hid (okH m = true) := by simp [Hid, okH, Wp.headB, HFl.out, he2, h0, h1, h2, hz2]
        go_wp2_with (first | (with_reducible refine HI0.out.mono ?_; rintro e w' ⟨rfl, rfl⟩) | (with_reducible refine HI1.out.mono ?_; rintro e w' ⟨rfl, rfl⟩) | (with_reducible refine HI2.out.mono ?_; rintro e w' ⟨rfl, rfl⟩))
        go_meet
        exact ⟨by rw [HE.out], rfl⟩
      | false =>
        have hz2 : ¬ m.v.length ≤ 1024 := by have := of_decide_eq_false hz; have := HUZ.out; omega
        have HE : Hid (okH m = false) := by simp [Hid, okH, Wp.headB, HFl.out, he2, h0, h1, h2, hz2]
        go_wp2_with (first | (with_reducible refine HI0.out.mono ?_; rintro e w' ⟨rfl, rfl⟩) | (with_reducible refine HI1.out.mono ?_; rintro e w' ⟨rfl, rfl⟩) | (with_reducible refine HI2.out.mono ?_; rintro e w' ⟨rfl, rfl⟩))
        go_meet
        exact ⟨by rw [HE.out], rfl⟩
  case rest =>
    obtain ⟨rfl, rfl⟩ := hcut
    have KM := Lib.hid (KM.out.alloc (.cells #[.int .i64 m.f, .int .i64 m.t, .int .u8 m.k, .int .i64 m.g, .int .i64 0, .int .i64 0, .int .i64 0, .string ⟨#[]⟩, .int .i64 0, .int .i64 0] 25))
    have KP := Lib.hid (Blk.new w1 25 #[.int .i64 m.f, .int .i64 m.t, .int .u8 m.k, .int .i64 m.g, .int .i64 0, .int .i64 0, .int .i64 0, .string ⟨#[]⟩, .int .i64 0, .int .i64 0])
    have BW := Lib.hid (B1.out.alloc B1.out.size (.cells #[.int .i64 m.f, .int .i64 m.t, .int .u8 m.k, .int .i64 m.g, .int .i64 0, .int .i64 0, .int .i64 0, .string ⟨#[]⟩, .int .i64 0, .int .i64 0] 25))
    clear c0 c1 c2 c3 c7
    generalize (w1.alloc (.cells #[.int .i64 m.f, .int .i64 m.t, .int .u8 m.k, .int .i64 m.g, .int .i64 0, .int .i64 0, .int .i64 0, .string ⟨#[]⟩, .int .i64 0, .int .i64 0] 25)) = W at *
    have hgp : w.heap.size ≠ w1.heap.size := by omega
    have hgp2 : w1.heap.size ≠ w.heap.size := by omega
    have hge : w.heap.size ≤ w1.heap.size := by omega
    obtain ⟨gm, hgm⟩ : ∃ g, w.heap.size = g := ⟨_, rfl⟩
    obtain ⟨gp, hgpe⟩ : ∃ g, w1.heap.size = g := ⟨_, rfl⟩
    rw [hgm] at KM hgp hgp2 lt1 hge
    rw [hgpe] at KP hgp hgp2 lt1 hge
    rw [← EA.out] at KM
    have HGM := Lib.hid hgm
    rw [hgm, hgpe]
    clear hgm hgpe
    go_wp2_with fail
    have hfl9 : fl.length ≤ 9223372036854775807 := by
      rw [← HFl.out]
      unfold Wp.fieldsL
      repeat' split
      all_goals decide
    go_loopw [5, 45] (fun x5 x45 wr => CkRel m fl (okH m) gm gp w x5 x45 wr) (fun _ x45 _ => fl.length - (intOf x45).toNat)
    case atStart => exact ⟨0, okH m, rfl, Nat.zero_le _, rfl, by simp [okR], KM.out, KP.out, BW.out⟩
    case round =>
      obtain ⟨j, o, rfl, hj, rfl, ho, km, kp, bw⟩ := hrel
      have HO := Lib.hid ho
      have RM := Lib.hid km
      have RP := Lib.hid kp
      have RB := Lib.hid bw
      clear ho km kp bw
      by_cases hlt : j < fl.length
      · obtain ⟨c, hc⟩ : ∃ c, fl[j] = c := ⟨_, rfl⟩
        have hidx : ∀ w, (Instr.index 9 (.string F) (.int .i64 (j : Int))).run Try.prog w = .ok (.int .u8 (c.toNat : Int)) w := fun w => by rw [← HF.out, idx_S fl j hlt w, hc]
        have hlet : c = 118 ∨ Wp.letter c := by have := (Wp.fields_nodup m.k).2 c; rw [HFl.out] at this; exact this (hc ▸ List.getElem_mem hlt)
        have hts := take_snoc' hlt
        rw [hc] at hts
        have HTS := Lib.hid hts
        have HLT : Hid ((j : Int) < (F.size : Int)) := by rw [Hid, hfz]; omega
        have hjf := HLT.out
        clear hts hc
        by_cases h118 : c = 118
        · subst h118
          have cm7 := RM.out.cell 7
          have cp7 := RP.out.cell 7
          have fp7 := RP.out.frozen 7
          have cm7' : wr.cell? ⟨gm, 7, none⟩ = some (.string (S m.v)) := cm7
          have hcp : (mA (Wp.mrg (fl.take j) m (Wp.zeroM m.f m.t m.k m.g)))[7]? = some (.string (S (Wp.mrg (fl.take j) m (Wp.zeroM m.f m.t m.k m.g)).v)) := rfl
          rw [hcp] at cp7
          clear cm7 hcp
          go_wp2
          go_roundw
          case rel =>
            refine ⟨j + 1, o, by go_num, hlt, rfl, ?_, RM.out.far hgp _, ?_, RB.out.setCell (by rw [HGM.out]; exact hge) _⟩
            · rw [HO.out, HTS.out, okR_snoc]; simp
            · have := RP.out.set_ 7 (.string (S m.v))
              rw [mA_v] at this
              rw [HTS.out, mrg_snoc, if_pos rfl]
              exact this
          case measure => simp [intOf]; omega
        · have hl2 := hlet.resolve_left h118
          have hne : ((c.toNat : Int) == 118) = false := by
            have : c.toNat ≠ 118 := fun e => h118 (UInt8.toNat_inj.1 e)
            simpa using (show ¬ (c.toNat : Int) = 118 by omega)
          have cg : wr.cell? ⟨gm, off c, none⟩ = some (.int .i64 (m.get c)) := (RM.out.cell (off c)).trans (mA_get m c)
          have cp := (RP.out.cell (off c)).trans (mA_get (Wp.mrg (fl.take j) m (Wp.zeroM m.f m.t m.k m.g)) c)
          have fp := RP.out.frozen (off c)
          have bI := get_inI HM.out c
          obtain ⟨bI1, bI2⟩ := bI
          have P1 := Lib.hid (wplace_any gm c wr hl2)
          have P2 := Lib.hid (wplace_any gp c wr hl2)
          have HL2 := Lib.hid hl2
          clear hlet hl2
          go_wp2_with fail
          with_reducible refine P1.out.mono ?_
          rintro e w' ⟨rfl, rfl⟩
          go_wp2_with fail
          with_reducible refine P2.out.mono ?_
          rintro e w' ⟨rfl, rfl⟩
          clear P1 P2
          have RM2 := Lib.hid (RM.out.far (p := ⟨gp, off c, none⟩) hgp (.int .i64 (m.get c)))
          have RP2 : Hid (Blk (wr.setCell ⟨gp, off c, none⟩ (.int .i64 (m.get c))) gp 25 (mA (Wp.mrg (fl.take (j + 1)) m (Wp.zeroM m.f m.t m.k m.g)))) := by
            have := RP.out.set_ (off c) (.int .i64 (m.get c))
            rw [mA_put] at this
            rw [HTS.out, mrg_snoc, if_neg h118]
            exact this
          have RB2 := Lib.hid (RB.out.setCell (p := ⟨gp, off c, none⟩) (by rw [HGM.out]; exact hge) (.int .i64 (m.get c)))
          cases o with
          | false =>
            go_wp2_with fail
            clear cg cp fp
            generalize wr.setCell ⟨gp, off c, none⟩ (.int .i64 (m.get c)) = W3 at *
            go_quiet (fail)
            go_wp2
            go_roundw
            case rel =>
              refine ⟨j + 1, false, by go_num, hlt, rfl, ?_, RM2.out.drewN _, RP2.out.drewN _, below_drewN RB2.out _⟩
              rw [HTS.out, okR_snoc, ← Bool.and_assoc, ← HO.out, Bool.false_and]
            case measure => simp [intOf]; omega
          | true =>
            go_wp2_with fail
            clear cg cp fp
            generalize wr.setCell ⟨gp, off c, none⟩ (.int .i64 (m.get c)) = W3 at *
            have FR := Lib.hid (qb (W := W3) fun cur _ => wright_any m c (m.get c) cur HL2.out bI1 bI2)
            rw [EA.out] at FR
            have RM3 := Lib.hid RM2.out
            rw [EA.out] at RM3
            have x0 := cell_regrown (RM3.out.cell 0)
            have x1 := cell_regrown (RM3.out.cell 1)
            have x2 := cell_regrown (RM3.out.cell 2)
            have x3 := cell_regrown (RM3.out.cell 3)
            have x4 := cell_regrown (RM3.out.cell 4)
            have x5 := cell_regrown (RM3.out.cell 5)
            have x6 := cell_regrown (RM3.out.cell 6)
            have x7 := cell_regrown (RM3.out.cell 7)
            have x8 := cell_regrown (RM3.out.cell 8)
            have x9 := cell_regrown (RM3.out.cell 9)
            refine wp_region_quiet_below (by kernel_rfl) (by kernel_rfl) ?_
            repeat (go_big_quiet_step ((first | with_reducible exact FR.out _ _)))
            refine wpQuiet_nil ?_
            intro _ hw'
            obtain ⟨⟨dq, osq⟩, hw''⟩ := hw'
            subst hw''
            go_wp2
            go_roundw
            case rel =>
              refine ⟨j + 1, rightB m c (m.get c), by go_num, hlt, rfl, ?_, RM2.out.below (below_regrown _ _ _) RM2.out.lt, RP2.out.below (below_regrown _ _ _) RP2.out.lt, then_ RB2.out (below_regrown _ _ _)⟩
              have hx : (c == 118) = false := by simpa using h118
              rw [HTS.out, okR_snoc, ← Bool.and_assoc, ← HO.out, Bool.true_and, hx, Bool.false_or]
            case measure => simp [intOf]; omega
      · obtain rfl : j = fl.length := by omega
        have hjf : ¬ ((fl.length : Int) < (F.size : Int)) := by omega
        have hho := HO.out
        have hrp := RP.out
        rw [List.take_length] at hho hrp
        obtain ⟨M, hM⟩ : ∃ M, Wp.mrg fl m (Wp.zeroM m.f m.t m.k m.g) = M := ⟨_, rfl⟩
        rw [hM] at hrp
        have HOC : Hid (okE m = if (o && eqM M m) then 0 else 8) := okE_is (by rw [okC, HFl.out, hM, ← hho])
        have RM3 := Lib.hid RM.out
        rw [EA.out] at RM3
        have heq : ∀ w, (Op.equalIn 10000 25 (.agg #[.int .i64 M.f, .int .i64 M.t, .int .u8 M.k, .int .i64 M.g, .int .i64 M.s, .int .i64 M.b, .int .i64 M.p, .string (S M.v), .int .i64 M.i, .int .i64 M.tm]) (.agg #[.int .i64 m.f, .int .i64 m.t, .int .u8 m.k, .int .i64 m.g, .int .i64 m.s, .int .i64 m.b, .int .i64 m.p, .string U, .int .i64 m.i, .int .i64 m.tm])).run Try.prog w = .ok (eqM M m) w := fun w => by rw [← EA.out]; exact mail_eqInM M m w
        have UV : Hid (∀ i, wr.cell? ⟨gp, i, none⟩ = (mA M)[i]?) := Lib.hid fun i => hrp.cell i
        have x0 := RM3.out.cell 0
        have x1 := RM3.out.cell 1
        have x2 := RM3.out.cell 2
        have x3 := RM3.out.cell 3
        have x4 := RM3.out.cell 4
        have x5 := RM3.out.cell 5
        have x6 := RM3.out.cell 6
        have x7 := RM3.out.cell 7
        have x8 := RM3.out.cell 8
        have x9 := RM3.out.cell 9
        have y0 : wr.cell? ⟨gp, 0, none⟩ = some (.int .i64 M.f) := UV.out 0
        have y1 : wr.cell? ⟨gp, 1, none⟩ = some (.int .i64 M.t) := UV.out 1
        have y2 : wr.cell? ⟨gp, 2, none⟩ = some (.int .u8 M.k) := UV.out 2
        have y3 : wr.cell? ⟨gp, 3, none⟩ = some (.int .i64 M.g) := UV.out 3
        have y4 : wr.cell? ⟨gp, 4, none⟩ = some (.int .i64 M.s) := UV.out 4
        have y5 : wr.cell? ⟨gp, 5, none⟩ = some (.int .i64 M.b) := UV.out 5
        have y6 : wr.cell? ⟨gp, 6, none⟩ = some (.int .i64 M.p) := UV.out 6
        have y7 : wr.cell? ⟨gp, 7, none⟩ = some (.string (S M.v)) := UV.out 7
        have y8 : wr.cell? ⟨gp, 8, none⟩ = some (.int .i64 M.i) := UV.out 8
        have y9 : wr.cell? ⟨gp, 9, none⟩ = some (.int .i64 M.tm) := UV.out 9
        clear hho hrp hM
        have HEQ := Lib.hid heq
        clear heq
        cases o with
        | false =>
          go_wp2
          go_ret
          rw [HOC.out]
          exact ⟨rfl, RB.out⟩
        | true =>
          cases he : eqM M m with
          | false =>
            have heq := HEQ.out
            rw [he] at heq
            have HE := Lib.hid he
            clear he
            go_wp2
            go_ret
            rw [HOC.out, HE.out]
            exact ⟨rfl, RB.out⟩
          | true =>
            have heq := HEQ.out
            rw [he] at heq
            have HE := Lib.hid he
            clear he
            go_wp2
            go_ret
            rw [HOC.out, HE.out]
            exact ⟨rfl, RB.out⟩
theorem wcheck_any (m : Wp.Mail) (w : World) (hm : IsMailM m) :
    Calls Try.prog 96 #[.agg (mA m)] w fun e w' => e = .returned (.int .i64 (if Wp.mayM m then 0 else 8)) ∧ Below w.heap.size w w' := by
  rw [← okC_may]
  have := wcheckA m w hm
  unfold okE at this
  exact this
end Go.Proofs.Ytmchnjnknnolmaa
