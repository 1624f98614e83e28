/-
  The reference of layer 12: May, Check.
-/
import Derived.Test.YtaoekfgeggopbaaCmdMsgR
import Derived.Test.YtaoekfgeggopbaaCmdMay
import Derived.Test.YtaoekfgeggopbaaQuorumRef
namespace Go.Proofs.Ytaoekfgeggopbaa
open Go.RowKit Go.Sort Go.BigFrame
set_option maxHeartbeats 8000000
set_option maxRecDepth 100000
set_option linter.unusedVariables false
set_option linter.unusedSimpArgs false

namespace Cp
theorem msg0_same (c : Cmd) : msg0 c = sameM c (zeroC 0) := by
  simp only [msg0, sameM, zeroC]
  apply Bool.eq_iff_iff.2
  simp only [Bool.and_eq_true, decide_eq_true_eq, beq_iff_eq, List.isEmpty_iff]
  grind
theorem isEmpty_len (l : List Int) : l.isEmpty = (((l.length : Nat) : Int) == 0) := by
  cases l with
  | nil => rfl
  | cons a l =>
    refine (beq_eq_false_iff_ne.2 ?_).symm
    rw [List.length_cons]
    omega
theorem may_0 {c : Cmd} (h : c.k = 0) : mayC c = sameC c (zeroC 0) := by
  obtain ⟨k, mi, gs, mt, key, body, i, tm, mem, tp, who, n⟩ := c
  simp only at h
  subst h
  simp [mayC, sameC, sameM, zeroC, msg0]
  apply Bool.eq_iff_iff.2
  simp only [Bool.and_eq_true, decide_eq_true_eq, beq_iff_eq, List.isEmpty_iff]
  grind
theorem may_1 {c : Cmd} (h : c.k = 1) : mayC c = (msgB c && ((c.i == 0) && ((c.tm == 0) && ((((c.mem.length : Nat) : Int) == 0) && ((c.tp == 0) && ((c.who == 0) && (c.n == 0))))))) := by
  rw [← isEmpty_len]
  obtain ⟨k, mi, gs, mt, key, body, i, tm, mem, tp, who, n⟩ := c
  simp only at h
  subst h
  simp [mayC]
  apply Bool.eq_iff_iff.2
  simp only [Bool.and_eq_true, decide_eq_true_eq, beq_iff_eq, List.isEmpty_iff]
  grind
theorem may_2 {c : Cmd} (h : c.k = 2) : mayC c = (sameM c (zeroC 0) && (Wp.idB c.i && (inB 1 1073741824 c.tm && ((((c.mem.length : Nat) : Int) == 0) && ((c.tp == 0) && ((c.who == 0) && (c.n == 0))))))) := by
  rw [← msg0_same, ← isEmpty_len]
  obtain ⟨k, mi, gs, mt, key, body, i, tm, mem, tp, who, n⟩ := c
  simp only at h
  subst h
  simp [mayC]
  apply Bool.eq_iff_iff.2
  simp only [Bool.and_eq_true, decide_eq_true_eq, beq_iff_eq, List.isEmpty_iff]
  grind
theorem may_3 {c : Cmd} (h : c.k = 3) : mayC c = (sameM c (zeroC 0) && ((c.i == 0) && ((c.tm == 0) && ((Qm.check c.mem == 0) && ((c.tp == 0) && ((c.who == 0) && (c.n == 0))))))) := by
  rw [← msg0_same]
  obtain ⟨k, mi, gs, mt, key, body, i, tm, mem, tp, who, n⟩ := c
  simp only at h
  subst h
  simp [mayC]
  apply Bool.eq_iff_iff.2
  simp only [Bool.and_eq_true, decide_eq_true_eq, beq_iff_eq, List.isEmpty_iff]
  grind
theorem may_4 {c : Cmd} (h : c.k = 4) : mayC c = (sameM c (zeroC 0) && (Wp.idB c.i && ((c.tm == 0) && ((((c.mem.length : Nat) : Int) == 0) && (inB 0 3 c.tp && (inB 0 1073741824 c.n && inB 0 7 c.who)))))) := by
  rw [← msg0_same, ← isEmpty_len]
  obtain ⟨k, mi, gs, mt, key, body, i, tm, mem, tp, who, n⟩ := c
  simp only at h
  subst h
  simp [mayC]
  apply Bool.eq_iff_iff.2
  simp only [Bool.and_eq_true, decide_eq_true_eq, beq_iff_eq, List.isEmpty_iff]
  grind
theorem may_5 {c : Cmd} (h : c.k = 5) : mayC c = (sameM c (zeroC 0) && (Wp.idB c.i && ((c.tm == 0) && ((((c.mem.length : Nat) : Int) == 0) && (inB 0 3 c.tp && (inB 0 1073741824 c.n && (c.who == 0))))))) := by
  rw [← msg0_same, ← isEmpty_len]
  obtain ⟨k, mi, gs, mt, key, body, i, tm, mem, tp, who, n⟩ := c
  simp only at h
  subst h
  simp [mayC]
  apply Bool.eq_iff_iff.2
  simp only [Bool.and_eq_true, decide_eq_true_eq, beq_iff_eq, List.isEmpty_iff]
  grind
theorem may_6 {c : Cmd} (h : c.k = 6) : mayC c = (sameM c (zeroC 0) && (Wp.idB c.i && ((c.tm == 0) && ((((c.mem.length : Nat) : Int) == 0) && (inB 0 3 c.tp && (inB 0 1073741824 c.n && (c.who == 0))))))) := by
  rw [← msg0_same, ← isEmpty_len]
  obtain ⟨k, mi, gs, mt, key, body, i, tm, mem, tp, who, n⟩ := c
  simp only at h
  subst h
  simp [mayC]
  apply Bool.eq_iff_iff.2
  simp only [Bool.and_eq_true, decide_eq_true_eq, beq_iff_eq, List.isEmpty_iff]
  grind
theorem may_else {c : Cmd} (h : c.k < 0 ∨ 6 < c.k) : mayC c = false := by
  unfold mayC
  rw [if_neg (by omega), if_neg (by omega), if_neg (by omega), if_neg (by omega), if_neg (by omega), if_neg (by omega)]
end Cp
theorem inB_lt2 {lo hi h2 : Int} (n : Int) (h : h2 = hi + 1) : decide (lo ≤ n ∧ n < h2) = Cp.inB lo hi n := by
  subst h
  unfold Cp.inB
  apply Bool.eq_iff_iff.2
  simp only [decide_eq_true_eq]
  omega

theorem rmay12_any (D : HC) (w : World) (hD : CmdAt w w.heap.size D) (b : Bool) (hb : Cp.mayC D.cmd = b) :
    Calls Try.prog 48 #[.agg #[.int .u8 D.k, .int .i64 D.mi, .slice D.GA D.Gn D.Gc, .int .i64 D.mt, .string D.key, .string D.body, .int .i64 D.i, .int .i64 D.tm, .slice D.MA D.Mn D.Mc, .int .i64 D.tp, .int .i64 D.who, .int .i64 D.n]] w fun e w' => e = .returned (.bool b) ∧ Below w.heap.size w w' := by
  have HB0 := Lib.hid hb
  have B0 := Lib.hid ((Below.refl _ w).alloc (Nat.le_refl w.heap.size) (.cells #[.int .u8 D.k, .int .i64 D.mi, .slice D.GA D.Gn D.Gc, .int .i64 D.mt, .string D.key, .string D.body, .int .i64 D.i, .int .i64 D.tm, .slice D.MA D.Mn D.Mc, .int .i64 D.tp, .int .i64 D.who, .int .i64 D.n] 26))
  have HD0 := Lib.hid (hD.alloc (.cells #[.int .u8 D.k, .int .i64 D.mi, .slice D.GA D.Gn D.Gc, .int .i64 D.mt, .string D.key, .string D.body, .int .i64 D.i, .int .i64 D.tm, .slice D.MA D.Mn D.Mc, .int .i64 D.tp, .int .i64 D.who, .int .i64 D.n] 26))
  have K0 := Lib.hid (Blk.new w 26 #[.int .u8 D.k, .int .i64 D.mi, .slice D.GA D.Gn D.Gc, .int .i64 D.mt, .string D.key, .string D.body, .int .i64 D.i, .int .i64 D.tm, .slice D.MA D.Mn D.Mc, .int .i64 D.tp, .int .i64 D.who, .int .i64 D.n])
  have hk := hD.kk
  have hml := hD.len_m
  have HML := Lib.hid hml
  have hlm := hD.lm
  clear hD hb hml
  have c0 := K0.out.cell 0
  have c1 := K0.out.cell 1
  have c2 := K0.out.cell 2
  have c3 := K0.out.cell 3
  have c4 := K0.out.cell 4
  have c5 := K0.out.cell 5
  have c6 := K0.out.cell 6
  have c7 := K0.out.cell 7
  have c8 := K0.out.cell 8
  have c9 := K0.out.cell 9
  have c10 := K0.out.cell 10
  have c11 := K0.out.cell 11
  go_enter Try.func48, Try.ntmps48
  go_wp2_with fail
  obtain ⟨sd, hsd⟩ : ∃ sd, Cp.sameM D.cmd (zeroHC 0).cmd = sd := ⟨_, rfl⟩
  have HSD := Lib.hid hsd
  refine (rsameMsg_any D (zeroHC 0) _ HD0.out (zeroHC_at _ _ (by omega)) sd hsd).mono ?_
  rintro e w1 ⟨rfl, hb⟩
  replace B0 := Lib.hid (then_ B0.out hb)
  replace HD0 := Lib.hid (HD0.out.up hb)
  replace K0 := Lib.hid (K0.out.below hb K0.out.lt)
  clear hsd hb c0 c1 c2 c3 c4 c5 c6 c7 c8 c9 c10 c11
  have c0 := K0.out.cell 0
  have c1 := K0.out.cell 1
  have c2 := K0.out.cell 2
  have c3 := K0.out.cell 3
  have c4 := K0.out.cell 4
  have c5 := K0.out.cell 5
  have c6 := K0.out.cell 6
  have c7 := K0.out.cell 7
  have c8 := K0.out.cell 8
  have c9 := K0.out.cell 9
  have c10 := K0.out.cell 10
  have c11 := K0.out.cell 11
  rcases (by omega : D.k = 0 ∨ D.k = 1 ∨ D.k = 2 ∨ D.k = 3 ∨ D.k = 4 ∨ D.k = 5 ∨ D.k = 6 ∨ 7 ≤ D.k) with h | h | h | h | h | h | h | h
  · have HK := Lib.hid h
    clear h
    have q0 : (D.k == 0) = true := beq_iff_eq.2 (by have := HK.out; omega)
    have q1 : (D.k == 1) = false := beq_eq_false_iff_ne.2 (by have := HK.out; omega)
    have q2 : (D.k == 2) = false := beq_eq_false_iff_ne.2 (by have := HK.out; omega)
    have q3 : (D.k == 3) = false := beq_eq_false_iff_ne.2 (by have := HK.out; omega)
    have q4 : (D.k == 4) = false := beq_eq_false_iff_ne.2 (by have := HK.out; omega)
    have q5 : (D.k == 5) = false := beq_eq_false_iff_ne.2 (by have := HK.out; omega)
    have q6 : (D.k == 6) = false := beq_eq_false_iff_ne.2 (by have := HK.out; omega)
    go_wp2_with fail
    refine (rsame12_any D (zeroHC 0) _ HD0.out (zeroHC_at _ _ (by omega)) b (by rw [← HB0.out]; exact (Cp.may_0 (c := D.cmd) HK.out).symm)).mono ?_
    rintro e w2 ⟨rfl, hb⟩
    replace B0 := Lib.hid (B0.out.trans (hb.mono B0.out.size))
    clear hb
    go_wp2
    go_ret
    exact ⟨rfl, B0.out⟩
  · have HK := Lib.hid h
    clear h
    have q0 : (D.k == 0) = false := beq_eq_false_iff_ne.2 (by have := HK.out; omega)
    have q1 : (D.k == 1) = true := beq_iff_eq.2 (by have := HK.out; omega)
    have q2 : (D.k == 2) = false := beq_eq_false_iff_ne.2 (by have := HK.out; omega)
    have q3 : (D.k == 3) = false := beq_eq_false_iff_ne.2 (by have := HK.out; omega)
    have q4 : (D.k == 4) = false := beq_eq_false_iff_ne.2 (by have := HK.out; omega)
    have q5 : (D.k == 5) = false := beq_eq_false_iff_ne.2 (by have := HK.out; omega)
    have q6 : (D.k == 6) = false := beq_eq_false_iff_ne.2 (by have := HK.out; omega)
    have HB : Hid ((Cp.msgB D.cmd && ((D.cmd.i == 0) && ((D.cmd.tm == 0) && ((((D.cmd.mem.length : Nat) : Int) == 0) && ((D.cmd.tp == 0) && ((D.cmd.who == 0) && (D.cmd.n == 0))))))) = b) := by
      rw [Hid, ← HB0.out]
      exact (Cp.may_1 (c := D.cmd) HK.out).symm
    have hmn : D.cmd.mem.length = D.Mn := HML.out
    rw [hmn] at HB
    clear hmn
    go_wp2_with fail
    cases hc : Cp.msgB D.cmd with
    | false =>
      refine (rmayMsg_any D _ HD0.out false hc).mono ?_
      rintro e w2 ⟨rfl, hb⟩
      replace B0 := Lib.hid (B0.out.trans (hb.mono B0.out.size))
      replace HD0 := Lib.hid (HD0.out.up hb)
      replace K0 := Lib.hid (K0.out.below hb K0.out.lt)
      clear hb c0 c1 c2 c3 c4 c5 c6 c7 c8 c9 c10 c11
      have c0 := K0.out.cell 0
      have c1 := K0.out.cell 1
      have c2 := K0.out.cell 2
      have c3 := K0.out.cell 3
      have c4 := K0.out.cell 4
      have c5 := K0.out.cell 5
      have c6 := K0.out.cell 6
      have c7 := K0.out.cell 7
      have c8 := K0.out.cell 8
      have c9 := K0.out.cell 9
      have c10 := K0.out.cell 10
      have c11 := K0.out.cell 11
      have F : Hid (b = false) := by rw [Hid, ← HB.out, hc] <;> rfl
      clear hc
      go_wp2
      go_ret
      rw [F.out]
      exact ⟨rfl, B0.out⟩
    | true =>
      refine (rmayMsg_any D _ HD0.out true hc).mono ?_
      rintro e w2 ⟨rfl, hb⟩
      replace B0 := Lib.hid (B0.out.trans (hb.mono B0.out.size))
      replace HD0 := Lib.hid (HD0.out.up hb)
      replace K0 := Lib.hid (K0.out.below hb K0.out.lt)
      clear hb c0 c1 c2 c3 c4 c5 c6 c7 c8 c9 c10 c11
      have c0 := K0.out.cell 0
      have c1 := K0.out.cell 1
      have c2 := K0.out.cell 2
      have c3 := K0.out.cell 3
      have c4 := K0.out.cell 4
      have c5 := K0.out.cell 5
      have c6 := K0.out.cell 6
      have c7 := K0.out.cell 7
      have c8 := K0.out.cell 8
      have c9 := K0.out.cell 9
      have c10 := K0.out.cell 10
      have c11 := K0.out.cell 11
      rw [hc, Bool.true_and] at HB
      clear hc
      cases hc : (D.cmd.i == 0) with
      | false =>
        have d1 : (D.i == 0) = false := hc
        have F : Hid (b = false) := by rw [Hid, ← HB.out, hc] <;> rfl
        clear hc
        go_wp2
        go_ret
        rw [F.out]
        exact ⟨rfl, B0.out⟩
      | true =>
        have d1 : (D.i == 0) = true := hc
        rw [hc, Bool.true_and] at HB
        clear hc
        cases hc : (D.cmd.tm == 0) with
        | false =>
          have d2 : (D.tm == 0) = false := hc
          have F : Hid (b = false) := by rw [Hid, ← HB.out, hc] <;> rfl
          clear hc
          go_wp2
          go_ret
          rw [F.out]
          exact ⟨rfl, B0.out⟩
        | true =>
          have d2 : (D.tm == 0) = true := hc
          rw [hc, Bool.true_and] at HB
          clear hc
          cases hc : (((D.Mn : Nat) : Int) == 0) with
          | false =>
            have d3 : (((D.Mn : Nat) : Int) == 0) = false := hc
            have F : Hid (b = false) := by rw [Hid, ← HB.out, hc] <;> rfl
            clear hc
            go_wp2
            go_ret
            rw [F.out]
            exact ⟨rfl, B0.out⟩
          | true =>
            have d3 : (((D.Mn : Nat) : Int) == 0) = true := hc
            rw [hc, Bool.true_and] at HB
            clear hc
            cases hc : (D.cmd.tp == 0) with
            | false =>
              have d4 : (D.tp == 0) = false := hc
              have F : Hid (b = false) := by rw [Hid, ← HB.out, hc] <;> rfl
              clear hc
              go_wp2
              go_ret
              rw [F.out]
              exact ⟨rfl, B0.out⟩
            | true =>
              have d4 : (D.tp == 0) = true := hc
              rw [hc, Bool.true_and] at HB
              clear hc
              cases hc : (D.cmd.who == 0) with
              | false =>
                have d5 : (D.who == 0) = false := hc
                have F : Hid (b = false) := by rw [Hid, ← HB.out, hc] <;> rfl
                clear hc
                go_wp2
                go_ret
                rw [F.out]
                exact ⟨rfl, B0.out⟩
              | true =>
                have d5 : (D.who == 0) = true := hc
                rw [hc, Bool.true_and] at HB
                clear hc
                cases hc : (D.cmd.n == 0) with
                | false =>
                  have d6 : (D.n == 0) = false := hc
                  have F : Hid (b = false) := by rw [Hid, ← HB.out, hc] <;> rfl
                  clear hc
                  go_wp2
                  go_ret
                  rw [F.out]
                  exact ⟨rfl, B0.out⟩
                | true =>
                  have d6 : (D.n == 0) = true := hc
                  have F : Hid (b = true) := by rw [Hid, ← HB.out]; exact hc
                  clear hc
                  go_wp2
                  go_ret
                  rw [F.out]
                  exact ⟨rfl, B0.out⟩
  · have HK := Lib.hid h
    clear h
    have q0 : (D.k == 0) = false := beq_eq_false_iff_ne.2 (by have := HK.out; omega)
    have q1 : (D.k == 1) = false := beq_eq_false_iff_ne.2 (by have := HK.out; omega)
    have q2 : (D.k == 2) = true := beq_iff_eq.2 (by have := HK.out; omega)
    have q3 : (D.k == 3) = false := beq_eq_false_iff_ne.2 (by have := HK.out; omega)
    have q4 : (D.k == 4) = false := beq_eq_false_iff_ne.2 (by have := HK.out; omega)
    have q5 : (D.k == 5) = false := beq_eq_false_iff_ne.2 (by have := HK.out; omega)
    have q6 : (D.k == 6) = false := beq_eq_false_iff_ne.2 (by have := HK.out; omega)
    have HB : Hid ((Cp.sameM D.cmd (Cp.zeroC 0) && (Wp.idB D.cmd.i && (Cp.inB 1 1073741824 D.cmd.tm && ((((D.cmd.mem.length : Nat) : Int) == 0) && ((D.cmd.tp == 0) && ((D.cmd.who == 0) && (D.cmd.n == 0))))))) = b) := by
      rw [Hid, ← HB0.out]
      exact (Cp.may_2 (c := D.cmd) HK.out).symm
    have hmn : D.cmd.mem.length = D.Mn := HML.out
    rw [hmn] at HB
    clear hmn
    cases sd with
    | false =>
      have hc : Cp.sameM D.cmd (Cp.zeroC 0) = false := HSD.out
      have F : Hid (b = false) := by rw [Hid, ← HB.out, hc] <;> rfl
      clear hc
      go_wp2
      go_ret
      rw [F.out]
      exact ⟨rfl, B0.out⟩
    | true =>
      have hc : Cp.sameM D.cmd (Cp.zeroC 0) = true := HSD.out
      rw [hc, Bool.true_and] at HB
      clear hc
      go_wp2_with fail
      cases hc : Wp.idB D.cmd.i with
      | false =>
        refine (rid12_any D.i _ false hc).mono ?_
        rintro e w' ⟨rfl, rfl⟩
        have F : Hid (b = false) := by rw [Hid, ← HB.out, hc] <;> rfl
        clear hc
        go_wp2
        go_ret
        rw [F.out]
        exact ⟨rfl, B0.out⟩
      | true =>
        refine (rid12_any D.i _ true hc).mono ?_
        rintro e w' ⟨rfl, rfl⟩
        rw [hc, Bool.true_and] at HB
        clear hc
        go_wp2_with fail
        cases hc : Cp.inB 1 1073741824 D.cmd.tm with
        | false =>
          refine (rin12_any D.tm 1 1073741825 _ false (by rw [inB_lt2 (hi := 1073741824) D.tm (by omega)]; exact hc)).mono ?_
          rintro e w' ⟨rfl, rfl⟩
          have F : Hid (b = false) := by rw [Hid, ← HB.out, hc] <;> rfl
          clear hc
          go_wp2
          go_ret
          rw [F.out]
          exact ⟨rfl, B0.out⟩
        | true =>
          refine (rin12_any D.tm 1 1073741825 _ true (by rw [inB_lt2 (hi := 1073741824) D.tm (by omega)]; exact hc)).mono ?_
          rintro e w' ⟨rfl, rfl⟩
          rw [hc, Bool.true_and] at HB
          clear hc
          cases hc : (((D.Mn : Nat) : Int) == 0) with
          | false =>
            have d3 : (((D.Mn : Nat) : Int) == 0) = false := hc
            have F : Hid (b = false) := by rw [Hid, ← HB.out, hc] <;> rfl
            clear hc
            go_wp2
            go_ret
            rw [F.out]
            exact ⟨rfl, B0.out⟩
          | true =>
            have d3 : (((D.Mn : Nat) : Int) == 0) = true := hc
            rw [hc, Bool.true_and] at HB
            clear hc
            cases hc : (D.cmd.tp == 0) with
            | false =>
              have d4 : (D.tp == 0) = false := hc
              have F : Hid (b = false) := by rw [Hid, ← HB.out, hc] <;> rfl
              clear hc
              go_wp2
              go_ret
              rw [F.out]
              exact ⟨rfl, B0.out⟩
            | true =>
              have d4 : (D.tp == 0) = true := hc
              rw [hc, Bool.true_and] at HB
              clear hc
              cases hc : (D.cmd.who == 0) with
              | false =>
                have d5 : (D.who == 0) = false := hc
                have F : Hid (b = false) := by rw [Hid, ← HB.out, hc] <;> rfl
                clear hc
                go_wp2
                go_ret
                rw [F.out]
                exact ⟨rfl, B0.out⟩
              | true =>
                have d5 : (D.who == 0) = true := hc
                rw [hc, Bool.true_and] at HB
                clear hc
                cases hc : (D.cmd.n == 0) with
                | false =>
                  have d6 : (D.n == 0) = false := hc
                  have F : Hid (b = false) := by rw [Hid, ← HB.out, hc] <;> rfl
                  clear hc
                  go_wp2
                  go_ret
                  rw [F.out]
                  exact ⟨rfl, B0.out⟩
                | true =>
                  have d6 : (D.n == 0) = true := hc
                  have F : Hid (b = true) := by rw [Hid, ← HB.out]; exact hc
                  clear hc
                  go_wp2
                  go_ret
                  rw [F.out]
                  exact ⟨rfl, B0.out⟩
  · have HK := Lib.hid h
    clear h
    have q0 : (D.k == 0) = false := beq_eq_false_iff_ne.2 (by have := HK.out; omega)
    have q1 : (D.k == 1) = false := beq_eq_false_iff_ne.2 (by have := HK.out; omega)
    have q2 : (D.k == 2) = false := beq_eq_false_iff_ne.2 (by have := HK.out; omega)
    have q3 : (D.k == 3) = true := beq_iff_eq.2 (by have := HK.out; omega)
    have q4 : (D.k == 4) = false := beq_eq_false_iff_ne.2 (by have := HK.out; omega)
    have q5 : (D.k == 5) = false := beq_eq_false_iff_ne.2 (by have := HK.out; omega)
    have q6 : (D.k == 6) = false := beq_eq_false_iff_ne.2 (by have := HK.out; omega)
    have HB : Hid ((Cp.sameM D.cmd (Cp.zeroC 0) && ((D.cmd.i == 0) && ((D.cmd.tm == 0) && ((Qm.check D.cmd.mem == 0) && ((D.cmd.tp == 0) && ((D.cmd.who == 0) && (D.cmd.n == 0))))))) = b) := by
      rw [Hid, ← HB0.out]
      exact (Cp.may_3 (c := D.cmd) HK.out).symm
    cases sd with
    | false =>
      have hc : Cp.sameM D.cmd (Cp.zeroC 0) = false := HSD.out
      have F : Hid (b = false) := by rw [Hid, ← HB.out, hc] <;> rfl
      clear hc
      go_wp2
      go_ret
      rw [F.out]
      exact ⟨rfl, B0.out⟩
    | true =>
      have hc : Cp.sameM D.cmd (Cp.zeroC 0) = true := HSD.out
      rw [hc, Bool.true_and] at HB
      clear hc
      cases hc : (D.cmd.i == 0) with
      | false =>
        have d1 : (D.i == 0) = false := hc
        have F : Hid (b = false) := by rw [Hid, ← HB.out, hc] <;> rfl
        clear hc
        go_wp2
        go_ret
        rw [F.out]
        exact ⟨rfl, B0.out⟩
      | true =>
        have d1 : (D.i == 0) = true := hc
        rw [hc, Bool.true_and] at HB
        clear hc
        cases hc : (D.cmd.tm == 0) with
        | false =>
          have d2 : (D.tm == 0) = false := hc
          have F : Hid (b = false) := by rw [Hid, ← HB.out, hc] <;> rfl
          clear hc
          go_wp2
          go_ret
          rw [F.out]
          exact ⟨rfl, B0.out⟩
        | true =>
          have d2 : (D.tm == 0) = true := hc
          rw [hc, Bool.true_and] at HB
          clear hc
          go_wp2_with fail
          obtain ⟨v, hv⟩ : ∃ v, Qm.check D.mem = v := ⟨_, rfl⟩
          have HC := rcheck_any D.MA D.Mn D.Mc _ D.mem _ HD0.out.rm hlm
          rw [hv] at HC
          refine HC.mono ?_
          rintro e w' ⟨rfl, q, rfl⟩
          replace B0 := Lib.hid (below_drewN B0.out q)
          clear HC
          cases hc : (v == 0) with
          | false =>
            have hc1 : (Qm.check D.cmd.mem == 0) = false := by rw [show Qm.check D.cmd.mem = v from hv]; exact hc
            have dv := hc
            have F : Hid (b = false) := by rw [Hid, ← HB.out, hc1]; rfl
            clear hc hc1 hv
            go_wp2
            go_ret
            rw [F.out]
            exact ⟨rfl, B0.out⟩
          | true =>
            have dv := hc
            replace hc : (Qm.check D.cmd.mem == 0) = true := by rw [show Qm.check D.cmd.mem = v from hv]; exact hc
            clear hv
            rw [hc, Bool.true_and] at HB
            clear hc
            cases hc : (D.cmd.tp == 0) with
            | false =>
              have d4 : (D.tp == 0) = false := hc
              have F : Hid (b = false) := by rw [Hid, ← HB.out, hc] <;> rfl
              clear hc
              go_wp2
              go_ret
              rw [F.out]
              exact ⟨rfl, B0.out⟩
            | true =>
              have d4 : (D.tp == 0) = true := hc
              rw [hc, Bool.true_and] at HB
              clear hc
              cases hc : (D.cmd.who == 0) with
              | false =>
                have d5 : (D.who == 0) = false := hc
                have F : Hid (b = false) := by rw [Hid, ← HB.out, hc] <;> rfl
                clear hc
                go_wp2
                go_ret
                rw [F.out]
                exact ⟨rfl, B0.out⟩
              | true =>
                have d5 : (D.who == 0) = true := hc
                rw [hc, Bool.true_and] at HB
                clear hc
                cases hc : (D.cmd.n == 0) with
                | false =>
                  have d6 : (D.n == 0) = false := hc
                  have F : Hid (b = false) := by rw [Hid, ← HB.out, hc] <;> rfl
                  clear hc
                  go_wp2
                  go_ret
                  rw [F.out]
                  exact ⟨rfl, B0.out⟩
                | true =>
                  have d6 : (D.n == 0) = true := hc
                  have F : Hid (b = true) := by rw [Hid, ← HB.out]; exact hc
                  clear hc
                  go_wp2
                  go_ret
                  rw [F.out]
                  exact ⟨rfl, B0.out⟩
  · have HK := Lib.hid h
    clear h
    have q0 : (D.k == 0) = false := beq_eq_false_iff_ne.2 (by have := HK.out; omega)
    have q1 : (D.k == 1) = false := beq_eq_false_iff_ne.2 (by have := HK.out; omega)
    have q2 : (D.k == 2) = false := beq_eq_false_iff_ne.2 (by have := HK.out; omega)
    have q3 : (D.k == 3) = false := beq_eq_false_iff_ne.2 (by have := HK.out; omega)
    have q4 : (D.k == 4) = true := beq_iff_eq.2 (by have := HK.out; omega)
    have q5 : (D.k == 5) = false := beq_eq_false_iff_ne.2 (by have := HK.out; omega)
    have q6 : (D.k == 6) = false := beq_eq_false_iff_ne.2 (by have := HK.out; omega)
    have HB : Hid ((Cp.sameM D.cmd (Cp.zeroC 0) && (Wp.idB D.cmd.i && ((D.cmd.tm == 0) && ((((D.cmd.mem.length : Nat) : Int) == 0) && (Cp.inB 0 3 D.cmd.tp && (Cp.inB 0 1073741824 D.cmd.n && Cp.inB 0 7 D.cmd.who)))))) = b) := by
      rw [Hid, ← HB0.out]
      exact (Cp.may_4 (c := D.cmd) HK.out).symm
    have hmn : D.cmd.mem.length = D.Mn := HML.out
    rw [hmn] at HB
    clear hmn
    cases sd with
    | false =>
      have hc : Cp.sameM D.cmd (Cp.zeroC 0) = false := HSD.out
      have F : Hid (b = false) := by rw [Hid, ← HB.out, hc] <;> rfl
      clear hc
      go_wp2
      go_ret
      rw [F.out]
      exact ⟨rfl, B0.out⟩
    | true =>
      have hc : Cp.sameM D.cmd (Cp.zeroC 0) = true := HSD.out
      rw [hc, Bool.true_and] at HB
      clear hc
      go_wp2_with fail
      cases hc : Wp.idB D.cmd.i with
      | false =>
        refine (rid12_any D.i _ false hc).mono ?_
        rintro e w' ⟨rfl, rfl⟩
        have F : Hid (b = false) := by rw [Hid, ← HB.out, hc] <;> rfl
        clear hc
        go_wp2
        go_ret
        rw [F.out]
        exact ⟨rfl, B0.out⟩
      | true =>
        refine (rid12_any D.i _ true hc).mono ?_
        rintro e w' ⟨rfl, rfl⟩
        rw [hc, Bool.true_and] at HB
        clear hc
        cases hc : (D.cmd.tm == 0) with
        | false =>
          have d2 : (D.tm == 0) = false := hc
          have F : Hid (b = false) := by rw [Hid, ← HB.out, hc] <;> rfl
          clear hc
          go_wp2
          go_ret
          rw [F.out]
          exact ⟨rfl, B0.out⟩
        | true =>
          have d2 : (D.tm == 0) = true := hc
          rw [hc, Bool.true_and] at HB
          clear hc
          cases hc : (((D.Mn : Nat) : Int) == 0) with
          | false =>
            have d3 : (((D.Mn : Nat) : Int) == 0) = false := hc
            have F : Hid (b = false) := by rw [Hid, ← HB.out, hc] <;> rfl
            clear hc
            go_wp2
            go_ret
            rw [F.out]
            exact ⟨rfl, B0.out⟩
          | true =>
            have d3 : (((D.Mn : Nat) : Int) == 0) = true := hc
            rw [hc, Bool.true_and] at HB
            clear hc
            go_wp2_with fail
            cases hc : Cp.inB 0 3 D.cmd.tp with
            | false =>
              refine (rin12_any D.tp 0 4 _ false (by rw [inB_lt2 (hi := 3) D.tp (by omega)]; exact hc)).mono ?_
              rintro e w' ⟨rfl, rfl⟩
              have F : Hid (b = false) := by rw [Hid, ← HB.out, hc] <;> rfl
              clear hc
              go_wp2
              go_ret
              rw [F.out]
              exact ⟨rfl, B0.out⟩
            | true =>
              refine (rin12_any D.tp 0 4 _ true (by rw [inB_lt2 (hi := 3) D.tp (by omega)]; exact hc)).mono ?_
              rintro e w' ⟨rfl, rfl⟩
              rw [hc, Bool.true_and] at HB
              clear hc
              go_wp2_with fail
              cases hc : Cp.inB 0 1073741824 D.cmd.n with
              | false =>
                refine (rin12_any D.n 0 1073741825 _ false (by rw [inB_lt2 (hi := 1073741824) D.n (by omega)]; exact hc)).mono ?_
                rintro e w' ⟨rfl, rfl⟩
                have F : Hid (b = false) := by rw [Hid, ← HB.out, hc] <;> rfl
                clear hc
                go_wp2
                go_ret
                rw [F.out]
                exact ⟨rfl, B0.out⟩
              | true =>
                refine (rin12_any D.n 0 1073741825 _ true (by rw [inB_lt2 (hi := 1073741824) D.n (by omega)]; exact hc)).mono ?_
                rintro e w' ⟨rfl, rfl⟩
                rw [hc, Bool.true_and] at HB
                clear hc
                cases hw0 : (D.who == 0) with
                | true =>
                  have F : Hid (b = true) := by rw [Hid, ← HB.out, show D.cmd.who = 0 from beq_iff_eq.1 hw0]; rfl
                  have dw := hw0
                  clear hw0
                  go_wp2
                  go_ret
                  rw [F.out]
                  exact ⟨rfl, B0.out⟩
                | false =>
                  go_wp2_with fail
                  refine (rin12_any D.who 0 8 _ b (by rw [inB_lt2 (hi := 7) D.who (by omega)]; exact HB.out)).mono ?_
                  rintro e w' ⟨rfl, rfl⟩
                  go_wp2
                  go_ret
                  exact ⟨rfl, B0.out⟩
  · have HK := Lib.hid h
    clear h
    have q0 : (D.k == 0) = false := beq_eq_false_iff_ne.2 (by have := HK.out; omega)
    have q1 : (D.k == 1) = false := beq_eq_false_iff_ne.2 (by have := HK.out; omega)
    have q2 : (D.k == 2) = false := beq_eq_false_iff_ne.2 (by have := HK.out; omega)
    have q3 : (D.k == 3) = false := beq_eq_false_iff_ne.2 (by have := HK.out; omega)
    have q4 : (D.k == 4) = false := beq_eq_false_iff_ne.2 (by have := HK.out; omega)
    have q5 : (D.k == 5) = true := beq_iff_eq.2 (by have := HK.out; omega)
    have q6 : (D.k == 6) = false := beq_eq_false_iff_ne.2 (by have := HK.out; omega)
    have HB : Hid ((Cp.sameM D.cmd (Cp.zeroC 0) && (Wp.idB D.cmd.i && ((D.cmd.tm == 0) && ((((D.cmd.mem.length : Nat) : Int) == 0) && (Cp.inB 0 3 D.cmd.tp && (Cp.inB 0 1073741824 D.cmd.n && (D.cmd.who == 0))))))) = b) := by
      rw [Hid, ← HB0.out]
      exact (Cp.may_5 (c := D.cmd) HK.out).symm
    have hmn : D.cmd.mem.length = D.Mn := HML.out
    rw [hmn] at HB
    clear hmn
    cases sd with
    | false =>
      have hc : Cp.sameM D.cmd (Cp.zeroC 0) = false := HSD.out
      have F : Hid (b = false) := by rw [Hid, ← HB.out, hc] <;> rfl
      clear hc
      go_wp2
      go_ret
      rw [F.out]
      exact ⟨rfl, B0.out⟩
    | true =>
      have hc : Cp.sameM D.cmd (Cp.zeroC 0) = true := HSD.out
      rw [hc, Bool.true_and] at HB
      clear hc
      go_wp2_with fail
      cases hc : Wp.idB D.cmd.i with
      | false =>
        refine (rid12_any D.i _ false hc).mono ?_
        rintro e w' ⟨rfl, rfl⟩
        have F : Hid (b = false) := by rw [Hid, ← HB.out, hc] <;> rfl
        clear hc
        go_wp2
        go_ret
        rw [F.out]
        exact ⟨rfl, B0.out⟩
      | true =>
        refine (rid12_any D.i _ true hc).mono ?_
        rintro e w' ⟨rfl, rfl⟩
        rw [hc, Bool.true_and] at HB
        clear hc
        cases hc : (D.cmd.tm == 0) with
        | false =>
          have d2 : (D.tm == 0) = false := hc
          have F : Hid (b = false) := by rw [Hid, ← HB.out, hc] <;> rfl
          clear hc
          go_wp2
          go_ret
          rw [F.out]
          exact ⟨rfl, B0.out⟩
        | true =>
          have d2 : (D.tm == 0) = true := hc
          rw [hc, Bool.true_and] at HB
          clear hc
          cases hc : (((D.Mn : Nat) : Int) == 0) with
          | false =>
            have d3 : (((D.Mn : Nat) : Int) == 0) = false := hc
            have F : Hid (b = false) := by rw [Hid, ← HB.out, hc] <;> rfl
            clear hc
            go_wp2
            go_ret
            rw [F.out]
            exact ⟨rfl, B0.out⟩
          | true =>
            have d3 : (((D.Mn : Nat) : Int) == 0) = true := hc
            rw [hc, Bool.true_and] at HB
            clear hc
            go_wp2_with fail
            cases hc : Cp.inB 0 3 D.cmd.tp with
            | false =>
              refine (rin12_any D.tp 0 4 _ false (by rw [inB_lt2 (hi := 3) D.tp (by omega)]; exact hc)).mono ?_
              rintro e w' ⟨rfl, rfl⟩
              have F : Hid (b = false) := by rw [Hid, ← HB.out, hc] <;> rfl
              clear hc
              go_wp2
              go_ret
              rw [F.out]
              exact ⟨rfl, B0.out⟩
            | true =>
              refine (rin12_any D.tp 0 4 _ true (by rw [inB_lt2 (hi := 3) D.tp (by omega)]; exact hc)).mono ?_
              rintro e w' ⟨rfl, rfl⟩
              rw [hc, Bool.true_and] at HB
              clear hc
              go_wp2_with fail
              cases hc : Cp.inB 0 1073741824 D.cmd.n with
              | false =>
                refine (rin12_any D.n 0 1073741825 _ false (by rw [inB_lt2 (hi := 1073741824) D.n (by omega)]; exact hc)).mono ?_
                rintro e w' ⟨rfl, rfl⟩
                have F : Hid (b = false) := by rw [Hid, ← HB.out, hc] <;> rfl
                clear hc
                go_wp2
                go_ret
                rw [F.out]
                exact ⟨rfl, B0.out⟩
              | true =>
                refine (rin12_any D.n 0 1073741825 _ true (by rw [inB_lt2 (hi := 1073741824) D.n (by omega)]; exact hc)).mono ?_
                rintro e w' ⟨rfl, rfl⟩
                rw [hc, Bool.true_and] at HB
                clear hc
                cases hc : (D.cmd.who == 0) with
                | false =>
                  have d6 : (D.who == 0) = false := hc
                  have F : Hid (b = false) := by rw [Hid, ← HB.out, hc] <;> rfl
                  clear hc
                  go_wp2
                  go_ret
                  rw [F.out]
                  exact ⟨rfl, B0.out⟩
                | true =>
                  have d6 : (D.who == 0) = true := hc
                  have F : Hid (b = true) := by rw [Hid, ← HB.out]; exact hc
                  clear hc
                  go_wp2
                  go_ret
                  rw [F.out]
                  exact ⟨rfl, B0.out⟩
  · have HK := Lib.hid h
    clear h
    have q0 : (D.k == 0) = false := beq_eq_false_iff_ne.2 (by have := HK.out; omega)
    have q1 : (D.k == 1) = false := beq_eq_false_iff_ne.2 (by have := HK.out; omega)
    have q2 : (D.k == 2) = false := beq_eq_false_iff_ne.2 (by have := HK.out; omega)
    have q3 : (D.k == 3) = false := beq_eq_false_iff_ne.2 (by have := HK.out; omega)
    have q4 : (D.k == 4) = false := beq_eq_false_iff_ne.2 (by have := HK.out; omega)
    have q5 : (D.k == 5) = false := beq_eq_false_iff_ne.2 (by have := HK.out; omega)
    have q6 : (D.k == 6) = true := beq_iff_eq.2 (by have := HK.out; omega)
    have HB : Hid ((Cp.sameM D.cmd (Cp.zeroC 0) && (Wp.idB D.cmd.i && ((D.cmd.tm == 0) && ((((D.cmd.mem.length : Nat) : Int) == 0) && (Cp.inB 0 3 D.cmd.tp && (Cp.inB 0 1073741824 D.cmd.n && (D.cmd.who == 0))))))) = b) := by
      rw [Hid, ← HB0.out]
      exact (Cp.may_6 (c := D.cmd) HK.out).symm
    have hmn : D.cmd.mem.length = D.Mn := HML.out
    rw [hmn] at HB
    clear hmn
    cases sd with
    | false =>
      have hc : Cp.sameM D.cmd (Cp.zeroC 0) = false := HSD.out
      have F : Hid (b = false) := by rw [Hid, ← HB.out, hc] <;> rfl
      clear hc
      go_wp2
      go_ret
      rw [F.out]
      exact ⟨rfl, B0.out⟩
    | true =>
      have hc : Cp.sameM D.cmd (Cp.zeroC 0) = true := HSD.out
      rw [hc, Bool.true_and] at HB
      clear hc
      go_wp2_with fail
      cases hc : Wp.idB D.cmd.i with
      | false =>
        refine (rid12_any D.i _ false hc).mono ?_
        rintro e w' ⟨rfl, rfl⟩
        have F : Hid (b = false) := by rw [Hid, ← HB.out, hc] <;> rfl
        clear hc
        go_wp2
        go_ret
        rw [F.out]
        exact ⟨rfl, B0.out⟩
      | true =>
        refine (rid12_any D.i _ true hc).mono ?_
        rintro e w' ⟨rfl, rfl⟩
        rw [hc, Bool.true_and] at HB
        clear hc
        cases hc : (D.cmd.tm == 0) with
        | false =>
          have d2 : (D.tm == 0) = false := hc
          have F : Hid (b = false) := by rw [Hid, ← HB.out, hc] <;> rfl
          clear hc
          go_wp2
          go_ret
          rw [F.out]
          exact ⟨rfl, B0.out⟩
        | true =>
          have d2 : (D.tm == 0) = true := hc
          rw [hc, Bool.true_and] at HB
          clear hc
          cases hc : (((D.Mn : Nat) : Int) == 0) with
          | false =>
            have d3 : (((D.Mn : Nat) : Int) == 0) = false := hc
            have F : Hid (b = false) := by rw [Hid, ← HB.out, hc] <;> rfl
            clear hc
            go_wp2
            go_ret
            rw [F.out]
            exact ⟨rfl, B0.out⟩
          | true =>
            have d3 : (((D.Mn : Nat) : Int) == 0) = true := hc
            rw [hc, Bool.true_and] at HB
            clear hc
            go_wp2_with fail
            cases hc : Cp.inB 0 3 D.cmd.tp with
            | false =>
              refine (rin12_any D.tp 0 4 _ false (by rw [inB_lt2 (hi := 3) D.tp (by omega)]; exact hc)).mono ?_
              rintro e w' ⟨rfl, rfl⟩
              have F : Hid (b = false) := by rw [Hid, ← HB.out, hc] <;> rfl
              clear hc
              go_wp2
              go_ret
              rw [F.out]
              exact ⟨rfl, B0.out⟩
            | true =>
              refine (rin12_any D.tp 0 4 _ true (by rw [inB_lt2 (hi := 3) D.tp (by omega)]; exact hc)).mono ?_
              rintro e w' ⟨rfl, rfl⟩
              rw [hc, Bool.true_and] at HB
              clear hc
              go_wp2_with fail
              cases hc : Cp.inB 0 1073741824 D.cmd.n with
              | false =>
                refine (rin12_any D.n 0 1073741825 _ false (by rw [inB_lt2 (hi := 1073741824) D.n (by omega)]; exact hc)).mono ?_
                rintro e w' ⟨rfl, rfl⟩
                have F : Hid (b = false) := by rw [Hid, ← HB.out, hc] <;> rfl
                clear hc
                go_wp2
                go_ret
                rw [F.out]
                exact ⟨rfl, B0.out⟩
              | true =>
                refine (rin12_any D.n 0 1073741825 _ true (by rw [inB_lt2 (hi := 1073741824) D.n (by omega)]; exact hc)).mono ?_
                rintro e w' ⟨rfl, rfl⟩
                rw [hc, Bool.true_and] at HB
                clear hc
                cases hc : (D.cmd.who == 0) with
                | false =>
                  have d6 : (D.who == 0) = false := hc
                  have F : Hid (b = false) := by rw [Hid, ← HB.out, hc] <;> rfl
                  clear hc
                  go_wp2
                  go_ret
                  rw [F.out]
                  exact ⟨rfl, B0.out⟩
                | true =>
                  have d6 : (D.who == 0) = true := hc
                  have F : Hid (b = true) := by rw [Hid, ← HB.out]; exact hc
                  clear hc
                  go_wp2
                  go_ret
                  rw [F.out]
                  exact ⟨rfl, B0.out⟩
  · have HK := Lib.hid h
    clear h
    have q0 : (D.k == 0) = false := beq_eq_false_iff_ne.2 (by have := HK.out; omega)
    have q1 : (D.k == 1) = false := beq_eq_false_iff_ne.2 (by have := HK.out; omega)
    have q2 : (D.k == 2) = false := beq_eq_false_iff_ne.2 (by have := HK.out; omega)
    have q3 : (D.k == 3) = false := beq_eq_false_iff_ne.2 (by have := HK.out; omega)
    have q4 : (D.k == 4) = false := beq_eq_false_iff_ne.2 (by have := HK.out; omega)
    have q5 : (D.k == 5) = false := beq_eq_false_iff_ne.2 (by have := HK.out; omega)
    have q6 : (D.k == 6) = false := beq_eq_false_iff_ne.2 (by have := HK.out; omega)
    have F : Hid (b = false) := by rw [Hid, ← HB0.out]; exact Cp.may_else (c := D.cmd) (Or.inr (by have := HK.out; show 6 < D.k; omega))
    go_wp2
    go_ret
    rw [F.out]
    exact ⟨rfl, B0.out⟩

theorem rcheck12_any (D : HC) (w : World) (hD : CmdAt w w.heap.size D) (b : Bool) (hb : Cp.mayC D.cmd = b) :
    Calls Try.prog 17 #[.agg #[.int .u8 D.k, .int .i64 D.mi, .slice D.GA D.Gn D.Gc, .int .i64 D.mt, .string D.key, .string D.body, .int .i64 D.i, .int .i64 D.tm, .slice D.MA D.Mn D.Mc, .int .i64 D.tp, .int .i64 D.who, .int .i64 D.n]] w fun e w' => e = .returned (.int .i64 (errK b)) ∧ Below w.heap.size w w' := by
  have B0 := Lib.hid ((Below.refl _ w).alloc (Nat.le_refl w.heap.size) (.cells #[.int .u8 D.k, .int .i64 D.mi, .slice D.GA D.Gn D.Gc, .int .i64 D.mt, .string D.key, .string D.body, .int .i64 D.i, .int .i64 D.tm, .slice D.MA D.Mn D.Mc, .int .i64 D.tp, .int .i64 D.who, .int .i64 D.n] 26))
  have HD0 := Lib.hid (hD.alloc (.cells #[.int .u8 D.k, .int .i64 D.mi, .slice D.GA D.Gn D.Gc, .int .i64 D.mt, .string D.key, .string D.body, .int .i64 D.i, .int .i64 D.tm, .slice D.MA D.Mn D.Mc, .int .i64 D.tp, .int .i64 D.who, .int .i64 D.n] 26))
  have HB := Lib.hid hb
  have K0 := Lib.hid (Blk.new w 26 #[.int .u8 D.k, .int .i64 D.mi, .slice D.GA D.Gn D.Gc, .int .i64 D.mt, .string D.key, .string D.body, .int .i64 D.i, .int .i64 D.tm, .slice D.MA D.Mn D.Mc, .int .i64 D.tp, .int .i64 D.who, .int .i64 D.n])
  clear hD hb
  have c0 := K0.out.cell 0
  have c1 := K0.out.cell 1
  have c2 := K0.out.cell 2
  have c3 := K0.out.cell 3
  have c4 := K0.out.cell 4
  have c5 := K0.out.cell 5
  have c6 := K0.out.cell 6
  have c7 := K0.out.cell 7
  have c8 := K0.out.cell 8
  have c9 := K0.out.cell 9
  have c10 := K0.out.cell 10
  have c11 := K0.out.cell 11
  go_enter Try.func17, Try.ntmps17
  go_wp2_with fail
  refine (rmay12_any D _ HD0.out b HB.out).mono ?_
  rintro e w1 ⟨rfl, hb⟩
  have B1 := Lib.hid (then_ B0.out hb)
  clear hb c0 c1 c2 c3 c4 c5 c6 c7 c8 c9 c10 c11
  cases b with
  | false => go_wp2; go_ret; exact ⟨rfl, B1.out⟩
  | true => go_wp2; go_ret; exact ⟨rfl, B1.out⟩
end Go.Proofs.Ytaoekfgeggopbaa
