/-
  command.in, id, SameMessage, Same, and the reference's.
-/
import Derived.Test.YtaoekfgeggopbaaCmdMem
import Derived.Test.YtaoekfgeggopbaaNumMore
namespace Go.Proofs.Ytaoekfgeggopbaa
open Go.RowKit
set_option maxHeartbeats 4000000
set_option maxRecDepth 100000
set_option linter.unusedVariables false
set_option linter.unusedSimpArgs false

theorem cin_any (n lo hi : Int) (w : World) (b : Bool) (hb : Cp.inB lo hi n = b) : Calls Try.prog 51 #[.int .i64 n, .int .i64 lo, .int .i64 hi] w fun e w' => e = .returned (.bool b) ∧ w = w' := by
  subst hb
  unfold Cp.inB
  by_cases h0 : lo ≤ n
  · by_cases h1 : n ≤ hi
    · rw [decide_eq_true ⟨h0, h1⟩]
      go_enter Try.func51, Try.ntmps51
      go_wp2
      go_ret
      exact ⟨rfl, rfl⟩
    · rw [decide_eq_false (fun x => h1 x.2)]
      go_enter Try.func51, Try.ntmps51
      go_wp2
      go_ret
      exact ⟨rfl, rfl⟩
  · rw [decide_eq_false (fun x => h0 x.1)]
    go_enter Try.func51, Try.ntmps51
    go_wp2
    go_ret
    exact ⟨rfl, rfl⟩
theorem cid_any (n : Int) (w : World) (b : Bool) (hb : Wp.idB n = b) : Calls Try.prog 52 #[.int .i64 n] w fun e w' => e = .returned (.bool b) ∧ w = w' := by
  have H := Lib.hid (cin_any n 0 6291455 w b hb)
  clear hb
  go_enter Try.func52, Try.ntmps52
  go_wp2_with (first | (with_reducible refine H.out.mono ?_; rintro e w' ⟨rfl, rfl⟩))
  go_ret
  exact ⟨rfl, rfl⟩
theorem rin12_any (n lo hi : Int) (w : World) (b : Bool) (hb : decide (lo ≤ n ∧ n < hi) = b) : Calls Try.prog 76 #[.int .i64 n, .int .i64 lo, .int .i64 hi] w fun e w' => e = .returned (.bool b) ∧ w = w' := by
  subst hb
  by_cases h0 : lo ≤ n
  · by_cases h1 : n < hi
    · rw [decide_eq_true ⟨h0, h1⟩]
      go_enter Try.func76, Try.ntmps76
      go_wp2
      go_ret
      exact ⟨rfl, rfl⟩
    · rw [decide_eq_false (fun x => h1 x.2)]
      go_enter Try.func76, Try.ntmps76
      go_wp2
      go_ret
      exact ⟨rfl, rfl⟩
  · rw [decide_eq_false (fun x => h0 x.1)]
    go_enter Try.func76, Try.ntmps76
    go_wp2
    go_ret
    exact ⟨rfl, rfl⟩
theorem rid12_any (n : Int) (w : World) (b : Bool) (hb : Wp.idB n = b) : Calls Try.prog 75 #[.int .i64 n] w fun e w' => e = .returned (.bool b) ∧ w = w' := by
  have H := Lib.hid (rin12_any n 0 6291456 w b (by rw [← hb]; unfold Wp.idB; apply Bool.eq_iff_iff.2; simp only [decide_eq_true_eq]; omega))
  clear hb
  go_enter Try.func75, Try.ntmps75
  go_wp2_with (first | (with_reducible refine H.out.mono ?_; rintro e w' ⟨rfl, rfl⟩))
  go_ret
  exact ⟨rfl, rfl⟩
/-! ### the same -/
theorem csameMsg_any (D E : HC) (w : World) (hD : CmdAt w w.heap.size D) (hE : CmdAt w w.heap.size E) (b : Bool) (hb : Cp.sameM D.cmd E.cmd = b) :
    Calls Try.prog 22 #[.agg #[.int .i64 D.mi, .slice D.GA D.Gn D.Gc, .int .i64 D.mt, .string D.key, .string D.body], .agg #[.int .i64 E.mi, .slice E.GA E.Gn E.Gc, .int .i64 E.mt, .string E.key, .string E.body]] w fun e w' => e = .returned (.bool b) ∧ Below w.heap.size w w' := by
  have HD1 := Lib.hid hD
  have HE1 := Lib.hid hE
  have HB := Lib.hid hb
  clear hb hD hE
  obtain ⟨k, mi, GA, Gn, Gc, gs, mt, key, body, i, tm, MA, Mn, Mc, mem, tp, who, n⟩ := D
  obtain ⟨k', mi', GA', Gn', Gc', gs', mt', key', body', i', tm', MA', Mn', Mc', mem', tp', who', n'⟩ := E
  simp only
  have B0 := Lib.hid (((Below.refl _ w).alloc (Nat.le_refl w.heap.size) (.cells #[.int .i64 mi, .slice GA Gn Gc, .int .i64 mt, .string key, .string body] 24)).alloc (by simp) (.cells #[.int .i64 mi', .slice GA' Gn' Gc', .int .i64 mt', .string key', .string body'] 24))
  have HD0 := Lib.hid ((HD1.out.below B0.out).more B0.out.size)
  have HE0 := Lib.hid ((HE1.out.below B0.out).more B0.out.size)
  clear HD1 HE1
  have K1 := Lib.hid ((Blk.new w _ _).alloc (.cells #[.int .i64 mi', .slice GA' Gn' Gc', .int .i64 mt', .string key', .string body'] 24) : Blk ((w.alloc (.cells #[.int .i64 mi, .slice GA Gn Gc, .int .i64 mt, .string key, .string body] 24)).alloc (.cells #[.int .i64 mi', .slice GA' Gn' Gc', .int .i64 mt', .string key', .string body'] 24)) w.heap.size 24 #[.int .i64 mi, .slice GA Gn Gc, .int .i64 mt, .string key, .string body])
  have K2 := Lib.hid (Blk.newN (w := w.alloc (.cells #[.int .i64 mi, .slice GA Gn Gc, .int .i64 mt, .string key, .string body] 24)) (g := w.heap.size + 1) (by simp) 24 #[.int .i64 mi', .slice GA' Gn' Gc', .int .i64 mt', .string key', .string body'])
  by_cases h0 : mi = mi'
  rotate_left
  · have F : Hid (b = false) := by
      rw [Hid, ← HB.out]
      refine Bool.eq_false_iff.2 fun x => h0 ?_
      exact (Cp.sameM_of x).1
    have hq : (mi == mi') = false := beq_eq_false_iff_ne.2 h0
    go_enter Try.func22, Try.ntmps22
    go_wp2
    go_ret
    rw [F.out]
    exact ⟨rfl, B0.out⟩
  subst h0
  go_enter Try.func22, Try.ntmps22
  go_wp2_with fail
  refine (eqInts_any GA Gn Gc GA' Gn' Gc' _ _ gs gs' _ HD0.out.rg HE0.out.rg HD0.out.lg HE0.out.lg _ rfl).mono ?_
  rintro e1 w1 ⟨rfl, q1, rfl⟩
  replace B0 := Lib.hid (below_drewN B0.out q1)
  replace HD0 := Lib.hid (HD0.out.drewN q1)
  replace HE0 := Lib.hid (HE0.out.drewN q1)
  replace K1 := Lib.hid (K1.out.drewN q1)
  replace K2 := Lib.hid (K2.out.drewN q1)
  cases h1 : decide (gs = gs') with
  | false =>
    have F : Hid (b = false) := by
      rw [Hid, ← HB.out]
      refine Bool.eq_false_iff.2 fun x => of_decide_eq_false h1 ?_
      exact (Cp.sameM_of x).2.1
    clear h1
    have k1_0 := K1.out.cell 0
    have k1_1 := K1.out.cell 1
    have k1_2 := K1.out.cell 2
    have k1_3 := K1.out.cell 3
    have k1_4 := K1.out.cell 4
    have k2_0 := K2.out.cell 0
    have k2_1 := K2.out.cell 1
    have k2_2 := K2.out.cell 2
    have k2_3 := K2.out.cell 3
    have k2_4 := K2.out.cell 4
    go_wp2
    go_ret
    rw [F.out]
    exact ⟨rfl, B0.out⟩
  | true =>
    have H1 := Lib.hid h1
    clear h1
    have k1_0 := K1.out.cell 0
    have k1_1 := K1.out.cell 1
    have k1_2 := K1.out.cell 2
    have k1_3 := K1.out.cell 3
    have k1_4 := K1.out.cell 4
    have k2_0 := K2.out.cell 0
    have k2_1 := K2.out.cell 1
    have k2_2 := K2.out.cell 2
    have k2_3 := K2.out.cell 3
    have k2_4 := K2.out.cell 4
    by_cases h2 : mt = mt'
    rotate_left
    · have F : Hid (b = false) := by
        rw [Hid, ← HB.out]
        refine Bool.eq_false_iff.2 fun x => h2 ?_
        exact (Cp.sameM_of x).2.2.1
      have hq : (mt == mt') = false := beq_eq_false_iff_ne.2 h2
      go_wp2
      go_ret
      rw [F.out]
      exact ⟨rfl, B0.out⟩
    subst h2
    by_cases h3 : key = key'
    rotate_left
    · have F : Hid (b = false) := by
        rw [Hid, ← HB.out]
        refine Bool.eq_false_iff.2 fun x => h3 ?_
        exact data_inj (Cp.sameM_of x).2.2.2.1
      have hq : (key.toList == key'.toList) = false := beq_eq_false_iff_ne.2 fun x => h3 (data_inj (by rw [← toList_of, ← toList_of]; exact x))
      go_wp2
      go_ret
      rw [F.out]
      exact ⟨rfl, B0.out⟩
    subst h3
    by_cases h4 : body = body'
    rotate_left
    · have F : Hid (b = false) := by
        rw [Hid, ← HB.out]
        refine Bool.eq_false_iff.2 fun x => h4 ?_
        exact data_inj (Cp.sameM_of x).2.2.2.2
      have hq : (body.toList == body'.toList) = false := beq_eq_false_iff_ne.2 fun x => h4 (data_inj (by rw [← toList_of, ← toList_of]; exact x))
      go_wp2
      go_ret
      rw [F.out]
      exact ⟨rfl, B0.out⟩
    subst h4
    have F : Hid (b = true) := by
      rw [Hid, ← HB.out]
      have g1 : gs = gs' := of_decide_eq_true H1.out
      simp only [Cp.sameM, Bool.and_eq_true]
      exact ⟨decide_eq_true rfl, decide_eq_true g1, decide_eq_true rfl, decide_eq_true rfl, decide_eq_true rfl⟩
    go_wp2
    go_ret
    rw [F.out]
    exact ⟨rfl, B0.out⟩
theorem csame_any (D E : HC) (w : World) (hD : CmdAt w w.heap.size D) (hE : CmdAt w w.heap.size E) (b : Bool) (hb : Cp.sameC D.cmd E.cmd = b) :
    Calls Try.prog 20 #[.agg #[.int .u8 D.k, .int .i64 D.mi, .slice D.GA D.Gn D.Gc, .int .i64 D.mt, .string D.key, .string D.body, .int .i64 D.i, .int .i64 D.tm, .slice D.MA D.Mn D.Mc, .int .i64 D.tp, .int .i64 D.who, .int .i64 D.n], .agg #[.int .u8 E.k, .int .i64 E.mi, .slice E.GA E.Gn E.Gc, .int .i64 E.mt, .string E.key, .string E.body, .int .i64 E.i, .int .i64 E.tm, .slice E.MA E.Mn E.Mc, .int .i64 E.tp, .int .i64 E.who, .int .i64 E.n]] w fun e w' => e = .returned (.bool b) ∧ Below w.heap.size w w' := by
  have HD1 := Lib.hid hD
  have HE1 := Lib.hid hE
  have HB := Lib.hid hb
  clear hb hD hE
  obtain ⟨k, mi, GA, Gn, Gc, gs, mt, key, body, i, tm, MA, Mn, Mc, mem, tp, who, n⟩ := D
  obtain ⟨k', mi', GA', Gn', Gc', gs', mt', key', body', i', tm', MA', Mn', Mc', mem', tp', who', n'⟩ := E
  simp only
  have B0 := Lib.hid (((Below.refl _ w).alloc (Nat.le_refl w.heap.size) (.cells #[.int .u8 k, .int .i64 mi, .slice GA Gn Gc, .int .i64 mt, .string key, .string body, .int .i64 i, .int .i64 tm, .slice MA Mn Mc, .int .i64 tp, .int .i64 who, .int .i64 n] 26)).alloc (by simp) (.cells #[.int .u8 k', .int .i64 mi', .slice GA' Gn' Gc', .int .i64 mt', .string key', .string body', .int .i64 i', .int .i64 tm', .slice MA' Mn' Mc', .int .i64 tp', .int .i64 who', .int .i64 n'] 26))
  have HD0 := Lib.hid ((HD1.out.below B0.out).more B0.out.size)
  have HE0 := Lib.hid ((HE1.out.below B0.out).more B0.out.size)
  clear HD1 HE1
  have K1 := Lib.hid ((Blk.new w _ _).alloc (.cells #[.int .u8 k', .int .i64 mi', .slice GA' Gn' Gc', .int .i64 mt', .string key', .string body', .int .i64 i', .int .i64 tm', .slice MA' Mn' Mc', .int .i64 tp', .int .i64 who', .int .i64 n'] 26) : Blk ((w.alloc (.cells #[.int .u8 k, .int .i64 mi, .slice GA Gn Gc, .int .i64 mt, .string key, .string body, .int .i64 i, .int .i64 tm, .slice MA Mn Mc, .int .i64 tp, .int .i64 who, .int .i64 n] 26)).alloc (.cells #[.int .u8 k', .int .i64 mi', .slice GA' Gn' Gc', .int .i64 mt', .string key', .string body', .int .i64 i', .int .i64 tm', .slice MA' Mn' Mc', .int .i64 tp', .int .i64 who', .int .i64 n'] 26)) w.heap.size 26 #[.int .u8 k, .int .i64 mi, .slice GA Gn Gc, .int .i64 mt, .string key, .string body, .int .i64 i, .int .i64 tm, .slice MA Mn Mc, .int .i64 tp, .int .i64 who, .int .i64 n])
  have K2 := Lib.hid (Blk.newN (w := w.alloc (.cells #[.int .u8 k, .int .i64 mi, .slice GA Gn Gc, .int .i64 mt, .string key, .string body, .int .i64 i, .int .i64 tm, .slice MA Mn Mc, .int .i64 tp, .int .i64 who, .int .i64 n] 26)) (g := w.heap.size + 1) (by simp) 26 #[.int .u8 k', .int .i64 mi', .slice GA' Gn' Gc', .int .i64 mt', .string key', .string body', .int .i64 i', .int .i64 tm', .slice MA' Mn' Mc', .int .i64 tp', .int .i64 who', .int .i64 n'])
  by_cases h0 : k = k'
  rotate_left
  · have F : Hid (b = false) := by
      rw [Hid, ← HB.out]
      refine Bool.eq_false_iff.2 fun x => h0 ?_
      exact congrArg Cp.Cmd.k (Cp.sameC_of x)
    have hq : (k == k') = false := beq_eq_false_iff_ne.2 h0
    go_enter Try.func20, Try.ntmps20
    go_wp2
    go_ret
    rw [F.out]
    exact ⟨rfl, B0.out⟩
  subst h0
  go_enter Try.func20, Try.ntmps20
  go_wp2_with fail
  refine (csameMsg_any ⟨k, mi, GA, Gn, Gc, gs, mt, key, body, i, tm, MA, Mn, Mc, mem, tp, who, n⟩ ⟨k, mi', GA', Gn', Gc', gs', mt', key', body', i', tm', MA', Mn', Mc', mem', tp', who', n'⟩ _ HD0.out HE0.out _ rfl).mono ?_
  rintro e1 w1 ⟨rfl, hb1⟩
  replace K1 := Lib.hid (K1.out.below hb1 K1.out.lt)
  replace K2 := Lib.hid (K2.out.below hb1 K2.out.lt)
  replace HD0 := Lib.hid (HD0.out.up hb1)
  replace HE0 := Lib.hid (HE0.out.up hb1)
  replace B0 := Lib.hid (B0.out.trans (hb1.mono B0.out.size))
  clear hb1
  cases h1 : Cp.sameM (HC.cmd ⟨k, mi, GA, Gn, Gc, gs, mt, key, body, i, tm, MA, Mn, Mc, mem, tp, who, n⟩) (HC.cmd ⟨k, mi', GA', Gn', Gc', gs', mt', key', body', i', tm', MA', Mn', Mc', mem', tp', who', n'⟩) with
  | false =>
    have F : Hid (b = false) := by
      rw [Hid, ← HB.out]
      refine Bool.eq_false_iff.2 fun x => ?_
      have := Cp.sameC_of x
      rw [this, Cp.sameM_refl] at h1
      cases h1
    clear h1
    have k1_0 := K1.out.cell 0
    have k1_1 := K1.out.cell 1
    have k1_2 := K1.out.cell 2
    have k1_3 := K1.out.cell 3
    have k1_4 := K1.out.cell 4
    have k1_5 := K1.out.cell 5
    have k1_6 := K1.out.cell 6
    have k1_7 := K1.out.cell 7
    have k1_8 := K1.out.cell 8
    have k1_9 := K1.out.cell 9
    have k1_10 := K1.out.cell 10
    have k1_11 := K1.out.cell 11
    have k2_0 := K2.out.cell 0
    have k2_1 := K2.out.cell 1
    have k2_2 := K2.out.cell 2
    have k2_3 := K2.out.cell 3
    have k2_4 := K2.out.cell 4
    have k2_5 := K2.out.cell 5
    have k2_6 := K2.out.cell 6
    have k2_7 := K2.out.cell 7
    have k2_8 := K2.out.cell 8
    have k2_9 := K2.out.cell 9
    have k2_10 := K2.out.cell 10
    have k2_11 := K2.out.cell 11
    go_wp2
    go_ret
    rw [F.out]
    exact ⟨rfl, B0.out⟩
  | true =>
    have H1 := Lib.hid h1
    clear h1
    have k1_0 := K1.out.cell 0
    have k1_1 := K1.out.cell 1
    have k1_2 := K1.out.cell 2
    have k1_3 := K1.out.cell 3
    have k1_4 := K1.out.cell 4
    have k1_5 := K1.out.cell 5
    have k1_6 := K1.out.cell 6
    have k1_7 := K1.out.cell 7
    have k1_8 := K1.out.cell 8
    have k1_9 := K1.out.cell 9
    have k1_10 := K1.out.cell 10
    have k1_11 := K1.out.cell 11
    have k2_0 := K2.out.cell 0
    have k2_1 := K2.out.cell 1
    have k2_2 := K2.out.cell 2
    have k2_3 := K2.out.cell 3
    have k2_4 := K2.out.cell 4
    have k2_5 := K2.out.cell 5
    have k2_6 := K2.out.cell 6
    have k2_7 := K2.out.cell 7
    have k2_8 := K2.out.cell 8
    have k2_9 := K2.out.cell 9
    have k2_10 := K2.out.cell 10
    have k2_11 := K2.out.cell 11
    by_cases h2 : i = i'
    rotate_left
    · have F : Hid (b = false) := by
        rw [Hid, ← HB.out]
        refine Bool.eq_false_iff.2 fun x => h2 ?_
        exact congrArg Cp.Cmd.i (Cp.sameC_of x)
      have hq : (i == i') = false := beq_eq_false_iff_ne.2 h2
      go_wp2
      go_ret
      rw [F.out]
      exact ⟨rfl, B0.out⟩
    subst h2
    by_cases h3 : tm = tm'
    rotate_left
    · have F : Hid (b = false) := by
        rw [Hid, ← HB.out]
        refine Bool.eq_false_iff.2 fun x => h3 ?_
        exact congrArg Cp.Cmd.tm (Cp.sameC_of x)
      have hq : (tm == tm') = false := beq_eq_false_iff_ne.2 h3
      go_wp2
      go_ret
      rw [F.out]
      exact ⟨rfl, B0.out⟩
    subst h3
    go_wp2_with fail
    refine (eqInts_any MA Mn Mc MA' Mn' Mc' _ _ mem mem' _ HD0.out.rm HE0.out.rm HD0.out.lm HE0.out.lm _ rfl).mono ?_
    rintro e4 w4 ⟨rfl, q4, rfl⟩
    replace B0 := Lib.hid (below_drewN B0.out q4)
    replace HD0 := Lib.hid (HD0.out.drewN q4)
    replace HE0 := Lib.hid (HE0.out.drewN q4)
    replace K1 := Lib.hid (K1.out.drewN q4)
    replace K2 := Lib.hid (K2.out.drewN q4)
    cases h4 : decide (mem = mem') with
    | false =>
      have F : Hid (b = false) := by
        rw [Hid, ← HB.out]
        refine Bool.eq_false_iff.2 fun x => of_decide_eq_false h4 ?_
        exact congrArg Cp.Cmd.mem (Cp.sameC_of x)
      clear h4
      have k1_0 := K1.out.cell 0
      have k1_1 := K1.out.cell 1
      have k1_2 := K1.out.cell 2
      have k1_3 := K1.out.cell 3
      have k1_4 := K1.out.cell 4
      have k1_5 := K1.out.cell 5
      have k1_6 := K1.out.cell 6
      have k1_7 := K1.out.cell 7
      have k1_8 := K1.out.cell 8
      have k1_9 := K1.out.cell 9
      have k1_10 := K1.out.cell 10
      have k1_11 := K1.out.cell 11
      have k2_0 := K2.out.cell 0
      have k2_1 := K2.out.cell 1
      have k2_2 := K2.out.cell 2
      have k2_3 := K2.out.cell 3
      have k2_4 := K2.out.cell 4
      have k2_5 := K2.out.cell 5
      have k2_6 := K2.out.cell 6
      have k2_7 := K2.out.cell 7
      have k2_8 := K2.out.cell 8
      have k2_9 := K2.out.cell 9
      have k2_10 := K2.out.cell 10
      have k2_11 := K2.out.cell 11
      go_wp2
      go_ret
      rw [F.out]
      exact ⟨rfl, B0.out⟩
    | true =>
      have H4 := Lib.hid h4
      clear h4
      have k1_0 := K1.out.cell 0
      have k1_1 := K1.out.cell 1
      have k1_2 := K1.out.cell 2
      have k1_3 := K1.out.cell 3
      have k1_4 := K1.out.cell 4
      have k1_5 := K1.out.cell 5
      have k1_6 := K1.out.cell 6
      have k1_7 := K1.out.cell 7
      have k1_8 := K1.out.cell 8
      have k1_9 := K1.out.cell 9
      have k1_10 := K1.out.cell 10
      have k1_11 := K1.out.cell 11
      have k2_0 := K2.out.cell 0
      have k2_1 := K2.out.cell 1
      have k2_2 := K2.out.cell 2
      have k2_3 := K2.out.cell 3
      have k2_4 := K2.out.cell 4
      have k2_5 := K2.out.cell 5
      have k2_6 := K2.out.cell 6
      have k2_7 := K2.out.cell 7
      have k2_8 := K2.out.cell 8
      have k2_9 := K2.out.cell 9
      have k2_10 := K2.out.cell 10
      have k2_11 := K2.out.cell 11
      by_cases h5 : tp = tp'
      rotate_left
      · have F : Hid (b = false) := by
          rw [Hid, ← HB.out]
          refine Bool.eq_false_iff.2 fun x => h5 ?_
          exact congrArg Cp.Cmd.tp (Cp.sameC_of x)
        have hq : (tp == tp') = false := beq_eq_false_iff_ne.2 h5
        go_wp2
        go_ret
        rw [F.out]
        exact ⟨rfl, B0.out⟩
      subst h5
      by_cases h6 : who = who'
      rotate_left
      · have F : Hid (b = false) := by
          rw [Hid, ← HB.out]
          refine Bool.eq_false_iff.2 fun x => h6 ?_
          exact congrArg Cp.Cmd.who (Cp.sameC_of x)
        have hq : (who == who') = false := beq_eq_false_iff_ne.2 h6
        go_wp2
        go_ret
        rw [F.out]
        exact ⟨rfl, B0.out⟩
      subst h6
      by_cases h7 : n = n'
      rotate_left
      · have F : Hid (b = false) := by
          rw [Hid, ← HB.out]
          refine Bool.eq_false_iff.2 fun x => h7 ?_
          exact congrArg Cp.Cmd.n (Cp.sameC_of x)
        have hq : (n == n') = false := beq_eq_false_iff_ne.2 h7
        go_wp2
        go_ret
        rw [F.out]
        exact ⟨rfl, B0.out⟩
      subst h7
      have F : Hid (b = true) := by
        rw [Hid, ← HB.out]
        have g1 := H1.out
        have g4 : mem = mem' := of_decide_eq_true H4.out
        simp only [Cp.sameC, Bool.and_eq_true]
        exact ⟨decide_eq_true rfl, g1, decide_eq_true rfl, decide_eq_true rfl, decide_eq_true g4, decide_eq_true rfl, decide_eq_true rfl, decide_eq_true rfl⟩
      go_wp2
      go_ret
      rw [F.out]
      exact ⟨rfl, B0.out⟩
theorem rsameMsg_any (D E : HC) (w : World) (hD : CmdAt w w.heap.size D) (hE : CmdAt w w.heap.size E) (b : Bool) (hb : Cp.sameM D.cmd E.cmd = b) :
    Calls Try.prog 23 #[.agg #[.int .i64 D.mi, .slice D.GA D.Gn D.Gc, .int .i64 D.mt, .string D.key, .string D.body], .agg #[.int .i64 E.mi, .slice E.GA E.Gn E.Gc, .int .i64 E.mt, .string E.key, .string E.body]] w fun e w' => e = .returned (.bool b) ∧ Below w.heap.size w w' := by
  have HD1 := Lib.hid hD
  have HE1 := Lib.hid hE
  have HB := Lib.hid hb
  clear hb hD hE
  obtain ⟨k, mi, GA, Gn, Gc, gs, mt, key, body, i, tm, MA, Mn, Mc, mem, tp, who, n⟩ := D
  obtain ⟨k', mi', GA', Gn', Gc', gs', mt', key', body', i', tm', MA', Mn', Mc', mem', tp', who', n'⟩ := E
  simp only
  have B0 := Lib.hid (((Below.refl _ w).alloc (Nat.le_refl w.heap.size) (.cells #[.int .i64 mi, .slice GA Gn Gc, .int .i64 mt, .string key, .string body] 24)).alloc (by simp) (.cells #[.int .i64 mi', .slice GA' Gn' Gc', .int .i64 mt', .string key', .string body'] 24))
  have HD0 := Lib.hid ((HD1.out.below B0.out).more B0.out.size)
  have HE0 := Lib.hid ((HE1.out.below B0.out).more B0.out.size)
  clear HD1 HE1
  have K1 := Lib.hid ((Blk.new w _ _).alloc (.cells #[.int .i64 mi', .slice GA' Gn' Gc', .int .i64 mt', .string key', .string body'] 24) : Blk ((w.alloc (.cells #[.int .i64 mi, .slice GA Gn Gc, .int .i64 mt, .string key, .string body] 24)).alloc (.cells #[.int .i64 mi', .slice GA' Gn' Gc', .int .i64 mt', .string key', .string body'] 24)) w.heap.size 24 #[.int .i64 mi, .slice GA Gn Gc, .int .i64 mt, .string key, .string body])
  have K2 := Lib.hid (Blk.newN (w := w.alloc (.cells #[.int .i64 mi, .slice GA Gn Gc, .int .i64 mt, .string key, .string body] 24)) (g := w.heap.size + 1) (by simp) 24 #[.int .i64 mi', .slice GA' Gn' Gc', .int .i64 mt', .string key', .string body'])
  by_cases h0 : mi = mi'
  rotate_left
  · have F : Hid (b = false) := by
      rw [Hid, ← HB.out]
      refine Bool.eq_false_iff.2 fun x => h0 ?_
      exact (Cp.sameM_of x).1
    have hq : (mi == mi') = false := beq_eq_false_iff_ne.2 h0
    go_enter Try.func23, Try.ntmps23
    go_wp2
    go_ret
    rw [F.out]
    exact ⟨rfl, B0.out⟩
  subst h0
  go_enter Try.func23, Try.ntmps23
  go_wp2_with fail
  refine (rsameInts_any GA Gn Gc GA' Gn' Gc' _ _ gs gs' _ HD0.out.rg HE0.out.rg HD0.out.lg HE0.out.lg _ rfl).mono ?_
  rintro e1 w1 ⟨rfl, q1, rfl⟩
  replace B0 := Lib.hid (below_drewN B0.out q1)
  replace HD0 := Lib.hid (HD0.out.drewN q1)
  replace HE0 := Lib.hid (HE0.out.drewN q1)
  replace K1 := Lib.hid (K1.out.drewN q1)
  replace K2 := Lib.hid (K2.out.drewN q1)
  cases h1 : decide (gs = gs') with
  | false =>
    have F : Hid (b = false) := by
      rw [Hid, ← HB.out]
      refine Bool.eq_false_iff.2 fun x => of_decide_eq_false h1 ?_
      exact (Cp.sameM_of x).2.1
    clear h1
    have k1_0 := K1.out.cell 0
    have k1_1 := K1.out.cell 1
    have k1_2 := K1.out.cell 2
    have k1_3 := K1.out.cell 3
    have k1_4 := K1.out.cell 4
    have k2_0 := K2.out.cell 0
    have k2_1 := K2.out.cell 1
    have k2_2 := K2.out.cell 2
    have k2_3 := K2.out.cell 3
    have k2_4 := K2.out.cell 4
    go_wp2
    go_ret
    rw [F.out]
    exact ⟨rfl, B0.out⟩
  | true =>
    have H1 := Lib.hid h1
    clear h1
    have k1_0 := K1.out.cell 0
    have k1_1 := K1.out.cell 1
    have k1_2 := K1.out.cell 2
    have k1_3 := K1.out.cell 3
    have k1_4 := K1.out.cell 4
    have k2_0 := K2.out.cell 0
    have k2_1 := K2.out.cell 1
    have k2_2 := K2.out.cell 2
    have k2_3 := K2.out.cell 3
    have k2_4 := K2.out.cell 4
    by_cases h2 : mt = mt'
    rotate_left
    · have F : Hid (b = false) := by
        rw [Hid, ← HB.out]
        refine Bool.eq_false_iff.2 fun x => h2 ?_
        exact (Cp.sameM_of x).2.2.1
      have hq : (mt == mt') = false := beq_eq_false_iff_ne.2 h2
      go_wp2
      go_ret
      rw [F.out]
      exact ⟨rfl, B0.out⟩
    subst h2
    by_cases h3 : key = key'
    rotate_left
    · have F : Hid (b = false) := by
        rw [Hid, ← HB.out]
        refine Bool.eq_false_iff.2 fun x => h3 ?_
        exact data_inj (Cp.sameM_of x).2.2.2.1
      have hq : (key.toList == key'.toList) = false := beq_eq_false_iff_ne.2 fun x => h3 (data_inj (by rw [← toList_of, ← toList_of]; exact x))
      go_wp2
      go_ret
      rw [F.out]
      exact ⟨rfl, B0.out⟩
    subst h3
    by_cases h4 : body = body'
    rotate_left
    · have F : Hid (b = false) := by
        rw [Hid, ← HB.out]
        refine Bool.eq_false_iff.2 fun x => h4 ?_
        exact data_inj (Cp.sameM_of x).2.2.2.2
      have hq : (body.toList == body'.toList) = false := beq_eq_false_iff_ne.2 fun x => h4 (data_inj (by rw [← toList_of, ← toList_of]; exact x))
      go_wp2
      go_ret
      rw [F.out]
      exact ⟨rfl, B0.out⟩
    subst h4
    have F : Hid (b = true) := by
      rw [Hid, ← HB.out]
      have g1 : gs = gs' := of_decide_eq_true H1.out
      simp only [Cp.sameM, Bool.and_eq_true]
      exact ⟨decide_eq_true rfl, decide_eq_true g1, decide_eq_true rfl, decide_eq_true rfl, decide_eq_true rfl⟩
    go_wp2
    go_ret
    rw [F.out]
    exact ⟨rfl, B0.out⟩
theorem rsame12_any (D E : HC) (w : World) (hD : CmdAt w w.heap.size D) (hE : CmdAt w w.heap.size E) (b : Bool) (hb : Cp.sameC D.cmd E.cmd = b) :
    Calls Try.prog 21 #[.agg #[.int .u8 D.k, .int .i64 D.mi, .slice D.GA D.Gn D.Gc, .int .i64 D.mt, .string D.key, .string D.body, .int .i64 D.i, .int .i64 D.tm, .slice D.MA D.Mn D.Mc, .int .i64 D.tp, .int .i64 D.who, .int .i64 D.n], .agg #[.int .u8 E.k, .int .i64 E.mi, .slice E.GA E.Gn E.Gc, .int .i64 E.mt, .string E.key, .string E.body, .int .i64 E.i, .int .i64 E.tm, .slice E.MA E.Mn E.Mc, .int .i64 E.tp, .int .i64 E.who, .int .i64 E.n]] w fun e w' => e = .returned (.bool b) ∧ Below w.heap.size w w' := by
  have HD1 := Lib.hid hD
  have HE1 := Lib.hid hE
  have HB := Lib.hid hb
  clear hb hD hE
  obtain ⟨k, mi, GA, Gn, Gc, gs, mt, key, body, i, tm, MA, Mn, Mc, mem, tp, who, n⟩ := D
  obtain ⟨k', mi', GA', Gn', Gc', gs', mt', key', body', i', tm', MA', Mn', Mc', mem', tp', who', n'⟩ := E
  simp only
  have B0 := Lib.hid (((Below.refl _ w).alloc (Nat.le_refl w.heap.size) (.cells #[.int .u8 k, .int .i64 mi, .slice GA Gn Gc, .int .i64 mt, .string key, .string body, .int .i64 i, .int .i64 tm, .slice MA Mn Mc, .int .i64 tp, .int .i64 who, .int .i64 n] 26)).alloc (by simp) (.cells #[.int .u8 k', .int .i64 mi', .slice GA' Gn' Gc', .int .i64 mt', .string key', .string body', .int .i64 i', .int .i64 tm', .slice MA' Mn' Mc', .int .i64 tp', .int .i64 who', .int .i64 n'] 26))
  have HD0 := Lib.hid ((HD1.out.below B0.out).more B0.out.size)
  have HE0 := Lib.hid ((HE1.out.below B0.out).more B0.out.size)
  clear HD1 HE1
  have K1 := Lib.hid ((Blk.new w _ _).alloc (.cells #[.int .u8 k', .int .i64 mi', .slice GA' Gn' Gc', .int .i64 mt', .string key', .string body', .int .i64 i', .int .i64 tm', .slice MA' Mn' Mc', .int .i64 tp', .int .i64 who', .int .i64 n'] 26) : Blk ((w.alloc (.cells #[.int .u8 k, .int .i64 mi, .slice GA Gn Gc, .int .i64 mt, .string key, .string body, .int .i64 i, .int .i64 tm, .slice MA Mn Mc, .int .i64 tp, .int .i64 who, .int .i64 n] 26)).alloc (.cells #[.int .u8 k', .int .i64 mi', .slice GA' Gn' Gc', .int .i64 mt', .string key', .string body', .int .i64 i', .int .i64 tm', .slice MA' Mn' Mc', .int .i64 tp', .int .i64 who', .int .i64 n'] 26)) w.heap.size 26 #[.int .u8 k, .int .i64 mi, .slice GA Gn Gc, .int .i64 mt, .string key, .string body, .int .i64 i, .int .i64 tm, .slice MA Mn Mc, .int .i64 tp, .int .i64 who, .int .i64 n])
  have K2 := Lib.hid (Blk.newN (w := w.alloc (.cells #[.int .u8 k, .int .i64 mi, .slice GA Gn Gc, .int .i64 mt, .string key, .string body, .int .i64 i, .int .i64 tm, .slice MA Mn Mc, .int .i64 tp, .int .i64 who, .int .i64 n] 26)) (g := w.heap.size + 1) (by simp) 26 #[.int .u8 k', .int .i64 mi', .slice GA' Gn' Gc', .int .i64 mt', .string key', .string body', .int .i64 i', .int .i64 tm', .slice MA' Mn' Mc', .int .i64 tp', .int .i64 who', .int .i64 n'])
  by_cases h0 : k = k'
  rotate_left
  · have F : Hid (b = false) := by
      rw [Hid, ← HB.out]
      refine Bool.eq_false_iff.2 fun x => h0 ?_
      exact congrArg Cp.Cmd.k (Cp.sameC_of x)
    have hq : (k == k') = false := beq_eq_false_iff_ne.2 h0
    go_enter Try.func21, Try.ntmps21
    go_wp2
    go_ret
    rw [F.out]
    exact ⟨rfl, B0.out⟩
  subst h0
  go_enter Try.func21, Try.ntmps21
  go_wp2_with fail
  refine (rsameMsg_any ⟨k, mi, GA, Gn, Gc, gs, mt, key, body, i, tm, MA, Mn, Mc, mem, tp, who, n⟩ ⟨k, mi', GA', Gn', Gc', gs', mt', key', body', i', tm', MA', Mn', Mc', mem', tp', who', n'⟩ _ HD0.out HE0.out _ rfl).mono ?_
  rintro e1 w1 ⟨rfl, hb1⟩
  replace K1 := Lib.hid (K1.out.below hb1 K1.out.lt)
  replace K2 := Lib.hid (K2.out.below hb1 K2.out.lt)
  replace HD0 := Lib.hid (HD0.out.up hb1)
  replace HE0 := Lib.hid (HE0.out.up hb1)
  replace B0 := Lib.hid (B0.out.trans (hb1.mono B0.out.size))
  clear hb1
  cases h1 : Cp.sameM (HC.cmd ⟨k, mi, GA, Gn, Gc, gs, mt, key, body, i, tm, MA, Mn, Mc, mem, tp, who, n⟩) (HC.cmd ⟨k, mi', GA', Gn', Gc', gs', mt', key', body', i', tm', MA', Mn', Mc', mem', tp', who', n'⟩) with
  | false =>
    have F : Hid (b = false) := by
      rw [Hid, ← HB.out]
      refine Bool.eq_false_iff.2 fun x => ?_
      have := Cp.sameC_of x
      rw [this, Cp.sameM_refl] at h1
      cases h1
    clear h1
    have k1_0 := K1.out.cell 0
    have k1_1 := K1.out.cell 1
    have k1_2 := K1.out.cell 2
    have k1_3 := K1.out.cell 3
    have k1_4 := K1.out.cell 4
    have k1_5 := K1.out.cell 5
    have k1_6 := K1.out.cell 6
    have k1_7 := K1.out.cell 7
    have k1_8 := K1.out.cell 8
    have k1_9 := K1.out.cell 9
    have k1_10 := K1.out.cell 10
    have k1_11 := K1.out.cell 11
    have k2_0 := K2.out.cell 0
    have k2_1 := K2.out.cell 1
    have k2_2 := K2.out.cell 2
    have k2_3 := K2.out.cell 3
    have k2_4 := K2.out.cell 4
    have k2_5 := K2.out.cell 5
    have k2_6 := K2.out.cell 6
    have k2_7 := K2.out.cell 7
    have k2_8 := K2.out.cell 8
    have k2_9 := K2.out.cell 9
    have k2_10 := K2.out.cell 10
    have k2_11 := K2.out.cell 11
    go_wp2
    go_ret
    rw [F.out]
    exact ⟨rfl, B0.out⟩
  | true =>
    have H1 := Lib.hid h1
    clear h1
    have k1_0 := K1.out.cell 0
    have k1_1 := K1.out.cell 1
    have k1_2 := K1.out.cell 2
    have k1_3 := K1.out.cell 3
    have k1_4 := K1.out.cell 4
    have k1_5 := K1.out.cell 5
    have k1_6 := K1.out.cell 6
    have k1_7 := K1.out.cell 7
    have k1_8 := K1.out.cell 8
    have k1_9 := K1.out.cell 9
    have k1_10 := K1.out.cell 10
    have k1_11 := K1.out.cell 11
    have k2_0 := K2.out.cell 0
    have k2_1 := K2.out.cell 1
    have k2_2 := K2.out.cell 2
    have k2_3 := K2.out.cell 3
    have k2_4 := K2.out.cell 4
    have k2_5 := K2.out.cell 5
    have k2_6 := K2.out.cell 6
    have k2_7 := K2.out.cell 7
    have k2_8 := K2.out.cell 8
    have k2_9 := K2.out.cell 9
    have k2_10 := K2.out.cell 10
    have k2_11 := K2.out.cell 11
    by_cases h2 : i = i'
    rotate_left
    · have F : Hid (b = false) := by
        rw [Hid, ← HB.out]
        refine Bool.eq_false_iff.2 fun x => h2 ?_
        exact congrArg Cp.Cmd.i (Cp.sameC_of x)
      have hq : (i == i') = false := beq_eq_false_iff_ne.2 h2
      go_wp2
      go_ret
      rw [F.out]
      exact ⟨rfl, B0.out⟩
    subst h2
    by_cases h3 : tm = tm'
    rotate_left
    · have F : Hid (b = false) := by
        rw [Hid, ← HB.out]
        refine Bool.eq_false_iff.2 fun x => h3 ?_
        exact congrArg Cp.Cmd.tm (Cp.sameC_of x)
      have hq : (tm == tm') = false := beq_eq_false_iff_ne.2 h3
      go_wp2
      go_ret
      rw [F.out]
      exact ⟨rfl, B0.out⟩
    subst h3
    go_wp2_with fail
    refine (rsameInts_any MA Mn Mc MA' Mn' Mc' _ _ mem mem' _ HD0.out.rm HE0.out.rm HD0.out.lm HE0.out.lm _ rfl).mono ?_
    rintro e4 w4 ⟨rfl, q4, rfl⟩
    replace B0 := Lib.hid (below_drewN B0.out q4)
    replace HD0 := Lib.hid (HD0.out.drewN q4)
    replace HE0 := Lib.hid (HE0.out.drewN q4)
    replace K1 := Lib.hid (K1.out.drewN q4)
    replace K2 := Lib.hid (K2.out.drewN q4)
    cases h4 : decide (mem = mem') with
    | false =>
      have F : Hid (b = false) := by
        rw [Hid, ← HB.out]
        refine Bool.eq_false_iff.2 fun x => of_decide_eq_false h4 ?_
        exact congrArg Cp.Cmd.mem (Cp.sameC_of x)
      clear h4
      have k1_0 := K1.out.cell 0
      have k1_1 := K1.out.cell 1
      have k1_2 := K1.out.cell 2
      have k1_3 := K1.out.cell 3
      have k1_4 := K1.out.cell 4
      have k1_5 := K1.out.cell 5
      have k1_6 := K1.out.cell 6
      have k1_7 := K1.out.cell 7
      have k1_8 := K1.out.cell 8
      have k1_9 := K1.out.cell 9
      have k1_10 := K1.out.cell 10
      have k1_11 := K1.out.cell 11
      have k2_0 := K2.out.cell 0
      have k2_1 := K2.out.cell 1
      have k2_2 := K2.out.cell 2
      have k2_3 := K2.out.cell 3
      have k2_4 := K2.out.cell 4
      have k2_5 := K2.out.cell 5
      have k2_6 := K2.out.cell 6
      have k2_7 := K2.out.cell 7
      have k2_8 := K2.out.cell 8
      have k2_9 := K2.out.cell 9
      have k2_10 := K2.out.cell 10
      have k2_11 := K2.out.cell 11
      go_wp2
      go_ret
      rw [F.out]
      exact ⟨rfl, B0.out⟩
    | true =>
      have H4 := Lib.hid h4
      clear h4
      have k1_0 := K1.out.cell 0
      have k1_1 := K1.out.cell 1
      have k1_2 := K1.out.cell 2
      have k1_3 := K1.out.cell 3
      have k1_4 := K1.out.cell 4
      have k1_5 := K1.out.cell 5
      have k1_6 := K1.out.cell 6
      have k1_7 := K1.out.cell 7
      have k1_8 := K1.out.cell 8
      have k1_9 := K1.out.cell 9
      have k1_10 := K1.out.cell 10
      have k1_11 := K1.out.cell 11
      have k2_0 := K2.out.cell 0
      have k2_1 := K2.out.cell 1
      have k2_2 := K2.out.cell 2
      have k2_3 := K2.out.cell 3
      have k2_4 := K2.out.cell 4
      have k2_5 := K2.out.cell 5
      have k2_6 := K2.out.cell 6
      have k2_7 := K2.out.cell 7
      have k2_8 := K2.out.cell 8
      have k2_9 := K2.out.cell 9
      have k2_10 := K2.out.cell 10
      have k2_11 := K2.out.cell 11
      by_cases h5 : tp = tp'
      rotate_left
      · have F : Hid (b = false) := by
          rw [Hid, ← HB.out]
          refine Bool.eq_false_iff.2 fun x => h5 ?_
          exact congrArg Cp.Cmd.tp (Cp.sameC_of x)
        have hq : (tp == tp') = false := beq_eq_false_iff_ne.2 h5
        go_wp2
        go_ret
        rw [F.out]
        exact ⟨rfl, B0.out⟩
      subst h5
      by_cases h6 : who = who'
      rotate_left
      · have F : Hid (b = false) := by
          rw [Hid, ← HB.out]
          refine Bool.eq_false_iff.2 fun x => h6 ?_
          exact congrArg Cp.Cmd.who (Cp.sameC_of x)
        have hq : (who == who') = false := beq_eq_false_iff_ne.2 h6
        go_wp2
        go_ret
        rw [F.out]
        exact ⟨rfl, B0.out⟩
      subst h6
      by_cases h7 : n = n'
      rotate_left
      · have F : Hid (b = false) := by
          rw [Hid, ← HB.out]
          refine Bool.eq_false_iff.2 fun x => h7 ?_
          exact congrArg Cp.Cmd.n (Cp.sameC_of x)
        have hq : (n == n') = false := beq_eq_false_iff_ne.2 h7
        go_wp2
        go_ret
        rw [F.out]
        exact ⟨rfl, B0.out⟩
      subst h7
      have F : Hid (b = true) := by
        rw [Hid, ← HB.out]
        have g1 := H1.out
        have g4 : mem = mem' := of_decide_eq_true H4.out
        simp only [Cp.sameC, Bool.and_eq_true]
        exact ⟨decide_eq_true rfl, g1, decide_eq_true rfl, decide_eq_true rfl, decide_eq_true g4, decide_eq_true rfl, decide_eq_true rfl, decide_eq_true rfl⟩
      go_wp2
      go_ret
      rw [F.out]
      exact ⟨rfl, B0.out⟩
end Go.Proofs.Ytaoekfgeggopbaa
