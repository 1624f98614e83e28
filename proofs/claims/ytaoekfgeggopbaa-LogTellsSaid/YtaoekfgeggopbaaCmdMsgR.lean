/-
  The reference's MayMessage and CheckMessage.
-/
import Derived.Test.YtaoekfgeggopbaaCmdMsg
namespace Go.Proofs.Ytaoekfgeggopbaa
open Go.RowKit Go.Sort Go.BigFrame
set_option maxHeartbeats 8000000
set_option maxRecDepth 100000
set_option linter.unusedVariables false
set_option linter.unusedSimpArgs false

namespace Cp
theorem incr4_pre : ∀ (l m : List Int) (lo : Int), incr4 lo (l ++ m) = true → incr4 lo l = true
  | [], _, _, _ => rfl
  | n :: l, m, lo, h => by
    rw [List.cons_append, incr4] at h
    simp only [Bool.and_eq_true] at h
    rw [incr4, incr4_pre l m n h.2, h.1.1, h.1.2]
    rfl
theorem incr4_take {gs : List Int} {k : Nat} (h : incr4 (-1) (gs.take k) = false) : incr4 (-1) gs = false := by
  refine Bool.eq_false_iff.2 fun x => ?_
  have := incr4_pre (gs.take k) (gs.drop k) (-1) (by rw [List.take_append_drop]; exact x)
  rw [h] at this
  cases this
theorem msgB_ref (c : Cmd) : msgB c = ((decide (0 < c.gs.length) && incr4 (-1) c.gs) && (Wp.idB c.mi && (inB 0 3 c.mt && (decide (c.key.length ≤ 16) && decide (c.body.length ≤ 64))))) := by
  have hg : gsB c.gs = (decide (0 < c.gs.length) && incr4 (-1) c.gs) := by
    unfold gsB
    cases c.gs with
    | nil => simp
    | cons a l => simp
  rw [msgB, hg]
  cases decide (0 < c.gs.length) && incr4 (-1) c.gs <;> cases Wp.idB c.mi <;> cases inB 0 3 c.mt <;> simp
end Cp
theorem inB_lt (n : Int) : decide ((0 : Int) ≤ n ∧ n < 4) = Cp.inB 0 3 n := by
  unfold Cp.inB
  apply Bool.eq_iff_iff.2
  simp only [decide_eq_true_eq]
  omega

theorem rmayMsg_any (D : HC) (w : World) (hD : CmdAt w w.heap.size D) (b : Bool) (hb : Cp.msgB D.cmd = b) :
    Calls Try.prog 53 #[.agg #[.int .i64 D.mi, .slice D.GA D.Gn D.Gc, .int .i64 D.mt, .string D.key, .string D.body]] w fun e w' => e = .returned (.bool b) ∧ Below w.heap.size w w' := by
  have B0 := Lib.hid ((Below.refl _ w).alloc (Nat.le_refl w.heap.size) (.cells #[.int .i64 D.mi, .slice D.GA D.Gn D.Gc, .int .i64 D.mt, .string D.key, .string D.body] 24))
  have HD0 := Lib.hid ((hD.below B0.out).more B0.out.size)
  have K0 := Lib.hid (Blk.new w 24 #[.int .i64 D.mi, .slice D.GA D.Gn D.Gc, .int .i64 D.mt, .string D.key, .string D.body])
  have hlg := hD.lg
  have hgl := hD.len_g
  have HGL := Lib.hid hgl
  have HB := Lib.hid (by rw [Cp.msgB_ref] at hb; exact hb : ((decide (0 < D.gs.length) && Cp.incr4 (-1) D.gs) && (Wp.idB D.mi && (Cp.inB 0 3 D.mt && (decide (D.key.data.toList.length ≤ 16) && decide (D.body.data.toList.length ≤ 64))))) = b)
  have c0 := K0.out.cell 0
  have c1 := K0.out.cell 1
  have c2 := K0.out.cell 2
  have c3 := K0.out.cell 3
  have c4 := K0.out.cell 4
  clear hD hb hgl
  go_enter Try.func53, Try.ntmps53
  go_wp2_with fail
  go_loopw [3] (fun y wr => ∃ (k : Nat), y = .int .i64 (k : Int) ∧ k ≤ D.Gn ∧ Cp.incr4 (-1) (D.gs.take k) = true ∧ Below w.heap.size w wr ∧ Blk wr w.heap.size 24 #[.int .i64 D.mi, .slice D.GA D.Gn D.Gc, .int .i64 D.mt, .string D.key, .string D.body] ∧ CmdAt wr wr.heap.size D) (fun y _ => D.Gn - (intOf y).toNat)
  case atStart => exact ⟨0, rfl, Nat.zero_le _, rfl, B0.out, K0.out, HD0.out⟩
  case round =>
    obtain ⟨k, rfl, hk, hX, hb1, hk1, hd1⟩ := hrel
    have HI := Lib.hid hX
    clear hX c0 c1 c2 c3 c4 B0 K0 HD0
    have B0 := Lib.hid hb1
    have K0 := Lib.hid hk1
    have HD0 := Lib.hid hd1
    have c0 := K0.out.cell 0
    have c1 := K0.out.cell 1
    have c2 := K0.out.cell 2
    have c3 := K0.out.cell 3
    have c4 := K0.out.cell 4
    clear hb1 hk1 hd1
    by_cases hlt : k < D.Gn
    · obtain ⟨ad, u, hA, hbl, hu, hc⟩ := HD0.out.rg.at_ hlt
      have hkl : k < D.gs.length := by rw [HGL.out]; exact hlt
      have hg : D.gs[k]? = some (D.gs[k]'hkl) := List.getElem?_eq_getElem hkl
      obtain ⟨z, hz⟩ : ∃ z, D.gs[k]'hkl = z := ⟨_, rfl⟩
      rw [hz] at hg
      rw [ci_get, hg] at hu
      simp only [Option.map_some, Option.some.injEq] at hu
      subst hu
      have HG := Lib.hid hg
      have HC := Lib.hid hc
      clear hg hz hkl hc
      rw [hA] at c1
      have HA := Lib.hid hA
      have hc := HC.out
      clear hA
      have HQ : Hid (∀ w', Calls Try.prog 76 #[.int .i64 z, .int .i64 0, .int .i64 4] w' fun e w'' => e = .returned (.bool (Cp.inB 0 3 z)) ∧ w'' = w') :=
        Lib.hid fun w' => (rin12_any z 0 4 w' (Cp.inB 0 3 z) (inB_lt z)).mono fun _ _ h => ⟨h.1, h.2.symm⟩
      have hstop : Hid (Cp.incr4 (-1) (D.gs.take (k + 1)) = false → b = false) := by
        intro h
        rw [← HB.out, Cp.incr4_take h]
        simp
      cases hb : Cp.inB 0 3 z with
      | false =>
        have HN : Hid (Cp.incr4 (-1) (D.gs.take (k + 1)) = false) := by
          rw [Hid]
          cases k with
          | zero => rw [Cp.incr4_zero HG.out, hb]
          | succ j =>
            have hp : D.gs[j]? = some (D.gs[j]'(by have := HGL.out; omega)) := List.getElem?_eq_getElem _
            rw [Cp.incr4_succ HG.out hp HI.out, hb, Bool.false_and]
        rw [hb] at HQ
        clear hb
        go_wp2_with fail
        go_quiet (with_reducible refine Calls.quiet_of_same (HQ.out _))
        go_wp2
        go_ret
        rw [hstop.out HN.out]
        exact ⟨rfl, below_drewN B0.out _⟩
      | true =>
        rw [hb] at HQ
        by_cases hk0 : k = 0
        · have HN : Hid (Cp.incr4 (-1) (D.gs.take (k + 1)) = true) := by
            rw [Hid]
            have := HG.out
            rw [hk0] at this ⊢
            exact (Cp.incr4_zero this).trans hb
          have dp : decide ((0 : Int) < (k : Int)) = false := decide_eq_false (by omega)
          have dpn : decide (0 < k) = false := decide_eq_false (by omega)
          clear hb hk0
          go_wp2_with fail
          go_quiet (with_reducible refine Calls.quiet_of_same (HQ.out _))
          go_wp2
          go_roundw
          case rel => exact ⟨k + 1, by go_num, by omega, HN.out, below_drewN B0.out _, K0.out.drewN _, HD0.out.drewN _⟩
          case measure => simp [intOf]; omega
        · obtain ⟨j, hkj⟩ : ∃ j, k = j + 1 := ⟨k - 1, by omega⟩
          have HKJ := Lib.hid hkj
          have hjl : j < D.gs.length := by have := HGL.out; omega
          have hp : D.gs[j]? = some (D.gs[j]'hjl) := List.getElem?_eq_getElem _
          obtain ⟨p, hpz⟩ : ∃ p, D.gs[j]'hjl = p := ⟨_, rfl⟩
          rw [hpz] at hp
          obtain ⟨ad', u', hA', hbl', hu', hc'⟩ := HD0.out.rg.at_ (k := j) (by omega)
          rw [HA.out] at hA'
          injection hA' with hA'
          subst hA'
          rw [ci_get, hp] at hu'
          simp only [Option.map_some, Option.some.injEq] at hu'
          subst hu'
          have HN : Hid (Cp.incr4 (-1) (D.gs.take (k + 1)) = decide (p < z)) := by
            rw [Hid]
            have h1 := HG.out
            have h2 := HI.out
            rw [hkj] at h1 h2 ⊢
            rw [Cp.incr4_succ h1 hp h2, hb, Bool.true_and]
          have ej : (k : Int) - 1 = (j : Int) := by omega
          have ew : wrap64 ((k : Int) - 1) = (j : Int) := by rw [ej]; exact IntWalk.wrap64_in _ ⟨by omega, by omega⟩
          have dp : decide ((0 : Int) < (k : Int)) = true := decide_eq_true (by omega)
          have dpn : decide (0 < k) = true := decide_eq_true (by omega)
          have hjn : j < D.Gn := by omega
          clear hb hpz hp hbl' hjl hk0 hkj
          by_cases hpx : p < z
          · have HN2 : Hid (Cp.incr4 (-1) (D.gs.take (k + 1)) = true) := by rw [Hid, HN.out]; exact decide_eq_true hpx
            have hj1 : decide (z ≤ p) = false := decide_eq_false (by omega)
            go_wp2_with fail
            go_quiet (with_reducible refine Calls.quiet_of_same (HQ.out _))
            go_wp2
            go_roundw
            case rel => exact ⟨k + 1, by go_num, by omega, HN2.out, below_drewN B0.out _, K0.out.drewN _, HD0.out.drewN _⟩
            case measure => simp [intOf]; omega
          · have HN2 : Hid (Cp.incr4 (-1) (D.gs.take (k + 1)) = false) := by rw [Hid, HN.out]; exact decide_eq_false hpx
            have hj1 : decide (z ≤ p) = true := decide_eq_true (by omega)
            go_wp2_with fail
            go_quiet (with_reducible refine Calls.quiet_of_same (HQ.out _))
            go_wp2
            go_ret
            rw [hstop.out HN2.out]
            exact ⟨rfl, below_drewN B0.out _⟩
    · have HT : Hid (Cp.incr4 (-1) D.gs = true) := by
        have h1 := HI.out
        have h2 := HGL.out
        rwa [List.take_of_length_le (by omega)] at h1
      have HB2 := Lib.hid HB.out
      have hks := size_data D.key
      have hbs := size_data D.body
      rw [hks, hbs, HT.out, HGL.out] at HB2
      clear hks hbs HB HT HI
      have B1 := Lib.hid B0.out
      by_cases hn0 : 0 < D.Gn
      rotate_left
      · have F : Hid (b = false) := by rw [Hid, ← HB2.out, decide_eq_false hn0]; rfl
        go_wp2
        go_ret
        rw [F.out]
        exact ⟨rfl, B1.out⟩
      rw [decide_eq_true hn0] at HB2
      go_wp2_with fail
      refine (rid12_any D.mi _ _ rfl).mono ?_
      rintro e w' ⟨rfl, rfl⟩
      cases h1 : Wp.idB D.mi with
      | false =>
        have F : Hid (b = false) := by rw [Hid, ← HB2.out, h1]; rfl
        clear h1
        go_wp2
        go_ret
        rw [F.out]
        exact ⟨rfl, B1.out⟩
      | true =>
        rw [h1] at HB2
        clear h1
        go_wp2_with fail
        refine (rin12_any D.mt 0 4 _ _ (inB_lt D.mt)).mono ?_
        rintro e w' ⟨rfl, rfl⟩
        cases h2 : Cp.inB 0 3 D.mt with
        | false =>
          have F : Hid (b = false) := by rw [Hid, ← HB2.out, h2]; rfl
          clear h2
          go_wp2
          go_ret
          rw [F.out]
          exact ⟨rfl, B1.out⟩
        | true =>
          rw [h2] at HB2
          clear h2
          by_cases h3 : (D.key.size : Int) ≤ 16
          · by_cases h4 : (D.body.size : Int) ≤ 64
            · have F : Hid (b = true) := by rw [Hid, ← HB2.out, decide_eq_true (p := D.body.size ≤ 64) (by omega), decide_eq_true (p := D.key.size ≤ 16) (by omega)]; rfl
              have d3 : decide ((D.key.size : Int) ≤ 16) = true := decide_eq_true h3
              have d4 : decide ((D.body.size : Int) ≤ 64) = true := decide_eq_true h4
              go_wp2
              go_ret
              rw [F.out]
              exact ⟨rfl, B1.out⟩
            · have F : Hid (b = false) := by rw [Hid, ← HB2.out, decide_eq_false (p := D.body.size ≤ 64) (by omega)]; simp
              have d3 : decide ((D.key.size : Int) ≤ 16) = true := decide_eq_true h3
              have d4 : decide ((D.body.size : Int) ≤ 64) = false := decide_eq_false h4
              go_wp2
              go_ret
              rw [F.out]
              exact ⟨rfl, B1.out⟩
          · have F : Hid (b = false) := by rw [Hid, ← HB2.out, decide_eq_false (p := D.key.size ≤ 16) (by omega)]; rfl
            have d3 : decide ((D.key.size : Int) ≤ 16) = false := decide_eq_false h3
            go_wp2
            go_ret
            rw [F.out]
            exact ⟨rfl, B1.out⟩

theorem rcheckMsg_any (D : HC) (w : World) (hD : CmdAt w w.heap.size D) (b : Bool) (hb : Cp.msgB D.cmd = b) :
    Calls Try.prog 19 #[.agg #[.int .i64 D.mi, .slice D.GA D.Gn D.Gc, .int .i64 D.mt, .string D.key, .string D.body]] w fun e w' => e = .returned (.int .i64 (errK b)) ∧ Below w.heap.size w w' := by
  have B0 := Lib.hid ((Below.refl _ w).alloc (Nat.le_refl w.heap.size) (.cells #[.int .i64 D.mi, .slice D.GA D.Gn D.Gc, .int .i64 D.mt, .string D.key, .string D.body] 24))
  have HD0 := Lib.hid (hD.alloc (.cells #[.int .i64 D.mi, .slice D.GA D.Gn D.Gc, .int .i64 D.mt, .string D.key, .string D.body] 24))
  have HB := Lib.hid hb
  clear hD hb
  go_enter Try.func19, Try.ntmps19
  go_wp2_with fail
  refine (rmayMsg_any D _ HD0.out b HB.out).mono ?_
  rintro e w1 ⟨rfl, hb⟩
  have B1 := Lib.hid (then_ B0.out hb)
  clear hb
  cases b with
  | false => go_wp2; go_ret; exact ⟨rfl, B1.out⟩
  | true => go_wp2; go_ret; exact ⟨rfl, B1.out⟩
end Go.Proofs.Ytaoekfgeggopbaa
