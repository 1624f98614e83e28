/-
  command.CheckMessage, and the reference's MayMessage and CheckMessage.
-/
import Derived.Test.YtaoekfgeggopbaaCmdSame
import Derived.Deep.DeepCutAuto
namespace Go.Proofs.Ytaoekfgeggopbaa
open Go.RowKit Go.Sort Go.BigFrame
set_option maxHeartbeats 8000000
set_option maxRecDepth 100000
set_option linter.unusedVariables false
set_option linter.unusedSimpArgs false

namespace Cp
theorem incr4_snoc : ∀ (l : List Int) (lo x : Int), incr4 lo (l ++ [x]) = (incr4 lo l && (decide (l.getLastD lo < x) && decide (x < 4)))
  | [], lo, x => by simp [incr4]
  | n :: l, lo, x => by
    rw [List.cons_append, incr4, incr4_snoc l n x, incr4, List.getLastD_cons]
    simp only [Bool.and_assoc]
theorem incr4_none {gs : List Int} {k : Nat} (h : incr4 (-1) (gs.take k) = false) : incr4 (-1) (gs.take (k + 1)) = false := by
  rw [List.take_add_one]
  cases hx : gs[k]? with
  | none => simpa using h
  | some x => rw [Option.toList_some, incr4_snoc, h, Bool.false_and]
theorem incr4_zero {gs : List Int} {x : Int} (h : gs[0]? = some x) : incr4 (-1) (gs.take 1) = inB 0 3 x := by
  rw [show (1 : Nat) = 0 + 1 from rfl, List.take_add_one, h, Option.toList_some, incr4_snoc]
  apply Bool.eq_iff_iff.2
  simp [incr4, inB]
  omega
theorem incr4_succ {gs : List Int} {j : Nat} {p x : Int} (h : gs[j + 1]? = some x) (hp : gs[j]? = some p) (hi : incr4 (-1) (gs.take (j + 1)) = true) : incr4 (-1) (gs.take (j + 1 + 1)) = (inB 0 3 x && decide (p < x)) := by
  have hg : (gs.take (j + 1)).getLastD (-1) = p := by
    rw [List.take_add_one, hp, Option.toList_some, List.getLastD_concat]
  have hin := (incr4_in _ _ (by omega) hi).1 p (by rw [List.take_add_one, hp, Option.toList_some]; simp)
  have hp0 := (Nm.inR_yes hin).1
  rw [List.take_add_one (i := j + 1), h, Option.toList_some, incr4_snoc, hi, hg, Bool.true_and]
  unfold inB
  apply Bool.eq_iff_iff.2
  simp only [Bool.and_eq_true, decide_eq_true_eq]
  omega
theorem msgB_is (c : Cmd) : msgB c = ((decide (1 ≤ c.gs.length ∧ c.gs.length ≤ 4) && incr4 (-1) c.gs) && (Wp.idB c.mi && (inB 0 3 c.mt && (decide (c.key.length ≤ 16) && decide (c.body.length ≤ 64))))) := by
  have hg : gsB c.gs = (decide (1 ≤ c.gs.length ∧ c.gs.length ≤ 4) && incr4 (-1) c.gs) := by
    unfold gsB
    cases hi : incr4 (-1) c.gs with
    | false => simp
    | true =>
      have := (incr4_in _ _ (by omega) hi).2 (by omega)
      cases hgs : c.gs with
      | nil => simp
      | cons a l =>
        rw [hgs] at this
        simp only [List.isEmpty_cons, Bool.not_false, Bool.true_and, Bool.and_true]
        refine (decide_eq_true ⟨?_, ?_⟩).symm <;> simp only [List.length_cons] at this ⊢ <;> omega
  rw [msgB, hg]
  cases decide (1 ≤ c.gs.length ∧ c.gs.length ≤ 4) && incr4 (-1) c.gs <;> cases Wp.idB c.mi <;> cases inB 0 3 c.mt <;> simp
end Cp

/-- The error of what may be, or not. -/
def errK (b : Bool) : Int := if b = true then 0 else 120

theorem ccheckMsg_any (D : HC) (w : World) (hD : CmdAt w w.heap.size D) (b : Bool) (hb : Cp.msgB D.cmd = b) :
    Calls Try.prog 18 #[.agg #[.int .i64 D.mi, .slice D.GA D.Gn D.Gc, .int .i64 D.mt, .string D.key, .string D.body]] w fun e w' => e = .returned (.int .i64 (errK b)) ∧ Below w.heap.size w w' := by
  have B0 := Lib.hid ((Below.refl _ w).alloc (Nat.le_refl w.heap.size) (.cells #[.int .i64 D.mi, .slice D.GA D.Gn D.Gc, .int .i64 D.mt, .string D.key, .string D.body] 24))
  have HD0 := Lib.hid ((hD.below B0.out).more B0.out.size)
  have K0 := Lib.hid (Blk.new w 24 #[.int .i64 D.mi, .slice D.GA D.Gn D.Gc, .int .i64 D.mt, .string D.key, .string D.body])
  have hlg := hD.lg
  have hgl := hD.len_g
  have HGL := Lib.hid hgl
  have HB := Lib.hid (by rw [Cp.msgB_is] at hb; exact hb : ((decide (1 ≤ D.gs.length ∧ D.gs.length ≤ 4) && Cp.incr4 (-1) D.gs) && (Wp.idB D.mi && (Cp.inB 0 3 D.mt && (decide (D.key.data.toList.length ≤ 16) && decide (D.body.data.toList.length ≤ 64))))) = b)
  have c0 := K0.out.cell 0
  have c1 := K0.out.cell 1
  have c2 := K0.out.cell 2
  have c3 := K0.out.cell 3
  have c4 := K0.out.cell 4
  clear hD hb hgl
  obtain ⟨lo, hlo⟩ : ∃ lo, decide (1 ≤ D.gs.length ∧ D.gs.length ≤ 4) = lo := ⟨_, rfl⟩
  have HLO := Lib.hid hlo
  clear hlo
  go_enter Try.func18, Try.ntmps18
  go_upto_region 1 with fail
  go_cut [3] (fun s3 wx => s3 = .bool lo ∧ wx = w.alloc (.cells #[.int .i64 D.mi, .slice D.GA D.Gn D.Gc, .int .i64 D.mt, .string D.key, .string D.body] 24))
  case first =>
    by_cases h1 : 1 ≤ D.Gn
    · by_cases h2 : D.Gn ≤ 4
      · have HE : Hid (lo = true) := by rw [Hid, ← HLO.out]; exact decide_eq_true (by rw [HGL.out]; exact ⟨h1, h2⟩)
        have d4 : decide ((D.Gn : Int) ≤ 4) = true := decide_eq_true (by omega)
        go_wp2_with fail
        go_meet
        exact ⟨by rw [HE.out], rfl⟩
      · have HE : Hid (lo = false) := by rw [Hid, ← HLO.out]; exact decide_eq_false (by rw [HGL.out]; exact fun x => h2 x.2)
        have d4 : decide ((D.Gn : Int) ≤ 4) = false := decide_eq_false (by omega)
        go_wp2_with fail
        go_meet
        exact ⟨by rw [HE.out], rfl⟩
    · have HE : Hid (lo = false) := by rw [Hid, ← HLO.out]; exact decide_eq_false (by rw [HGL.out]; exact fun x => h1 x.1)
      go_wp2_with fail
      go_meet
      exact ⟨by rw [HE.out], rfl⟩
  case rest =>
    obtain ⟨rfl, rfl⟩ := hcut
    generalize w.alloc (.cells #[.int .i64 D.mi, .slice D.GA D.Gn D.Gc, .int .i64 D.mt, .string D.key, .string D.body] 24) = W at *
    go_wp2_with fail
    go_loopw [3, 19] (fun x y wr => (∃ (k : Nat) (X : Bool), y = .int .i64 (k : Int) ∧ k ≤ D.Gn ∧ x = .bool X ∧ (lo && Cp.incr4 (-1) (D.gs.take k)) = X) ∧ wr = W) (fun _ y _ => D.Gn - (intOf y).toNat)
    case atStart => exact ⟨⟨0, lo, rfl, Nat.zero_le _, rfl, by simp [Cp.incr4]⟩, rfl⟩
    case round =>
      obtain ⟨⟨k, X, rfl, hk, rfl, hX⟩, rfl⟩ := hrel
      have HX := Lib.hid hX
      clear hX
      by_cases hlt : k < D.Gn
      · obtain ⟨ad, u, hA, hbl, hu, hc⟩ := HD0.out.rg.at_ hlt
        have hkl : k < D.gs.length := by rw [HGL.out]; exact hlt
        have hg : D.gs[k]? = some (D.gs[k]'hkl) := List.getElem?_eq_getElem hkl
        obtain ⟨z, hz⟩ : ∃ z, D.gs[k]'hkl = z := ⟨_, rfl⟩
        rw [hz] at hg
        rw [ci_get, hg] at hu
        simp only [Option.map_some, Option.some.injEq] at hu
        subst hu
        have HG := Lib.hid hg
        have HC := Lib.hid hc
        clear hg hz hkl hc
        rw [hA] at c1
        have HA := Lib.hid hA
        have hc := HC.out
        clear hA
        cases X with
        | false =>
          have HN : Hid ((lo && Cp.incr4 (-1) (D.gs.take (k + 1))) = false) := by
            have := HX.out
            rw [Hid]
            cases lo with
            | false => rfl
            | true => rw [Bool.true_and] at this ⊢; exact Cp.incr4_none this
          rw [HA.out]
          go_wp2
          go_roundw
          case rel => exact ⟨⟨k + 1, false, by go_num, by omega, rfl, HN.out⟩, by trivial⟩
          case measure => simp [intOf]; omega
        | true =>
          have hlo2 : lo = true := by have := HX.out; cases lo with | false => cases this | true => rfl
          subst hlo2
          have hin := HX.out
          rw [Bool.true_and] at hin
          have HI := Lib.hid hin
          clear hin
          rw [HA.out]
          go_wp2_with fail
          refine (cin_any z 0 3 _ _ rfl).mono ?_
          rintro e w' ⟨rfl, rfl⟩
          cases hb : Cp.inB 0 3 z with
          | false =>
            have HN : Hid ((true && Cp.incr4 (-1) (D.gs.take (k + 1))) = false) := by
              rw [Hid, Bool.true_and]
              cases k with
              | zero => rw [Cp.incr4_zero HG.out, hb]
              | succ j =>
                have hp : D.gs[j]? = some (D.gs[j]'(by have := HGL.out; omega)) := List.getElem?_eq_getElem _
                rw [Cp.incr4_succ HG.out hp HI.out, hb, Bool.false_and]
            clear hb
            go_wp2
            go_roundw
            case rel => exact ⟨⟨k + 1, false, by go_num, by omega, rfl, HN.out⟩, by trivial⟩
            case measure => simp [intOf]; omega
          | true =>
            cases k with
            | zero =>
              have HN : Hid ((true && Cp.incr4 (-1) (D.gs.take (0 + 1))) = true) := by rw [Hid, Bool.true_and]; exact (Cp.incr4_zero HG.out).trans hb
              clear hb
              go_wp2
              go_roundw
              case rel => exact ⟨⟨1, true, by go_num, by omega, rfl, HN.out⟩, by trivial⟩
              case measure => simp [intOf]; omega
            | succ j =>
              have hjl : j < D.gs.length := by have := HGL.out; omega
              have hp : D.gs[j]? = some (D.gs[j]'hjl) := List.getElem?_eq_getElem _
              obtain ⟨p, hpz⟩ : ∃ p, D.gs[j]'hjl = p := ⟨_, rfl⟩
              rw [hpz] at hp
              obtain ⟨ad', u', hA', hbl', hu', hc'⟩ := HD0.out.rg.at_ (k := j) (by omega)
              rw [HA.out] at hA'
              injection hA' with hA'
              subst hA'
              rw [ci_get, hp] at hu'
              simp only [Option.map_some, Option.some.injEq] at hu'
              subst hu'
              have HN := Lib.hid (Cp.incr4_succ HG.out hp HI.out)
              rw [hb, Bool.true_and] at HN
              clear hb hpz hp hbl' hjl
              by_cases hpx : p < z
              · have HN2 : Hid ((true && Cp.incr4 (-1) (D.gs.take (j + 1 + 1))) = true) := by rw [Hid, Bool.true_and, HN.out]; exact decide_eq_true hpx
                have hj0 : ((j : Int) + 1 == 0) = false := by simpa using (show ¬ (j : Int) + 1 = 0 by omega)
                have hj1 : decide (p < z) = true := decide_eq_true hpx
                go_wp2
                go_roundw
                case rel => exact ⟨⟨j + 1 + 1, true, by go_num, by omega, rfl, HN2.out⟩, by trivial⟩
                case measure => simp [intOf]; omega
              · have HN2 : Hid ((true && Cp.incr4 (-1) (D.gs.take (j + 1 + 1))) = false) := by rw [Hid, Bool.true_and, HN.out]; exact decide_eq_false hpx
                have hj0 : ((j : Int) + 1 == 0) = false := by simpa using (show ¬ (j : Int) + 1 = 0 by omega)
                have hj1 : decide (p < z) = false := decide_eq_false hpx
                go_wp2
                go_roundw
                case rel => exact ⟨⟨j + 1 + 1, false, by go_num, by omega, rfl, HN2.out⟩, by trivial⟩
                case measure => simp [intOf]; omega
      · have HT : Hid ((lo && Cp.incr4 (-1) D.gs) = X) := by
          have h1 := HX.out
          have h2 := HGL.out
          rwa [List.take_of_length_le (by omega)] at h1
        have HB2 := Lib.hid HB.out
        rw [HLO.out, HT.out] at HB2
        have hks := size_data D.key
        have hbs := size_data D.body
        rw [hks, hbs] at HB2
        clear hks hbs HB HT HX
        cases X with
        | false =>
          have F : Hid (b = false) := by rw [Hid, ← HB2.out]; rfl
          go_wp2
          go_ret
          rw [F.out]
          exact ⟨rfl, B0.out⟩
        | true =>
          go_wp2_with fail
          refine (cid_any D.mi _ _ rfl).mono ?_
          rintro e w' ⟨rfl, rfl⟩
          cases h1 : Wp.idB D.mi with
          | false =>
            have F : Hid (b = false) := by rw [Hid, ← HB2.out, h1]; rfl
            clear h1
            go_wp2
            go_ret
            rw [F.out]
            exact ⟨rfl, B0.out⟩
          | true =>
            rw [h1] at HB2
            clear h1
            go_wp2_with fail
            refine (cin_any D.mt 0 3 _ _ rfl).mono ?_
            rintro e w' ⟨rfl, rfl⟩
            cases h2 : Cp.inB 0 3 D.mt with
            | false =>
              have F : Hid (b = false) := by rw [Hid, ← HB2.out, h2]; rfl
              clear h2
              go_wp2
              go_ret
              rw [F.out]
              exact ⟨rfl, B0.out⟩
            | true =>
              rw [h2] at HB2
              clear h2
              by_cases h3 : (16 : Int) < (D.key.size : Int)
              · have F : Hid (b = false) := by rw [Hid, ← HB2.out, decide_eq_false (p := D.key.size ≤ 16) (by omega)]; rfl
                go_wp2
                go_ret
                rw [F.out]
                exact ⟨rfl, B0.out⟩
              · by_cases h4 : (64 : Int) < (D.body.size : Int)
                · have F : Hid (b = false) := by rw [Hid, ← HB2.out, decide_eq_false (p := D.body.size ≤ 64) (by omega)]; simp
                  go_wp2
                  go_ret
                  rw [F.out]
                  exact ⟨rfl, B0.out⟩
                · have F : Hid (b = true) := by rw [Hid, ← HB2.out, decide_eq_true (p := D.body.size ≤ 64) (by omega), decide_eq_true (p := D.key.size ≤ 16) (by omega)]; rfl
                  go_wp2
                  go_ret
                  rw [F.out]
                  exact ⟨rfl, B0.out⟩
end Go.Proofs.Ytaoekfgeggopbaa
