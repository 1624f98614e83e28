/-
  The walk of QuorumGrows: more nodes are no less a majority; all members are one, none are none, and the bound is sharp.
-/
import Derived.Test.YtaajfilecmgcnaaQuorumMeets
import Derived.Test.YtaajfilecmgcnaaAppI
namespace Go.Proofs.Ytaajfilecmgcnaa
open Go.RowKit
set_option maxHeartbeats 1000000
set_option maxRecDepth 100000
set_option linter.unusedVariables false

theorem grow_gens : ∀ l ∈ Qm.gens 6 0, l ≠ [] → (l.length / 2 + 1 ≤ Qm.among l l) ∧ ¬ (l.length / 2 + 1 ≤ Qm.among l []) ∧ ¬ (l.length / 2 + 1 ≤ Qm.among l (l.take (l.length / 2))) ∧ (l.length / 2 + 1 ≤ Qm.among l (l.drop (l.length - (l.length / 2 + 1)))) ∧ l.length / 2 + 1 ≤ l.length := by decide +kernel
theorem among_more (l a b : List Int) : Qm.among l a ≤ Qm.among l (a ++ b) := by
  unfold Qm.among
  apply List.countP_mono_left
  intro x _ h
  simp only [decide_eq_true_eq] at h ⊢
  exact List.mem_append_left _ h

theorem quorumGrows_walk (A : Option Addr) (n c : Nat) (l : List Int) (A1 : Option Addr) (n1 c1 : Nat) (a : List Int) (A2 : Option Addr) (n2 c2 : Nat) (b : List Int) (w : World) (hi : IsInts w A n c l) (hi1 : IsInts w A1 n1 c1 a) (hi2 : IsInts w A2 n2 c2 b) :
    Calls Try.prog 11 #[.slice A n c, .slice A1 n1 c1, .slice A2 n2 c2] w fun e w' => e = .returned (.bool true) ∧ Below w.heap.size w w' := by
  obtain ⟨hr, hc, hm, _⟩ := hi
  obtain ⟨hr1, hc1, hm1, _⟩ := hi1
  obtain ⟨hr2, hc2, hm2, _⟩ := hi2
  unfold maxLen at hm hm1 hm2
  have hl := hr.len_i
  have HR := Lib.hid hr
  have HR1 := Lib.hid hr1
  have HR2 := Lib.hid hr2
  have HL := Lib.hid hl
  clear hr hr1 hr2 hl
  go_enter Try.func11, Try.ntmps11
  go_wp2_with fail
  refine (alive06 w).mono ?_
  rintro e w1 ⟨rfl, b1⟩
  have B1 := Lib.hid b1
  clear b1
  have R := Lib.hid (HR.out.below B1.out)
  have R1 := Lib.hid (HR1.out.below B1.out |>.more B1.out.size)
  have R2 := Lib.hid (HR2.out.below B1.out |>.more B1.out.size)
  by_cases q1 : 300 < n1
  · go_wp2
    go_ret
    exact ⟨rfl, B1.out⟩
  · by_cases q2 : 300 < n2
    · go_wp2
      go_ret
      exact ⟨rfl, B1.out⟩
    · obtain ⟨p, v, hp, _, hcp⟩ := qmost_tot n l n1 a HL.out (by omega) (by omega)
      obtain ⟨q, u, hq, huz, hcq⟩ := qmost_tot n l (n1 + n2) (a ++ b) HL.out (by omega) (by omega)
      have HP := Lib.hid hp
      have HQ := Lib.hid hq
      have HCP := Lib.hid hcp
      have HCQ := Lib.hid hcq
      have HUZ := Lib.hid huz
      clear hp hq hcp hcq huz
      go_wp2_with fail
      refine (HCP.out _ c _ _ c1 _ w1 R.out R1.out).mono ?_
      rintro e w' ⟨rfl, rfl⟩
      go_wp2_with (at_builtin; refine app_is rfl _ (.tmp 42) rfl w1.heap.size (.slice none 0 0) 0 [] rfl (World.ownsRow_nil _ _ _ _) w1.heap.size A1 n1 c1 a rfl R1.out ?d1 ?d2 ?_)
      case d1 => omega
      case d2 => exact Nat.le_refl _
      intro v1 w2 o1 g1
      have B2 := Lib.hid (g1.below (Nat.le_refl _) (by simp [Value.ownBlock]))
      have O1 : Hid (w2.ownsRow w1.heap.size 3 1 v1 n1 (ci a)) := by simpa [Hid] using o1
      clear o1 g1
      have R22 := Lib.hid (R2.out.below B2.out)
      go_wp2_with (at_builtin; refine app_is rfl (.tmp 43) (.tmp 44) rfl w1.heap.size v1 n1 a rfl O1.out w1.heap.size A2 n2 c2 b rfl R22.out ?d1 ?d2 ?_)
      case d1 => omega
      case d2 => exact B2.out.size
      intro v2 w3 o2 g2
      have B3 := Lib.hid (B2.out.trans (g2.belowOwn O1.out B2.out.size))
      obtain ⟨A3, c3, rfl, s3, _, _⟩ := own_form o2
      have R3 := Lib.hid s3
      have C3 := Lib.hid (then_ B1.out B3.out)
      have RL := Lib.hid (HR.out.below C3.out)
      clear o2 g2 s3
      go_wp2_with fail
      refine (HCQ.out _ c _ _ c3 _ w3 RL.out R3.out).mono ?_
      rintro e w' ⟨rfl, rfl⟩
      by_cases hv : v = 0
      · by_cases hu : u = 0
        · subst hv hu
          obtain ⟨hck, hn1, hpe⟩ := HP.out rfl
          obtain ⟨_, hn2, hqe⟩ := HQ.out rfl
          obtain ⟨hg, hne⟩ := Qm.may_gens (check_zero hck).1
          obtain ⟨g1, g2, g3, g4, g5⟩ := grow_gens l hg hne
          have hn6 := (check_zero hck).2
          rw [HL.out] at g1 g2 g3 g4 g5 hn6
          have hpq : p = true → q = true := by
            intro h
            rw [h] at hpe
            rw [hqe]
            have h1 := of_decide_eq_true hpe.symm
            exact decide_eq_true (Nat.le_trans h1 (among_more l a b))
          have H1 := qmost_ok A n c _ l A n c _ l w3 RL.out RL.out hck (by omega)
          have H2 := qmost_ok A n c _ l none 0 0 0 [] w3 RL.out Reads.none_ hck (by omega)
          have H3 := Lib.hid (qneed_ok A n c _ l w3 RL.out hck)
          have rt := RL.out.first (k := n / 2) (by omega)
          rw [ci_take] at rt
          have H4 := qmost_ok A n c _ l A (n / 2) c _ _ w3 RL.out rt hck (by omega)
          have rd := RL.out.rest (k := n - (n / 2 + 1)) (c := c) (by omega) hc
          rw [ci_drop] at rd
          have H5 := qmost_ok A n c _ l _ (n - (n - (n / 2 + 1))) (c - (n - (n / 2 + 1))) _ _ w3 RL.out rd hck (by omega)
          rw [decide_eq_true g1] at H1
          rw [decide_eq_false g2] at H2
          rw [decide_eq_false g3] at H4
          rw [decide_eq_true g4] at H5
          have hs1 : ∀ w, (Instr.slice 39 (.slice A n c) none (some (.int .i64 ((n / 2 : Nat) : Int))) none).run Try.prog w = .ok (.slice A (n / 2) c) w := fun w =>
            run_slice_to Try.underlying39 A n c (n / 2) (by omega) w int_size
          obtain ⟨d, hd⟩ : ∃ d, n / 2 = d := ⟨_, rfl⟩
          rw [hd] at H3 H4 H5 hs1 g5
          have hcu : cutA A c (n - (d + 1)) = Option.map (fun x => x.add (n - (d + 1))) A := if_neg (by omega)
          rw [hcu] at H5
          have e1 : ((d + 1 : Nat) : Int) - 1 = (d : Int) := by omega
          have H1 := Lib.hid H1
          have H2 := Lib.hid H2
          have H4 := Lib.hid H4
          have H5 := Lib.hid H5
          have HPQ := Lib.hid hpq
          clear hck hpe hqe hg hne g1 g2 g3 g4 hpq HP HQ HCP HCQ HUZ rt rd hd hcu
          cases p with
          | false =>
            go_wp2_with (first | (with_reducible refine H1.out.mono ?_; rintro e w' ⟨rfl, rfl⟩) | (with_reducible refine H2.out.mono ?_; rintro e w' ⟨rfl, rfl⟩) | (with_reducible refine H3.out.mono ?_; rintro e w' ⟨rfl, rfl⟩) | (with_reducible refine H4.out.mono ?_; rintro e w' ⟨rfl, rfl⟩) | (with_reducible refine H5.out.mono ?_; rintro e w' ⟨rfl, rfl⟩))
            go_ret
            exact ⟨rfl, C3.out⟩
          | true =>
            cases q with
            | false => exact absurd (HPQ.out rfl) (by decide)
            | true =>
              go_wp2_with (first | (with_reducible refine H1.out.mono ?_; rintro e w' ⟨rfl, rfl⟩) | (with_reducible refine H2.out.mono ?_; rintro e w' ⟨rfl, rfl⟩) | (with_reducible refine H3.out.mono ?_; rintro e w' ⟨rfl, rfl⟩) | (with_reducible refine H4.out.mono ?_; rintro e w' ⟨rfl, rfl⟩) | (with_reducible refine H5.out.mono ?_; rintro e w' ⟨rfl, rfl⟩))
              go_ret
              exact ⟨rfl, C3.out⟩
        · clear HP HQ
          go_wp2
          all_goals (go_ret; exact ⟨rfl, C3.out⟩)
      · clear HP HQ
        go_wp2
        all_goals (go_ret; exact ⟨rfl, C3.out⟩)
end Go.Proofs.Ytaajfilecmgcnaa
