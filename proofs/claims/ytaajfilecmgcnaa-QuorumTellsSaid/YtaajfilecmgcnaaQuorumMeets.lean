/-
  Layer 6: the chapter's own test whether it is alive; the walk of QuorumMeets: two majorities have a node in common.
-/
import Derived.Test.YtaajfilecmgcnaaQuorum
namespace Go.Proofs.Ytaajfilecmgcnaa
open Go.RowKit
set_option maxHeartbeats 1000000
set_option maxRecDepth 100000
set_option linter.unusedVariables false

theorem newI (w : World) (l : List Int) (cs : Array Value) (h : cs.toList = ci l) : Reads (w.alloc (.cells cs 3)) (w.heap.size + 1) 1 (some ⟨w.heap.size, 0, none⟩) l.length (ci l) := by
  have := Reads.new w 3 cs
  rw [h] at this
  have e : cs.size = l.length := by rw [← Array.length_toList, h, ci_length]
  rwa [e] at this
theorem qmost_lit (l l' : List Int) (n n' : Nat) (cs cs' : Array Value) (r : Bool) (w : World) (hl : l.length = n) (hl' : l'.length = n') (h : cs.toList = ci l) (h' : cs'.toList = ci l') (hc : Qm.check l = 0) (hn : n' ≤ 1000) (hr : decide (n / 2 + 1 ≤ Qm.among l l') = r) :
    Calls Try.prog 34 #[.slice (some ⟨w.heap.size, 0, none⟩) n n, .slice (some ⟨w.heap.size + 1, 0, none⟩) n' n'] ((w.alloc (.cells cs 3)).alloc (.cells cs' 3)) fun e w' => e = .returned (.tuple #[.bool r, .int .i64 0]) ∧ Below w.heap.size w w' := by
  subst hl hl' hr
  have h2 := newI (w.alloc (.cells cs 3)) l' cs' h'
  have hz : (w.alloc (.cells cs 3)).heap.size = w.heap.size + 1 := by simp
  rw [hz] at h2
  refine (qmost_ok _ _ _ _ l _ _ _ _ l' _ ((newI w l cs h).alloc (by simp) _) h2 hc hn).mono ?_
  rintro e w' ⟨rfl, rfl⟩
  exact ⟨rfl, ((Below.refl _ _).alloc (Nat.le_refl _) _).alloc (by simp) _⟩
theorem qneed_lit (l : List Int) (n m : Nat) (cs : Array Value) (w : World) (hl : l.length = n) (h : cs.toList = ci l) (hc : Qm.check l = 0) (hm : n / 2 + 1 = m) :
    Calls Try.prog 35 #[.slice (some ⟨w.heap.size, 0, none⟩) n n] (w.alloc (.cells cs 3)) fun e w' => e = .returned (.tuple #[.int .i64 (m : Int), .int .i64 0]) ∧ Below w.heap.size w w' := by
  subst hl hm
  refine (qneed_ok _ _ _ _ l _ (newI w l cs h) hc).mono ?_
  rintro e w' ⟨rfl, rfl⟩
  exact ⟨rfl, (Below.refl _ _).alloc (Nat.le_refl _) _⟩

theorem alive06 (w : World) : Calls Try.prog 33 #[] w fun e w' => e = .returned (.bool true) ∧ Below w.heap.size w w' := by
  go_enter Try.func33, Try.ntmps33
  go_wp2_with fail
  refine (qneed_lit [0, 2, 5] 3 2 _ w rfl rfl (by decide) rfl).mono ?_
  rintro e w1 ⟨rfl, b1⟩
  have B1 := Lib.hid b1
  clear b1
  go_wp2_with fail
  refine (qmost_lit [0, 2, 5] [5, 5, 0] 3 3 _ _ true w1 rfl rfl rfl rfl (by decide) (by omega) (by decide)).mono ?_
  rintro e w2 ⟨rfl, b2⟩
  have B2 := Lib.hid b2
  clear b2
  go_wp2_with fail
  refine (qmost_lit [0, 2, 5] [5, 5, 1] 3 3 _ _ false w2 rfl rfl rfl rfl (by decide) (by omega) (by decide)).mono ?_
  rintro e w3 ⟨rfl, b3⟩
  have B3 := Lib.hid b3
  clear b3
  go_wp2
  go_ret
  exact ⟨rfl, then_ (then_ B1.out B2.out) B3.out⟩

/-- Most, for all arguments. -/
theorem qmost_tot (n : Nat) (l : List Int) (n' : Nat) (l' : List Int) (hl : l.length = n) (hn : n ≤ 9223372036854775807) (hn' : n' ≤ 9223372036854775807) : ∃ (p : Bool) (v : Int), (v = 0 → Qm.check l = 0 ∧ n' ≤ 1000 ∧ p = decide (n / 2 + 1 ≤ Qm.among l l')) ∧ (Qm.check l = 0 → n' ≤ 1000 → v = 0) ∧
    ∀ A c B A' c' B' w, Reads w B 1 A n (ci l) → Reads w B' 1 A' n' (ci l') → Calls Try.prog 34 #[.slice A n c, .slice A' n' c'] w fun e w' => e = .returned (.tuple #[.bool p, .int .i64 v]) ∧ w = w' := by
  by_cases h : Qm.check l = 0
  · by_cases h2 : n' ≤ 1000
    · exact ⟨_, 0, fun _ => ⟨h, h2, rfl⟩, fun _ _ => rfl, fun A c B A' c' B' w hr hr' => qmost_ok A n c B l A' n' c' B' l' w hr hr' h h2⟩
    · exact ⟨false, 4, fun h => by omega, fun _ h => absurd h h2, fun A c B A' c' B' w hr _ => qmost_many A n c B l A' n' c' w hr h (by omega) hn'⟩
  · exact ⟨false, Qm.check l, fun hh => absurd hh h, fun hh => absurd hh h, fun A c B A' c' B' w hr _ => qmost_bad A n c B l A' n' c' _ w hr hn rfl h⟩

theorem quorumMeets_walk (A : Option Addr) (n c : Nat) (l : List Int) (A1 : Option Addr) (n1 c1 : Nat) (a : List Int) (A2 : Option Addr) (n2 c2 : Nat) (b : List Int) (w : World) (hi : IsInts w A n c l) (hi1 : IsInts w A1 n1 c1 a) (hi2 : IsInts w A2 n2 c2 b) :
    Calls Try.prog 13 #[.slice A n c, .slice A1 n1 c1, .slice A2 n2 c2] w fun e w' => e = .returned (.bool true) ∧ Below w.heap.size w w' := by
  obtain ⟨hr, hc, hm, _⟩ := hi
  obtain ⟨hr1, hc1, hm1, _⟩ := hi1
  obtain ⟨hr2, hc2, hm2, _⟩ := hi2
  unfold maxLen at hm hm1 hm2
  have hl := hr.len_i
  obtain ⟨p, v, hp, _, hcp⟩ := qmost_tot n l n1 a hl (by omega) (by omega)
  obtain ⟨q, u, hq, _, hcq⟩ := qmost_tot n l n2 b hl (by omega) (by omega)
  have HP := Lib.hid hp
  have HQ := Lib.hid hq
  have HCP := Lib.hid hcp
  have HCQ := Lib.hid hcq
  have HR := Lib.hid hr
  have HR1 := Lib.hid hr1
  have HR2 := Lib.hid hr2
  have HL := Lib.hid hl
  clear hr hr1 hr2 hl hp hq hcp hcq
  go_enter Try.func13, Try.ntmps13
  go_wp2_with fail
  refine (alive06 w).mono ?_
  rintro e w1 ⟨rfl, b1⟩
  have B1 := Lib.hid b1
  clear b1
  have R := Lib.hid (HR.out.below B1.out)
  have R1 := Lib.hid (HR1.out.below B1.out)
  have R2 := Lib.hid (HR2.out.below B1.out)
  go_wp2_with fail
  refine (HCP.out _ c _ _ c1 _ w1 R.out R1.out).mono ?_
  rintro e w' ⟨rfl, rfl⟩
  go_wp2_with fail
  refine (HCQ.out _ c _ _ c2 _ w1 R.out R2.out).mono ?_
  rintro e w' ⟨rfl, rfl⟩
  by_cases hv : v = 0
  · by_cases hu : u = 0
    · subst hv hu
      obtain ⟨hck, hn1, hpe⟩ := HP.out rfl
      obtain ⟨_, hn2, hqe⟩ := HQ.out rfl
      have hn6 := (check_zero hck).2
      have hn7 : n ≤ 6 := by rw [← HL.out]; exact hn6
      cases p with
      | false =>
        clear hck hn1 hpe hn2 hqe hn6 hn7
        go_wp2
        go_ret
        exact ⟨rfl, B1.out⟩
      | true =>
        cases q with
        | false =>
          clear hck hn1 hpe hn2 hqe hn6 hn7
          go_wp2
          go_ret
          exact ⟨rfl, B1.out⟩
        | true =>
          have hboth : ∃ x ∈ l, decide (x ∈ a) = true ∧ decide (x ∈ b) = true := by
            have h1 := of_decide_eq_true hpe.symm
            have h2 := of_decide_eq_true hqe.symm
            unfold Qm.among at h1 h2
            apply Qm.both l
            have := HL.out
            omega
          obtain ⟨x, hx, hxa, hxb⟩ := hboth
          obtain ⟨m, hml, hmx⟩ := List.getElem_of_mem hx
          have HXA := Lib.hid hxa
          have HXB := Lib.hid hxb
          have HMX := Lib.hid hmx
          have hmn : m < n := by rw [← HL.out]; exact hml
          clear hx hxa hxb hmx hck hpe hqe hn6 HP HQ HCP HCQ HR HR1 HR2
          go_wp2
          go_loopw [12] (fun y wr => (∃ k : Nat, y = .int .i64 (k : Int) ∧ k ≤ m) ∧ wr = w1) (fun y _ => n - (intOf y).toNat)
          case atStart => exact ⟨⟨0, rfl, by omega⟩, rfl⟩
          case round =>
            obtain ⟨⟨k, rfl, hk⟩, rfl⟩ := hrel
            have hlt : k < n := by omega
            obtain ⟨ad, y, rfl, hbl, hu, hcell⟩ := R.out.at_ hlt
            have hkl : k < l.length := by rw [HL.out]; exact hlt
            have hg : l[k]? = some (l[k]'hkl) := List.getElem?_eq_getElem hkl
            rw [ci_get, hg] at hu
            simp only [Option.map_some, Option.some.injEq] at hu
            subst hu
            clear hg
            obtain ⟨z, hz⟩ : ∃ z, l[k]'hkl = z := ⟨_, rfl⟩
            rw [hz] at hcell
            have hne : (decide (z ∈ a) = false ∨ decide (z ∈ b) = false) → k ≠ m := by
              intro h hkm
              subst hkm
              rw [← hz, HMX.out, HXA.out, HXB.out] at h
              simp at h
            have HNE := Lib.hid hne
            clear hz hne hkl
            obtain ⟨r, hr⟩ : ∃ r, decide (z ∈ a) = r := ⟨_, rfl⟩
            obtain ⟨s, hs⟩ : ∃ s, decide (z ∈ b) = s := ⟨_, rfl⟩
            have H1 := Lib.hid (qhas_any A1 n1 c1 _ a z _ R1.out (by omega))
            have H2 := Lib.hid (qhas_any A2 n2 c2 _ b z _ R2.out (by omega))
            rw [hr] at H1 HNE
            rw [hs] at H2 HNE
            clear hr hs
            cases r with
            | false =>
              have hkm := HNE.out (Or.inl rfl)
              go_wp2_with (first | (with_reducible refine H1.out.mono ?_; rintro e w' ⟨rfl, rfl⟩))
              go_roundw
              case rel => exact ⟨⟨k + 1, by go_num, by omega⟩, by trivial⟩
              case measure => simp [intOf]; omega
            | true =>
              cases s with
              | false =>
                have hkm := HNE.out (Or.inr rfl)
                go_wp2_with (first | (with_reducible refine H1.out.mono ?_; rintro e w' ⟨rfl, rfl⟩) | (with_reducible refine H2.out.mono ?_; rintro e w' ⟨rfl, rfl⟩))
                go_roundw
                case rel => exact ⟨⟨k + 1, by go_num, by omega⟩, by trivial⟩
                case measure => simp [intOf]; omega
              | true =>
                go_wp2_with (first | (with_reducible refine H1.out.mono ?_; rintro e w' ⟨rfl, rfl⟩) | (with_reducible refine H2.out.mono ?_; rintro e w' ⟨rfl, rfl⟩))
                go_ret
                exact ⟨rfl, B1.out⟩
    · clear HP HQ
      go_wp2
      all_goals (go_ret; exact ⟨rfl, B1.out⟩)
  · clear HP HQ
    go_wp2
    all_goals (go_ret; exact ⟨rfl, B1.out⟩)
end Go.Proofs.Ytaajfilecmgcnaa
