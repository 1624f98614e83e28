/-
  Contract of quorum.CheckGroup.
-/
import Derived.Test.YtaoekfgeggopbaaQuorumMeets
namespace Go.Proofs.Ytaoekfgeggopbaa
open Go.RowKit
set_option maxHeartbeats 1000000
set_option maxRecDepth 100000
set_option linter.unusedVariables false

/-- Are all of some among others? -/
def within (l all : List Int) : Bool := l.all fun n => decide (n ∈ all)
def cgroup (l m : List Int) : Int := if Qm.check l = 0 then (if Qm.check m = 0 then (if within m l = true then 0 else 60) else Qm.check m) else Qm.check l
theorem cgroup_zero {l m : List Int} (h : cgroup l m = 0) : Qm.check l = 0 ∧ Qm.check m = 0 ∧ within m l = true := by
  unfold cgroup at h
  split at h
  · rename_i h1
    split at h
    · rename_i h2
      split at h
      · rename_i h3
        exact ⟨h1, h2, h3⟩
      · cases h
    · rename_i h2
      exact absurd h h2
  · rename_i h1
    exact absurd h h1
theorem andNot_u64 (a b : Fin 64) : bits .andNot .u64 (a.val : Int) (b.val : Int) = ((a.val &&& (63 ^^^ b.val) : Nat) : Int) := by revert a b; decide +kernel
theorem within_gens : ∀ l ∈ Qm.gens 6 0, ∀ x : Fin 64, decide (Qm.bitsN 0 l &&& (63 ^^^ x.val) = 0) = l.all (Qm.bitAt x.val) := by decide +kernel
theorem within_bits {l m : List Int} (h : Qm.may m = true) : decide (Qm.bitsN 0 m &&& (63 ^^^ Qm.bitsN 0 l) = 0) = within m l := by
  obtain ⟨hg, _⟩ := Qm.may_gens h
  rw [within_gens m hg ⟨Qm.bitsN 0 l, Qm.bitsN_lt _ _ (by omega)⟩]
  unfold within
  rw [Bool.eq_iff_iff, List.all_eq_true, List.all_eq_true]
  have key : ∀ n ∈ m, Qm.bitAt (Qm.bitsN 0 l) n = decide (n ∈ l) := by
    intro n hn
    obtain ⟨h0, h6⟩ := Qm.in_gens m hg n hn
    have hb := Qm.bitsN_bit l 0 n.toNat (by omega)
    have e : ((n.toNat : Nat) : Int) = n := by omega
    rw [e] at hb
    simp only [Nat.zero_testBit, Bool.false_or] at hb
    exact hb
  constructor
  · intro h n hn
    rw [← key n hn]
    exact h n hn
  · intro h n hn
    show Qm.bitAt (Qm.bitsN 0 l) n = true
    rw [key n hn]
    exact h n hn

theorem qgroup_any (A : Option Addr) (n c : Nat) (l : List Int) (A' : Option Addr) (n' c' : Nat) (m : List Int) (w : World) (hr : Reads w w.heap.size 1 A n (ci l)) (hr' : Reads w w.heap.size 1 A' n' (ci m)) (hn : n ≤ 9223372036854775807) (hn' : n' ≤ 9223372036854775807) :
    Calls Try.prog 58 #[.agg #[.slice A n c, .slice A' n' c']] w fun e w' => e = .returned (.int .i64 (cgroup l m)) ∧ Below w.heap.size w w' := by
  obtain ⟨v, hv⟩ : ∃ v, Qm.check l = v := ⟨_, rfl⟩
  obtain ⟨u, hu⟩ : ∃ u, Qm.check m = u := ⟨_, rfl⟩
  have HV := Lib.hid hv
  have HU := Lib.hid hu
  have H1 : ∀ w', Below w.heap.size w w' → Calls Try.prog 44 #[.slice A n c] w' fun e w'' => e = .returned (.int .i64 v) ∧ w' = w'' := by
    intro w' hb
    rw [← hv]
    exact qcheck_any A n c _ l w' (hr.below hb) (by omega)
  have H2 : ∀ w', Below w.heap.size w w' → Calls Try.prog 44 #[.slice A' n' c'] w' fun e w'' => e = .returned (.int .i64 u) ∧ w' = w'' := by
    intro w' hb
    rw [← hu]
    exact qcheck_any A' n' c' _ m w' (hr'.below hb) (by omega)
  have H3 : Qm.check l = 0 → ∀ w', Below w.heap.size w w' → Calls Try.prog 87 #[.slice A n c] w' fun e w'' => e = .returned (.int .u64 (Qm.bitsN 0 l : Nat)) ∧ w' = w'' := fun h0 w' hb => qset_any A n c _ l w' (hr.below hb) (by have h6 := check_zero h0; have := hr.len_i; omega)
  have H4 : Qm.check m = 0 → ∀ w', Below w.heap.size w w' → Calls Try.prog 87 #[.slice A' n' c'] w' fun e w'' => e = .returned (.int .u64 (Qm.bitsN 0 m : Nat)) ∧ w' = w'' := fun h0 w' hb => qset_any A' n' c' _ m w' (hr'.below hb) (by have h6 := check_zero h0; have := hr'.len_i; omega)
  have H1 := Lib.hid H1
  have H2 := Lib.hid H2
  have H3 := Lib.hid H3
  have H4 := Lib.hid H4
  have B0 : Hid (∀ t, Below w.heap.size w (w.alloc (.cells #[.slice A n c, .slice A' n' c'] t))) := Lib.hid fun t => (Below.refl _ _).alloc (Nat.le_refl _) _
  clear hr hr' hv hu
  go_enter Try.func58, Try.ntmps58
  go_wp2_with fail
  refine (H1.out _ (B0.out _)).mono ?_
  rintro e w' ⟨rfl, rfl⟩
  by_cases hv : v = 0
  · go_wp2_with fail
    refine (H2.out _ (B0.out _)).mono ?_
    rintro e w' ⟨rfl, rfl⟩
    by_cases hu : u = 0
    · subst hv hu
      have hw := within_bits (l := l) (check_zero HU.out).1
      have hand := andNot_u64 ⟨_, Qm.bitsN_lt m 0 (by omega)⟩ ⟨_, Qm.bitsN_lt l 0 (by omega)⟩
      simp only at hand
      have H5 : Hid (∀ w', Below w.heap.size w w' → Calls Try.prog 87 #[.slice A n c] w' fun e w'' => e = .returned (.int .u64 (Qm.bitsN 0 l : Nat)) ∧ w'' = w') := Lib.hid fun w' hb => (H3.out HV.out w' hb).mono fun _ _ h => ⟨h.1, h.2.symm⟩
      have H6 : Hid (∀ w', Below w.heap.size w w' → Calls Try.prog 87 #[.slice A' n' c'] w' fun e w'' => e = .returned (.int .u64 (Qm.bitsN 0 m : Nat)) ∧ w'' = w') := Lib.hid fun w' hb => (H4.out HU.out w' hb).mono fun _ _ h => ⟨h.1, h.2.symm⟩
      obtain ⟨x, hx⟩ : ∃ x, Qm.bitsN 0 l = x := ⟨_, rfl⟩
      obtain ⟨y, hy⟩ : ∃ y, Qm.bitsN 0 m = y := ⟨_, rfl⟩
      rw [hx] at H5 hw hand
      rw [hy] at H6 hw hand
      clear hx hy H3 H4 H1 H2
      have HW := Lib.hid hw
      have HAND := Lib.hid hand
      clear hw hand
      go_wp2_with fail
      have c0 : (w.alloc (.cells #[.slice A n c, .slice A' n' c'] 52)).cell? ⟨w.heap.size, 0, none⟩ = some (.slice A n c) := (Blk.new _ _ _).cell 0
      have c1 : (w.alloc (.cells #[.slice A n c, .slice A' n' c'] 52)).cell? ⟨w.heap.size, 1, none⟩ = some (.slice A' n' c') := (Blk.new _ _ _).cell 1
      go_quiet (first
        | (with_reducible refine Calls.quiet_of_same (H6.out _ (below_drewN (B0.out _) _)))
        | (with_reducible refine Calls.quiet_of_same (H5.out _ (below_drewN (B0.out _) _))))
      have hw := HW.out
      have hand := HAND.out
      cases hwi : within m l with
      | true =>
        rw [hwi] at hw
        have hz : ((y &&& (63 ^^^ x) : Nat) : Int) = 0 := by rw [of_decide_eq_true hw]; rfl
        rw [hz] at hand
        have hcg : cgroup l m = 0 := by unfold cgroup; rw [if_pos HV.out, if_pos HU.out, if_pos hwi]
        clear hw hwi hz
        go_wp2
        go_ret
        rw [hcg]
        exact ⟨rfl, below_drewN (B0.out _) _⟩
      | false =>
        rw [hwi] at hw
        have hz : ((y &&& (63 ^^^ x) : Nat) : Int) ≠ 0 := by
          have := of_decide_eq_false hw
          omega
        rw [← hand] at hz
        have hcg : cgroup l m = 60 := by unfold cgroup; rw [if_pos HV.out, if_pos HU.out, if_neg (by rw [hwi]; decide)]
        clear hw hwi hand
        go_wp2
        go_ret
        rw [hcg]
        exact ⟨rfl, below_drewN (B0.out _) _⟩
    · have hcg : cgroup l m = u := by unfold cgroup; rw [if_pos (by rw [HV.out]; exact hv), if_neg (by rw [HU.out]; exact hu), HU.out]
      go_wp2
      go_ret
      rw [hcg]
      exact ⟨rfl, B0.out _⟩
  · have hcg : cgroup l m = v := by unfold cgroup; rw [if_neg (by rw [HV.out]; exact hv), HV.out]
    go_wp2
    go_ret
    rw [hcg]
    exact ⟨rfl, B0.out _⟩
end Go.Proofs.Ytaoekfgeggopbaa
