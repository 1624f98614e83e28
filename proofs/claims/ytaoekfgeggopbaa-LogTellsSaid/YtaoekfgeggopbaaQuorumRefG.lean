/-
  Contracts of the reference's MayGroup and CheckGroup.
-/
import Derived.Test.YtaoekfgeggopbaaQuorumRefB
namespace Go.Proofs.Ytaoekfgeggopbaa
open Go.RowKit
set_option maxHeartbeats 1000000
set_option maxRecDepth 100000
set_option linter.unusedVariables false

theorem below_two {w : World} {B : Nat} {a b : World} (h : Below B w a) (hb : ∃ q, b = a.drewN q) : Below B w b := by
  obtain ⟨q, rfl⟩ := hb
  exact below_drewN h q
/-- Both lists have been found right. -/
theorem rmayGroup_any (A : Option Addr) (n c : Nat) (l : List Int) (A' : Option Addr) (n' c' : Nat) (m : List Int) (B : Nat) (w : World) (hB : B ≤ w.heap.size) (hr : Reads w B 1 A n (ci l)) (hr' : Reads w B 1 A' n' (ci m)) (hn : Qm.check l = 0) (hn' : Qm.check m = 0) :
    Calls Try.prog 90 #[.agg #[.slice A n c, .slice A' n' c']] w fun e w' => e = .returned (.bool (within m l)) ∧ Below B w w' := by
  have hl := hr.len_i
  have hl' := hr'.len_i
  obtain ⟨hm, h6⟩ := check_zero hn
  obtain ⟨hm', h6'⟩ := check_zero hn'
  have H1 : ∀ w', Below B w w' → Calls Try.prog 95 #[.slice A n c] w' fun e w'' => e = .returned (.bool true) ∧ ∃ q, w'' = w'.drewN q := by
    intro w' hb
    rw [← hm]
    exact rmay_any A n c _ l w' (hr.below hb) (by omega)
  have H2 : ∀ w', Below B w w' → Calls Try.prog 95 #[.slice A' n' c'] w' fun e w'' => e = .returned (.bool true) ∧ ∃ q, w'' = w'.drewN q := by
    intro w' hb
    rw [← hm']
    exact rmay_any A' n' c' _ m w' (hr'.below hb) (by omega)
  have H3 : ∀ w', Below B w w' → Calls Try.prog 91 #[.slice A' n' c', .slice A n c] w' fun e w'' => e = .returned (.bool (within m l)) ∧ w' = w'' := fun w' hb => rwithin_any A' n' c' _ m A n c _ l w' (hr'.below hb) (hr.below hb) (by omega) (by omega)
  have H1 := Lib.hid H1
  have H2 := Lib.hid H2
  have H3 := Lib.hid H3
  have B0 : Hid (∀ t q, Below B w ((w.alloc (.cells #[.slice A n c, .slice A' n' c'] t)).drewN q)) := Lib.hid fun t q => below_drewN ((Below.refl _ _).alloc hB _) q
  have B1 : Hid (∀ t, Below B w (w.alloc (.cells #[.slice A n c, .slice A' n' c'] t))) := Lib.hid fun t => (Below.refl _ _).alloc hB _
  generalize within m l = r at *
  clear hr hr' hn hn' hm hm' h6 h6' hl hl'
  go_enter Try.func90, Try.ntmps90
  go_wp2_with fail
  refine (H1.out _ (B1.out _)).mono ?_
  rintro e w' ⟨rfl, q, rfl⟩
  go_wp2_with fail
  refine (H2.out _ (B0.out _ q)).mono ?_
  rintro e w' ⟨rfl, q2, rfl⟩
  rw [World.drewN_drewN]
  go_wp2_with fail
  refine (H3.out _ (B0.out _ _)).mono ?_
  rintro e w' ⟨rfl, rfl⟩
  go_wp2
  go_ret
  exact ⟨rfl, B0.out _ _⟩
theorem rgroup_any (A : Option Addr) (n c : Nat) (l : List Int) (A' : Option Addr) (n' c' : Nat) (m : List Int) (w : World) (hr : Reads w w.heap.size 1 A n (ci l)) (hr' : Reads w w.heap.size 1 A' n' (ci m)) (hn : n ≤ 1000000000000) (hn' : n' ≤ 1000000000000) :
    Calls Try.prog 63 #[.agg #[.slice A n c, .slice A' n' c']] w fun e w' => e = .returned (.int .i64 (cgroup l m)) ∧ Below w.heap.size w w' := by
  obtain ⟨v, hv⟩ : ∃ v, Qm.check l = v := ⟨_, rfl⟩
  obtain ⟨u, hu⟩ : ∃ u, Qm.check m = u := ⟨_, rfl⟩
  have HV := Lib.hid hv
  have HU := Lib.hid hu
  have HR := Lib.hid hr
  have HR' := Lib.hid hr'
  have H1 : ∀ w', Below w.heap.size w w' → Calls Try.prog 77 #[.slice A n c] w' fun e w'' => e = .returned (.int .i64 v) ∧ ∃ q, w'' = w'.drewN q := by
    intro w' hb
    rw [← hv]
    exact rcheck_any A n c _ l w' (hr.below hb) (by omega)
  have H2 : ∀ w', Below w.heap.size w w' → Calls Try.prog 77 #[.slice A' n' c'] w' fun e w'' => e = .returned (.int .i64 u) ∧ ∃ q, w'' = w'.drewN q := by
    intro w' hb
    rw [← hu]
    exact rcheck_any A' n' c' _ m w' (hr'.below hb) (by omega)
  have H1 := Lib.hid H1
  have H2 := Lib.hid H2
  have B0 : Hid (∀ t q, Below w.heap.size w ((w.alloc (.cells #[.slice A n c, .slice A' n' c'] t)).drewN q)) := Lib.hid fun t q => below_drewN ((Below.refl _ _).alloc (Nat.le_refl _) _) q
  have B1 : Hid (∀ t, Below w.heap.size w (w.alloc (.cells #[.slice A n c, .slice A' n' c'] t))) := Lib.hid fun t => (Below.refl _ _).alloc (Nat.le_refl _) _
  clear hr hr' hv hu
  go_enter Try.func63, Try.ntmps63
  go_wp2_with fail
  refine (H1.out _ (B1.out _)).mono ?_
  rintro e w' ⟨rfl, q, rfl⟩
  by_cases hv : v = 0
  · subst hv
    go_wp2_with fail
    refine (H2.out _ (B0.out _ q)).mono ?_
    rintro e w' ⟨rfl, q2, rfl⟩
    rw [World.drewN_drewN]
    by_cases hu : u = 0
    · subst hu
      go_wp2_with fail
      refine (rmayGroup_any A n c l A' n' c' m w.heap.size _ (B0.out _ (q + q2)).size (HR.out.below (B0.out _ (q + q2))) (HR'.out.below (B0.out _ (q + q2))) HV.out HU.out).mono ?_
      rintro e w3 ⟨rfl, hb⟩
      have B3 := Lib.hid ((B0.out _ (q + q2)).trans hb)
      clear hb
      cases hwi : within m l with
      | true =>
        have hcg : cgroup l m = 0 := by unfold cgroup; rw [if_pos HV.out, if_pos HU.out, if_pos hwi]
        have HCG := Lib.hid hcg
        clear hcg hwi
        go_wp2
        go_ret
        rw [HCG.out]
        exact ⟨rfl, B3.out⟩
      | false =>
        have hcg : cgroup l m = 60 := by unfold cgroup; rw [if_pos HV.out, if_pos HU.out, if_neg (by rw [hwi]; decide)]
        have HCG := Lib.hid hcg
        clear hcg hwi
        go_wp2
        go_ret
        rw [HCG.out]
        exact ⟨rfl, B3.out⟩
    · have hcg : cgroup l m = u := by unfold cgroup; rw [if_pos HV.out, if_neg (by rw [HU.out]; exact hu), HU.out]
      have HCG := Lib.hid hcg
      clear hcg
      go_wp2
      go_ret
      rw [HCG.out]
      exact ⟨rfl, B0.out _ _⟩
  · have hcg : cgroup l m = v := by unfold cgroup; rw [if_neg (by rw [HV.out]; exact hv), HV.out]
    have HCG := Lib.hid hcg
    clear hcg
    go_wp2
    go_ret
    rw [HCG.out]
    exact ⟨rfl, B0.out _ _⟩

/-! ### a group that comes in -/
def IsGroup (w : World) (A : Option Addr) (n c : Nat) (l : List Int) (A' : Option Addr) (n' c' : Nat) (m : List Int) : Prop := IsInts w A n c l ∧ IsInts w A' n' c' m
theorem cellsGroup : Try.prog.cellsOf 52 = 2 := by kernel_rfl
end Go.Proofs.Ytaoekfgeggopbaa
