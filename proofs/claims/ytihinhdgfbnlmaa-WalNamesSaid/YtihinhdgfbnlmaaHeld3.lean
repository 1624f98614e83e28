/-
  A region that draws its order (XHeld): where three operations may come up.
-/
import Derived.Test.YtihinhdgfbnlmaaHeld2
namespace Go.Proofs.Ytihinhdgfbnlmaa
open Go.RowKit
set_option linter.unusedVariables false
section
variable {P : Program} {md : Region.Mode} {ops : Array Oper} {Q : Exit → Act → World → Prop} {S : World → Prop} {n : Nat} {L : Array Bool → Act → World → Prop}
def threeB (md : Region.Mode) (ops : Array Oper) (n i j k : Nat) (listed : Array Bool) : Bool := decide (Region.ready md ops listed = [i, j, k]) && decide (i < n) && decide (j < n) && decide (k < n)
/-- Three may come up. -/
theorem T_three {i j k : Nat} {oi oj ok : Oper} {ri rj rk : List Oper} {f : Nat} {listed : Array Bool} {a : Act} {w : World} (hi : ops.toList.drop i = oi :: ri) (hj : ops.toList.drop j = oj :: rj) (hk : ops.toList.drop k = ok :: rk) (hB : threeB md ops n i j k listed = true)
    (h1 : wpList P ops (Qn Q (fun a' w' => S w' ∧ wpAnyT P md ops Q S n L f (listed.setIfInBounds i true) a' w')) [oi] a w)
    (h2 : wpList P ops (Qn Q (fun a' w' => S w' ∧ wpAnyT P md ops Q S n L f (listed.setIfInBounds j true) a' w')) [oj] a w)
    (h3 : wpList P ops (Qn Q (fun a' w' => S w' ∧ wpAnyT P md ops Q S n L f (listed.setIfInBounds k true) a' w')) [ok] a w) : wpAnyT P md ops Q S n L (f + 1) listed a w := by
  simp only [threeB, Bool.and_eq_true, decide_eq_true_eq] at hB
  refine ⟨by rw [hB.1.1.1]; simp, fun m hm => ?_⟩
  rw [hB.1.1.1] at hm
  rcases List.mem_cons.1 hm with rfl | hm
  · exact ⟨hB.1.1.2, wpOp_mono (fun a' w' h' => h') (list_op (at_of_drop hi) h1)⟩
  · rcases List.mem_cons.1 hm with rfl | hm
    · exact ⟨hB.1.2, wpOp_mono (fun a' w' h' => h') (list_op (at_of_drop hj) h2)⟩
    · obtain rfl : m = k := by simpa using hm
      exact ⟨hB.2, wpOp_mono (fun a' w' h' => h') (list_op (at_of_drop hk) h3)⟩
end
end Go.Proofs.Ytihinhdgfbnlmaa
