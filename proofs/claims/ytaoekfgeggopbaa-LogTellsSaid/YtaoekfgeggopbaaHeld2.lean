/-
  A region that draws its order (XHeld): where two operations may come up.
-/
import Derived.Test.YtaoekfgeggopbaaHeld
namespace Go.Proofs.Ytaoekfgeggopbaa
open Go.RowKit
set_option linter.unusedVariables false
section
variable {P : Program} {md : Region.Mode} {ops : Array Oper} {Q : Exit → Act → World → Prop} {S : World → Prop} {n : Nat} {L : Array Bool → Act → World → Prop}
def twoB (md : Region.Mode) (ops : Array Oper) (n i j : Nat) (listed : Array Bool) : Bool := decide (Region.ready md ops listed = [i, j]) && decide (i < n) && decide (j < n)
/-- Two may come up. -/
theorem T_two {i j : Nat} {oi oj : Oper} {ri rj : List Oper} {f : Nat} {listed : Array Bool} {a : Act} {w : World} (hi : ops.toList.drop i = oi :: ri) (hj : ops.toList.drop j = oj :: rj) (hB : twoB md ops n i j listed = true)
    (h1 : wpList P ops (Qn Q (fun a' w' => S w' ∧ wpAnyT P md ops Q S n L f (listed.setIfInBounds i true) a' w')) [oi] a w)
    (h2 : wpList P ops (Qn Q (fun a' w' => S w' ∧ wpAnyT P md ops Q S n L f (listed.setIfInBounds j true) a' w')) [oj] a w) : wpAnyT P md ops Q S n L (f + 1) listed a w := by
  simp only [twoB, Bool.and_eq_true, decide_eq_true_eq] at hB
  refine ⟨by rw [hB.1.1]; simp, fun k hk => ?_⟩
  rw [hB.1.1] at hk
  rcases List.mem_cons.1 hk with rfl | hk
  · exact ⟨hB.1.2, wpOp_mono (fun a' w' h' => h') (list_op (at_of_drop hi) h1)⟩
  · obtain rfl : k = j := by simpa using hk
    exact ⟨hB.2, wpOp_mono (fun a' w' h' => h') (list_op (at_of_drop hj) h2)⟩
end
end Go.Proofs.Ytaoekfgeggopbaa
