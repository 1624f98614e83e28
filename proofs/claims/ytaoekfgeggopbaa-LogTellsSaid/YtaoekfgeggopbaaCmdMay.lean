/-
  Which commands may be: what their kind has alone may be, and they have no more.
-/
import Derived.Test.YtaoekfgeggopbaaCmdMem
namespace Go.Proofs.Ytaoekfgeggopbaa
open Go.RowKit
set_option linter.unusedVariables false
set_option linter.unusedSimpArgs false
namespace Cp
theorem mayC_plain (c : Cmd) : mayC c = (okK c && sameC (plainC c) c) := by
  obtain ⟨k, mi, gs, mt, key, body, i, tm, mem, tp, who, n⟩ := c
  rcases (by omega : k = 0 ∨ k = 1 ∨ k = 2 ∨ k = 3 ∨ k = 4 ∨ k = 5 ∨ k = 6 ∨ (k < 0 ∨ 6 < k)) with rfl | rfl | rfl | rfl | rfl | rfl | rfl | h
  · simp [mayC, okK, plainC, fieldsC, cpF, cp, zeroC, sameC, sameM, msg0]
    apply Bool.eq_iff_iff.2
    simp only [Bool.and_eq_true, decide_eq_true_eq, beq_iff_eq, List.isEmpty_iff]
    grind
  · simp [mayC, okK, plainC, fieldsC, cpF, cp, zeroC, sameC, sameM, msg0, msgB]
    apply Bool.eq_iff_iff.2
    simp only [Bool.and_eq_true, decide_eq_true_eq, beq_iff_eq, List.isEmpty_iff]
    grind
  · simp [mayC, okK, plainC, fieldsC, cpF, cp, zeroC, sameC, sameM, msg0, msgB]
    apply Bool.eq_iff_iff.2
    simp only [Bool.and_eq_true, decide_eq_true_eq, beq_iff_eq, List.isEmpty_iff]
    grind
  · simp [mayC, okK, plainC, fieldsC, cpF, cp, zeroC, sameC, sameM, msg0, msgB]
    apply Bool.eq_iff_iff.2
    simp only [Bool.and_eq_true, decide_eq_true_eq, beq_iff_eq, List.isEmpty_iff]
    grind
  · simp [mayC, okK, plainC, fieldsC, cpF, cp, zeroC, sameC, sameM, msg0, msgB]
    apply Bool.eq_iff_iff.2
    simp only [Bool.and_eq_true, decide_eq_true_eq, beq_iff_eq, List.isEmpty_iff]
    grind
  · simp [mayC, okK, plainC, fieldsC, cpF, cp, zeroC, sameC, sameM, msg0, msgB]
    apply Bool.eq_iff_iff.2
    simp only [Bool.and_eq_true, decide_eq_true_eq, beq_iff_eq, List.isEmpty_iff]
    grind
  · simp [mayC, okK, plainC, fieldsC, cpF, cp, zeroC, sameC, sameM, msg0, msgB]
    apply Bool.eq_iff_iff.2
    simp only [Bool.and_eq_true, decide_eq_true_eq, beq_iff_eq, List.isEmpty_iff]
    grind
  · have e1 : mayC ⟨k, mi, gs, mt, key, body, i, tm, mem, tp, who, n⟩ = false := by
      unfold mayC
      simp only
      rw [if_neg (by omega), if_neg (by omega), if_neg (by omega), if_neg (by omega), if_neg (by omega), if_neg (by omega)]
    have e2 : okK ⟨k, mi, gs, mt, key, body, i, tm, mem, tp, who, n⟩ = false := by
      unfold okK
      simp only
      rw [if_neg (by omega), if_neg (by omega), if_neg (by omega), if_neg (by omega), if_neg (by omega), if_neg (by omega)]
    rw [e1, e2]
    rfl
end Cp
end Go.Proofs.Ytaoekfgeggopbaa
