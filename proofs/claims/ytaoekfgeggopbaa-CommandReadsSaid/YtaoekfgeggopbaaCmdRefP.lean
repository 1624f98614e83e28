/-
  The reference of layer 12 in plain Lean: numbers read at once are numbers read one by one.
-/
import Derived.Test.YtaoekfgeggopbaaCmdPlain
import Derived.Test.YtaoekfgeggopbaaCmdNums
namespace Go.Proofs.Ytaoekfgeggopbaa
open Go.RowKit
set_option linter.unusedVariables false
set_option linter.unusedSimpArgs false
namespace Cp
open Nm Rp
def isNum : Fld → Bool
  | .gs => false
  | .key => false
  | .body => false
  | .mem => false
  | _ => true
def setF : Fld → Int → Cmd → Cmd
  | .mi, x, c => { c with mi := x }
  | .mt, x, c => { c with mt := x }
  | .i, x, c => { c with i := x }
  | .tm, x, c => { c with tm := x }
  | .tp, x, c => { c with tp := x }
  | .who, x, c => { c with who := x }
  | .n, x, c => { c with n := x }
  | _, _, c => c
def cpN : List Fld → List Int → Cmd → Cmd
  | f :: r, x :: xs, c => cpN r xs (setF f x c)
  | _, _, c => c
theorem rd1_num {f : Fld} (h : isNum f = true) (c : Cmd) (p : St) : rd1 f c p = (setF f (next p).1 c, (next p).2) := by
  cases f <;> first | rfl | cases h
theorem nums_none {k : Nat} {l : List UInt8} (h : get l = none) : Wp.numsN (k + 1) l = none ∧ next (l, false) = (0, (l, true)) := by
  constructor
  · unfold Wp.numsN; rw [h]
  · simp [next, h]
theorem nums_some {k m j : Nat} {l : List UInt8} (h : get l = some (m, j)) : next (l, false) = (m, (l.drop j, false)) ∧ Wp.numsN (k + 1) l = (Wp.numsN k (l.drop j)).map fun p => ((m : Int) :: p.1, p.2) := by
  constructor
  · simp [next, h]
  · conv => lhs; unfold Wp.numsN
    rw [h]
    simp only
    cases hq : Wp.numsN k (l.drop j) with
    | none => rfl
    | some p => obtain ⟨a, b⟩ := p; rfl
theorem rdF_nums : ∀ (fs : List Fld) (c : Cmd) (l : List UInt8), (∀ f ∈ fs, isNum f = true) →
    (∀ xs r, Wp.numsN fs.length l = some (xs, r) → rdF fs c (l, false) = (cpN fs xs c, (r, false))) ∧ (Wp.numsN fs.length l = none → (rdF fs c (l, false)).2.2 = true)
  | [], c, l, _ => by
    refine ⟨fun xs r h => ?_, fun h => by simp [Wp.numsN] at h⟩
    simp only [List.length_nil, Wp.numsN, Option.some.injEq, Prod.mk.injEq] at h
    obtain ⟨rfl, rfl⟩ := h
    rfl
  | f :: fs, c, l, hf => by
    have h1 := hf f List.mem_cons_self
    have ih := fun c l => rdF_nums fs c l (fun g hg => hf g (List.mem_cons_of_mem _ hg))
    rw [List.length_cons]
    cases hg : get l with
    | none =>
      obtain ⟨e1, e2⟩ := nums_none (k := fs.length) hg
      refine ⟨fun xs r h => (by rw [e1] at h; cases h), fun _ => ?_⟩
      unfold rdF
      rw [rd1_num h1, e2]
      exact rdF_true _ _ _ rfl
    | some p =>
      obtain ⟨m, j⟩ := p
      obtain ⟨e1, e2⟩ := nums_some (k := fs.length) hg
      rw [e2]
      unfold rdF
      rw [rd1_num h1, e1]
      obtain ⟨i1, i2⟩ := ih (setF f m c) (l.drop j)
      refine ⟨fun xs r h => ?_, fun h => ?_⟩
      · cases hq : Wp.numsN fs.length (l.drop j) with
        | none => rw [hq] at h; cases h
        | some q =>
          obtain ⟨ys, r'⟩ := q
          rw [hq] at h
          simp only [Option.map_some, Option.some.injEq, Prod.mk.injEq] at h
          obtain ⟨rfl, rfl⟩ := h
          exact i1 ys _ hq
      · cases hq : Wp.numsN fs.length (l.drop j) with
        | none => exact i2 hq
        | some q => rw [hq] at h; cases h
theorem rdF_app : ∀ (r s : List Fld) (c : Cmd) (p : St), rdF (r ++ s) c p = rdF s (rdF r c p).1 (rdF r c p).2
  | [], _, _, _ => rfl
  | f :: r, s, c, p => by rw [List.cons_append, rdF, rdF_app r s, rdF]
theorem rd1_k (f : Fld) (c : Cmd) (p : St) : (rd1 f c p).1.k = c.k := by cases f <;> rfl
theorem rdF_k : ∀ (r : List Fld) (c : Cmd) (p : St), (rdF r c p).1.k = c.k
  | [], _, _ => rfl
  | f :: r, c, p => by rw [rdF, rdF_k r, rd1_k]
/-- The program's reading, ahead of its checks. -/
def rdC (l : List UInt8) : Cmd × St := rdF (fieldsC ((min (next (l, false)).1 255 : Nat) : Int)) (zeroC ((min (next (l, false)).1 255 : Nat) : Int)) (next (l, false)).2
theorem readC_rd (l : List UInt8) : readC l = if (rdC l).2.2 = false ∧ (rdC l).2.1 = [] ∧ mayC (rdC l).1 = true then some (rdC l).1 else none := rfl
theorem readC_bad {l : List UInt8} (h : (rdC l).2.2 = true) : readC l = none := by
  rw [readC_rd, if_neg]
  rw [h]
  exact fun x => by cases x.1
theorem readC_b0 {l : List UInt8} (h : (next (l, false)).2.2 = true) : readC l = none := readC_bad (rdF_true _ _ _ h)
theorem readC_big {l : List UInt8} (h : 6 < (next (l, false)).1) : readC l = none := by
  rw [readC_rd, if_neg]
  rintro ⟨-, -, hm⟩
  have h1 := (mayC_cases hm).2.1
  unfold rdC at h1
  rw [rdF_k] at h1
  simp only [zeroC] at h1
  omega
theorem rdC_is {l l0 : List UInt8} {m : Nat} (h : next (l, false) = (m, (l0, false))) (hm : m ≤ 6) : rdC l = rdF (fieldsC (m : Int)) (zeroC (m : Int)) (l0, false) := by
  unfold rdC
  rw [h]
  simp only
  rw [show min m 255 = m by omega]
/-- One number. -/
theorem nums1 (l : List UInt8) : (Wp.numsN 1 l = none ∧ (next (l, false)).2.2 = true) ∨ ∃ (m : Nat) (r : List UInt8), m ≤ 1099511627776 ∧ Wp.numsN 1 l = some ([(m : Int)], r) ∧ next (l, false) = (m, (r, false)) := by
  cases hg : get l with
  | none =>
    obtain ⟨e1, e2⟩ := nums_none (k := 0) hg
    exact Or.inl ⟨e1, by rw [e2]⟩
  | some p =>
    obtain ⟨m, j⟩ := p
    obtain ⟨e1, e2⟩ := nums_some (k := 0) hg
    exact Or.inr ⟨m, _, (get_back hg).1, by rw [e2]; rfl, e1⟩
theorem textK_none {l : List UInt8} (h : getText l = none) : Wp.textK (l, false) = ([], (l, true)) := by simp [Wp.textK, h]
theorem textK_is {l t : List UInt8} {k : Nat} (h : getText l = some (t, k)) : Wp.textK (l, false) = (t, (l.drop k, false)) := by simp [Wp.textK, h]
theorem intsK_none {l : List UInt8} {most : Nat} (h : getInts l most = none) : intsK most (l, false) = ([], (l, true)) := by simp [intsK, h]
theorem intsK_is {l : List UInt8} {most k : Nat} {r : List Int} (h : getInts l most = some (r, k)) : intsK most (l, false) = (r, (l.drop k, false)) := by simp [intsK, h]
end Cp
end Go.Proofs.Ytaoekfgeggopbaa
