/-
  Contracts of num.Ints, num.GetInts: what each call returns, for every argument; new memory alone is written.
-/
import Derived.Test.YtaoekfgeggopbaaAppI
import Derived.Test.YtaoekfgeggopbaaNumMore
namespace Go.Proofs.Ytaoekfgeggopbaa
namespace Nm
def inR (n : Int) : Bool := decide (0 ≤ n ∧ n ≤ 1099511627776)
theorem inR_yes {n : Int} (h : inR n = true) : 0 ≤ n ∧ n ≤ 1099511627776 := of_decide_eq_true h
theorem inR_no {n : Int} (h : inR n = false) : ¬ (0 ≤ n ∧ n ≤ 1099511627776) := of_decide_eq_false h
/-- Some numbers' bytes, one behind the other. -/
def many (l : List Int) : List UInt8 := l.flatMap fun n => enc n.toNat
def intsB (l : List Int) : List UInt8 := enc l.length ++ many l
theorem many_append (l m : List Int) : many (l ++ m) = many l ++ many m := by simp [many]
theorem many_one (n : Int) : many [n] = enc n.toNat := by simp [many]
theorem many_len (l : List Int) (h : ∀ n ∈ l, inR n = true) : (many l).length ≤ 6 * l.length := by
  induction l with
  | nil => simp [many]
  | cons a l ih =>
    have h1 := ih fun n hn => h n (List.mem_cons_of_mem _ hn)
    have h2 := inR_yes (h a (List.mem_cons_self ..))
    have h3 := enc_len6 (n := a.toNat) (by omega)
    have : many (a :: l) = enc a.toNat ++ many l := rfl
    rw [this, List.length_append, List.length_cons]
    omega
/-- Some numbers read off bytes, and how many bytes. -/
def ints : Nat → List UInt8 → Option (List Int × Nat)
  | 0, _ => some ([], 0)
  | c + 1, l => match get l with
    | none => none
    | some (n, k) => match ints c (l.drop k) with
      | none => none
      | some (r, s) => some ((n : Int) :: r, k + s)
theorem ints_succ_none {c : Nat} {l : List UInt8} (h : get l = none) : ints (c + 1) l = none := by unfold ints; rw [h]
theorem ints_succ_some {c n k : Nat} {l : List UInt8} (h : get l = some (n, k)) : ints (c + 1) l = (ints c (l.drop k)).map fun p => ((n : Int) :: p.1, k + p.2) := by
  conv => lhs; unfold ints
  rw [h]
  simp only
  cases ints c (l.drop k) with
  | none => rfl
  | some p => rfl
theorem ints_many : ∀ (l : List Int) (b : List UInt8), (∀ n ∈ l, inR n = true) → ints l.length (many l ++ b) = some (l, (many l).length) := by
  intro l
  induction l with
  | nil => intro b _; rfl
  | cons a l ih =>
    intro b h
    have h2 := inR_yes (h a (List.mem_cons_self ..))
    have e : many (a :: l) = enc a.toNat ++ many l := rfl
    rw [e, List.append_assoc, List.length_cons, ints_succ_some (get_enc (n := a.toNat) (by omega) _), List.drop_left, ih b fun n hn => h n (List.mem_cons_of_mem _ hn)]
    simp only [Option.map_some, List.length_append, Option.some.injEq, Prod.mk.injEq, List.cons.injEq, and_true]
    omega
theorem ints_back : ∀ (c : Nat) (l : List UInt8) (r : List Int) (s : Nat), ints c l = some (r, s) → r.length = c ∧ (∀ n ∈ r, inR n = true) ∧ s = (many r).length ∧ s ≤ l.length ∧ many r = l.take s := by
  intro c
  induction c with
  | zero =>
    intro l r s h
    simp only [ints, Option.some.injEq, Prod.mk.injEq] at h
    obtain ⟨rfl, rfl⟩ := h
    simp [many]
  | succ c ih =>
    intro l r s h
    cases hg : get l with
    | none => rw [ints_succ_none hg] at h; cases h
    | some p =>
      obtain ⟨n, k⟩ := p
      rw [ints_succ_some hg] at h
      obtain ⟨h1, h2, h3, h4⟩ := get_back hg
      cases hi : ints c (l.drop k) with
      | none => rw [hi] at h; cases h
      | some q =>
        obtain ⟨r', s'⟩ := q
        rw [hi] at h
        simp only [Option.map_some, Option.some.injEq, Prod.mk.injEq] at h
        obtain ⟨rfl, rfl⟩ := h
        obtain ⟨g1, g2, g3, g4, g5⟩ := ih _ _ _ hi
        have e : many ((n : Int) :: r') = enc n ++ many r' := by
          have : many ((n : Int) :: r') = enc (n : Int).toNat ++ many r' := rfl
          rw [this, Int.toNat_natCast]
        rw [List.length_drop] at g4
        refine ⟨by simp [g1], ?_, by rw [e, List.length_append]; omega, by omega, ?_⟩
        · intro x hx
          rcases List.mem_cons.1 hx with rfl | hx
          · exact decide_eq_true ⟨by omega, by omega⟩
          · exact g2 x hx
        · rw [e, g5, h4, List.take_add]
/-- GetInts, for a bound that may be. -/
def getInts (l : List UInt8) (most : Nat) : Option (List Int × Nat) := match get l with
  | none => none
  | some (c, k) => if most < c then none else (ints c (l.drop k)).map fun p => (p.1, k + p.2)
theorem getInts_ints {l : List Int} (hl : l.length ≤ 4096) (h : ∀ n ∈ l, inR n = true) (b : List UInt8) : getInts (intsB l ++ b) 4096 = some (l, (intsB l).length) := by
  unfold getInts intsB
  rw [List.append_assoc, get_enc (by omega)]
  simp only
  rw [if_neg (by omega), List.drop_left, ints_many l b h]
  simp
theorem getInts_back {l : List UInt8} {most : Nat} {r : List Int} {k : Nat} (h : getInts l most = some (r, k)) : r.length ≤ most ∧ (∀ n ∈ r, inR n = true) ∧ k = (intsB r).length ∧ k ≤ l.length ∧ intsB r = l.take k := by
  unfold getInts at h
  cases hg : get l with
  | none => rw [hg] at h; cases h
  | some p =>
    obtain ⟨c, j⟩ := p
    rw [hg] at h
    simp only at h
    split at h
    · cases h
    · rename_i hc
      obtain ⟨h1, h2, h3, h4⟩ := get_back hg
      cases hi : ints c (l.drop j) with
      | none => rw [hi] at h; cases h
      | some q =>
        obtain ⟨r', s'⟩ := q
        rw [hi] at h
        simp only [Option.map_some, Option.some.injEq, Prod.mk.injEq] at h
        obtain ⟨rfl, rfl⟩ := h
        obtain ⟨g1, g2, g3, g4, g5⟩ := ints_back _ _ _ _ hi
        rw [List.length_drop] at g4
        refine ⟨by omega, g2, ?_, by omega, ?_⟩
        · unfold intsB
          rw [g1, List.length_append, ← h2, ← g3]
        · unfold intsB
          rw [g1, h4, g5, List.take_add]
end Nm
end Go.Proofs.Ytaoekfgeggopbaa
