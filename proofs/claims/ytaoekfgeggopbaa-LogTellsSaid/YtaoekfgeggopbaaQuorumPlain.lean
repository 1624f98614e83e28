/-
  Layer 6 in plain Lean: members, the numbers whose bits are nodes, majorities.
-/
import Derived.Test.YtaoekfgeggopbaaBase
namespace Go.Proofs.Ytaoekfgeggopbaa
namespace Qm
/-- Nodes as bits of a number. -/
def bitsN : Nat → List Int → Nat
  | s, [] => s
  | s, n :: l => bitsN (if 0 ≤ n ∧ n < 6 then s ||| 2 ^ n.toNat else s) l
/-- How many of the first six bits are set. -/
def pop (x : Nat) : Nat := x % 2 + x / 2 % 2 + x / 4 % 2 + x / 8 % 2 + x / 16 % 2 + x / 32 % 2
/-- Rising nodes, each above one. -/
def incr : Int → List Int → Bool
  | _, [] => true
  | lo, n :: l => decide (lo < n) && decide (n < 6) && incr n l
def may (l : List Int) : Bool := !l.isEmpty && incr (-1) l
def check (l : List Int) : Int := if 6 < l.length then 4 else if may l = true then 0 else 60

theorem bitsN_nil (s : Nat) : bitsN s [] = s := rfl
theorem bitsN_cons (s : Nat) (n : Int) (l : List Int) : bitsN s (n :: l) = bitsN (if 0 ≤ n ∧ n < 6 then s ||| 2 ^ n.toNat else s) l := rfl
theorem incr_nil (lo : Int) : incr lo [] = true := rfl
theorem incr_cons (lo n : Int) (l : List Int) : incr lo (n :: l) = (decide (lo < n) && decide (n < 6) && incr n l) := rfl
theorem or_lt {a b : Nat} (ha : a < 64) (hb : b < 64) : a ||| b < 64 := Nat.or_lt_two_pow (n := 6) ha hb
theorem pow_lt {n : Int} (h : 0 ≤ n ∧ n < 6) : 2 ^ n.toNat < 64 := by
  have : n.toNat < 6 := by omega
  exact Nat.pow_lt_pow_right (a := 2) (n := 6) (by decide) this
theorem bitsN_lt : ∀ (l : List Int) (s : Nat), s < 64 → bitsN s l < 64 := by
  intro l
  induction l with
  | nil => intro s h; exact h
  | cons n l ih =>
    intro s h
    unfold bitsN
    apply ih
    split
    · rename_i hn; exact or_lt h (pow_lt hn)
    · exact h
/-- Which bits are set. -/
theorem bitsN_bit : ∀ (l : List Int) (s k : Nat), k < 6 → (bitsN s l).testBit k = (s.testBit k || decide ((k : Int) ∈ l)) := by
  intro l
  induction l with
  | nil => intro s k h; simp [bitsN]
  | cons n l ih =>
    intro s k h
    unfold bitsN
    rw [ih _ _ h]
    by_cases hn : 0 ≤ n ∧ n < 6
    · rw [if_pos hn, Nat.testBit_or, Nat.testBit_two_pow]
      by_cases hk : n.toNat = k
      · have : (k : Int) = n := by omega
        simp [hk, this]
      · have : ¬ (k : Int) = n := by omega
        simp [hk, this]
    · rw [if_neg hn]
      have : ¬ (k : Int) = n := by omega
      simp [this]

/-- All rising lists of nodes from one on. -/
def gens : Nat → Nat → List (List Int)
  | 0, _ => [[]]
  | f + 1, lo => gens f (lo + 1) ++ (gens f (lo + 1)).map ((lo : Int) :: ·)
theorem nil_gens : ∀ (f lo : Nat), ([] : List Int) ∈ gens f lo := by
  intro f
  induction f with
  | zero => intro lo; simp [gens]
  | succ f ih => intro lo; unfold gens; exact List.mem_append_left _ (ih _)
theorem incr_up {lo lo' : Int} {l : List Int} (h : lo' ≤ lo) (hi : incr lo l = true) : incr lo' l = true := by
  cases l with
  | nil => rfl
  | cons n l =>
    unfold incr at hi ⊢
    simp only [Bool.and_eq_true, decide_eq_true_eq] at hi ⊢
    exact ⟨⟨by omega, hi.1.2⟩, hi.2⟩
theorem mem_gens : ∀ (f lo : Nat) (l : List Int), lo + f = 6 → incr ((lo : Int) - 1) l = true → l ∈ gens f lo := by
  intro f
  induction f with
  | zero =>
    intro lo l h hi
    cases l with
    | nil => simp [gens]
    | cons n l =>
      unfold incr at hi
      simp only [Bool.and_eq_true, decide_eq_true_eq] at hi
      omega
  | succ f ih =>
    intro lo l h hi
    cases l with
    | nil => exact nil_gens _ _
    | cons n l =>
      unfold gens
      have hi0 := hi
      unfold incr at hi
      simp only [Bool.and_eq_true, decide_eq_true_eq] at hi
      by_cases hn : n = lo
      · subst hn
        refine List.mem_append_right _ (List.mem_map.2 ⟨l, ih _ _ (by omega) ?_, rfl⟩)
        have e : ((lo + 1 : Nat) : Int) - 1 = (lo : Int) := by omega
        rw [e]
        exact hi.2
      · refine List.mem_append_left _ (ih _ _ (by omega) ?_)
        have e : ((lo + 1 : Nat) : Int) - 1 = (lo : Int) := by omega
        rw [e]
        unfold incr
        simp only [Bool.and_eq_true, decide_eq_true_eq]
        exact ⟨⟨by omega, hi.1.2⟩, hi.2⟩
theorem may_gens {l : List Int} (h : may l = true) : l ∈ gens 6 0 ∧ l ≠ [] := by
  unfold may at h
  simp only [Bool.and_eq_true, Bool.not_eq_true', List.isEmpty_eq_false_iff] at h
  exact ⟨mem_gens 6 0 l (by omega) (by simpa using h.2), h.1⟩

/-- How many of some nodes are among others. -/
def among (l : List Int) (nodes : List Int) : Nat := l.countP fun n => decide (n ∈ nodes)
def bitAt (x : Nat) (n : Int) : Bool := x.testBit n.toNat
theorem pop_gens : ∀ l ∈ gens 6 0, ∀ x : Fin 64, pop (bitsN 0 l &&& x.val) = l.countP (bitAt x.val) := by decide +kernel
theorem in_gens : ∀ l ∈ gens 6 0, ∀ n ∈ l, 0 ≤ n ∧ n < 6 := by decide +kernel
theorem pop_among {l nodes : List Int} (h : may l = true) : pop (bitsN 0 l &&& bitsN 0 nodes) = among l nodes := by
  obtain ⟨hg, _⟩ := may_gens h
  rw [pop_gens l hg ⟨bitsN 0 nodes, bitsN_lt _ _ (by omega)⟩]
  unfold among
  apply List.countP_congr
  intro n hn
  obtain ⟨h0, h6⟩ := in_gens l hg n hn
  have hb := bitsN_bit nodes 0 n.toNat (by omega)
  have e : ((n.toNat : Nat) : Int) = n := by omega
  rw [e] at hb
  unfold bitAt
  simp only [Nat.zero_testBit, Bool.false_or] at hb
  show ((bitsN 0 nodes).testBit n.toNat = true ↔ _)
  rw [hb]
/-- Where two parts of a list are together more than it, one lies in both. -/
theorem both {p q : Int → Bool} : ∀ (l : List Int), l.length < l.countP p + l.countP q → ∃ x ∈ l, p x = true ∧ q x = true := by
  intro l
  induction l with
  | nil => intro h; simp at h
  | cons n l ih =>
    intro h
    by_cases hp : p n = true
    · by_cases hq : q n = true
      · exact ⟨n, List.mem_cons_self .., hp, hq⟩
      · rw [List.countP_cons_of_pos hp, List.countP_cons_of_neg hq] at h
        obtain ⟨x, hx, h1⟩ := ih (by simp only [List.length_cons] at h; omega)
        exact ⟨x, List.mem_cons_of_mem _ hx, h1⟩
    · rw [List.countP_cons_of_neg hp] at h
      have h2 : (n :: l).countP q ≤ l.countP q + 1 := by
        by_cases hq : q n = true
        · rw [List.countP_cons_of_pos hq]; omega
        · rw [List.countP_cons_of_neg hq]; omega
      obtain ⟨x, hx, h1⟩ := ih (by simp only [List.length_cons] at h; omega)
      exact ⟨x, List.mem_cons_of_mem _ hx, h1⟩
end Qm
end Go.Proofs.Ytaoekfgeggopbaa
