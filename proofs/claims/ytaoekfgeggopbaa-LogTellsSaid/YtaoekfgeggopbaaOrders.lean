/-
  A region that draws its order, where few orders are open: taken path by path; a path of operations of which each is the only one that may come up is walked as a plain list.
-/
import Derived.Test.YtaoekfgeggopbaaBase
import Derived.Orders
import Derived.StillTail
namespace Go.Proofs.Ytaoekfgeggopbaa
open Go.RowKit
section
variable {P : Program} {md : Region.Mode} {ops : Array Oper}
/-- What is asked at the end of a piece of the list; at any other way out: what the region asks. -/
def Qn (Q : Exit → Act → World → Prop) (K : Act → World → Prop) : Exit → Act → World → Prop
  | .normal, a, w => K a w
  | .panic c, a, w => Q (.panic c) a w
  | .exit i, a, w => Q (.exit i) a w
  | .outgrown, a, w => Q .outgrown a w
  | e, a, w => Q e a w
theorem upon_Qn {Q : Exit → Act → World → Prop} {K next : Act → World → Prop} {o : Oper} {a : Act} {r : Result Next} (h : o.upon P a next (Qn Q K) r) : o.upon P a next Q r := by
  cases r with
  | ok n w' => cases n <;> exact h
  | _ => exact h
theorem list_op {Q : Exit → Act → World → Prop} {K : Act → World → Prop} {o : Oper} {l : List Oper} {i : Nat} {a : Act} {w : World} (h0 : ops[i]? = some o) (h : wpList P ops (Qn Q K) (o :: l) a w) : wpOp P ops Q i (wpList P ops (Qn Q K) l) a w := by
  unfold wpOp
  simp only [h0]
  unfold wpList at h
  split
  · rename_i hw
    rw [if_pos hw] at h
    rcases h with h | ⟨h1, a', w', h2⟩
    · exact Or.inl (upon_Qn h)
    · exact Or.inr ⟨h1, a', w', h2⟩
  · rename_i hw
    rw [if_neg hw] at h
    exact h
/-- Is each of a path the only one that may come up? -/
def pathB (md : Region.Mode) (ops : Array Oper) : List Nat → Array Bool → Bool
  | [], _ => true
  | i :: r, listed => decide (Region.ready md ops listed = [i]) && pathB md ops r (listed.setIfInBounds i true)
def markL : List Nat → Array Bool → Array Bool
  | [], listed => listed
  | i :: r, listed => markL r (listed.setIfInBounds i true)
theorem any_path {Q : Exit → Act → World → Prop} (fuel : Nat) : ∀ (is : List Nat) (l : List Oper) (listed : Array Bool) (a : Act) (w : World), is.map (ops[·]?) = l.map some → pathB md ops is listed = true →
    wpList P ops (Qn Q (wpAny P md ops Q fuel (markL is listed))) l a w → wpAny P md ops Q (is.length + fuel) listed a w
  | [], [], listed, a, w, _, _, h => by simpa [markL, wpList, Qn] using h
  | [], _ :: _, _, _, _, he, _, _ => by simp at he
  | _ :: _, [], _, _, _, he, _, _ => by simp at he
  | i :: is, o :: l, listed, a, w, he, hB, h => by
    simp only [List.map_cons, List.cons.injEq] at he
    simp only [pathB, Bool.and_eq_true, decide_eq_true_eq] at hB
    have e : (i :: is).length + fuel = (is.length + fuel) + 1 := by simp only [List.length_cons]; omega
    rw [e]
    refine ⟨fun h1 => (by rw [hB.1] at h1; cases h1), fun j hj => ?_⟩
    rw [hB.1] at hj
    obtain rfl : j = i := by simpa using hj
    exact wpOp_mono (fun a' w' h' => any_path fuel is l _ a' w' he.2 hB.2 h') (list_op he.1 h)
def opsAt (ops : Array Oper) (is : List Nat) : List Oper := is.filterMap fun i => ops[i]?
theorem any_path' {Q : Exit → Act → World → Prop} {N : Nat} (fuel : Nat) (is : List Nat) {listed : Array Bool} {a : Act} {w : World} (hN : N = is.length + fuel) (he : (is.all fun i => (ops[i]?).isSome) = true) (hB : pathB md ops is listed = true)
    (h : wpList P ops (Qn Q (wpAny P md ops Q fuel (markL is listed))) (opsAt ops is) a w) : wpAny P md ops Q N listed a w := by
  subst hN
  refine any_path fuel is _ _ _ _ ?_ hB h
  clear h hB
  induction is with
  | nil => rfl
  | cons i is ih =>
    simp only [List.all_cons, Bool.and_eq_true] at he
    obtain ⟨o, ho⟩ := Option.isSome_iff_exists.1 he.1
    have := ih he.2
    simp only [opsAt] at this
    simp only [opsAt, List.map_cons, List.filterMap_cons, ho, this]
/-- Two may come up. -/
theorem any_two {Q : Exit → Act → World → Prop} {fuel i j : Nat} {oi oj : Oper} {listed : Array Bool} {a : Act} {w : World} (hr : Region.ready md ops listed = [i, j]) (hi : ops[i]? = some oi) (hj : ops[j]? = some oj)
    (h1 : wpList P ops (Qn Q (wpAny P md ops Q fuel (listed.setIfInBounds i true))) [oi] a w) (h2 : wpList P ops (Qn Q (wpAny P md ops Q fuel (listed.setIfInBounds j true))) [oj] a w) : wpAny P md ops Q (fuel + 1) listed a w := by
  refine ⟨fun h => (by rw [hr] at h; cases h), fun k hk => ?_⟩
  rw [hr] at hk
  rcases List.mem_cons.1 hk with rfl | hk
  · exact wpOp_mono (fun a' w' h' => h') (list_op hi h1)
  · obtain rfl : k = j := by simpa using hk
    exact wpOp_mono (fun a' w' h' => h') (list_op hj h2)
theorem any_end {Q : Exit → Act → World → Prop} {listed : Array Bool} {a : Act} {w : World} (hr : Region.ready md ops listed = []) (h : Q .normal a w) : wpAny P md ops Q 0 listed a w := ⟨hr, h⟩
end
end Go.Proofs.Ytaoekfgeggopbaa
