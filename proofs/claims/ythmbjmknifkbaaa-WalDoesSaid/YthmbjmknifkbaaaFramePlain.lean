/-
  Frames in plain Lean: texts' bytes joined, and cut; where joined frames are broken off anywhere, just the whole ones are told.
-/
import Derived.Test.YthmbjmknifkbaaaNumMore
namespace Go.Proofs.Ythmbjmknifkbaaa
namespace Nm
/-- The whole frames with which bytes begin, and how many bytes these are. -/
def cutF : Nat → List UInt8 → List (List UInt8) × Nat
  | 0, _ => ([], 0)
  | f + 1, l => match getText l with
    | none => ([], 0)
    | some (t, k) => (t :: (cutF f (l.drop k)).1, k + (cutF f (l.drop k)).2)
def cut (l : List UInt8) : List (List UInt8) × Nat := cutF (l.length + 1) l
theorem cutF_more : ∀ (f g : Nat) (l : List UInt8), l.length < f → l.length < g → cutF f l = cutF g l := by
  intro f
  induction f with
  | zero => intro g l h; omega
  | succ f ih =>
    intro g l hf hg
    cases g with
    | zero => omega
    | succ g =>
      unfold cutF
      cases h : getText l with
      | none => rfl
      | some p =>
        obtain ⟨t, k⟩ := p
        obtain ⟨_, _, h3, _, h5⟩ := getText_back h
        simp only
        rw [ih g (l.drop k) (by rw [List.length_drop]; omega) (by rw [List.length_drop]; omega)]
theorem cut_none {l : List UInt8} (h : getText l = none) : cut l = ([], 0) := by unfold cut cutF; rw [h]
theorem cut_some {l t : List UInt8} {k : Nat} (h : getText l = some (t, k)) : cut l = (t :: (cut (l.drop k)).1, k + (cut (l.drop k)).2) := by
  obtain ⟨_, _, h3, _, h5⟩ := getText_back h
  conv => lhs; unfold cut cutF
  rw [h]
  simp only
  rw [cutF_more l.length ((l.drop k).length + 1) (l.drop k) (by rw [List.length_drop]; omega) (by omega)]
  rfl
/-- Texts' frames, one behind the other. -/
def join (l : List (List UInt8)) : List UInt8 := l.flatMap txt
theorem join_append (l m : List (List UInt8)) : join (l ++ m) = join l ++ join m := by simp [join]
theorem join_one (t : List UInt8) : join [t] = txt t := by simp [join]
theorem join_cons (t : List UInt8) (l : List (List UInt8)) : join (t :: l) = txt t ++ join l := rfl
theorem txt_len (t : List UInt8) : t.length < (txt t).length := by
  unfold txt
  rw [List.length_append]
  have := enc_len_pos t.length
  omega
theorem cut_join : ∀ (l : List (List UInt8)) (b : List UInt8), (∀ t ∈ l, t.length ≤ 4096) → cut (join l ++ b) = (l ++ (cut b).1, (join l).length + (cut b).2) := by
  intro l
  induction l with
  | nil => intro b _; simp [join]
  | cons t l ih =>
    intro b h
    rw [join_cons, List.append_assoc, cut_some (getText_txt (h t (List.mem_cons_self ..)) _), List.drop_left, ih b fun x hx => h x (List.mem_cons_of_mem _ hx)]
    simp only [List.cons_append, List.length_append, Prod.mk.injEq, true_and]
    omega
/-- A text's frame that is broken off is none. -/
theorem getText_torn {t : List UInt8} {m : Nat} (ht : t.length ≤ 4096) (hm : m < (txt t).length) : getText ((txt t).take m) = none := by
  cases h : getText ((txt t).take m) with
  | none => rfl
  | some p =>
    exfalso
    obtain ⟨x, k⟩ := p
    obtain ⟨h1, h2, h3, h4, h5⟩ := getText_back h
    rw [List.take_take] at h4
    rw [List.length_take] at h3
    have hk : min k m = k := by omega
    rw [hk] at h4
    have h6 : enc t.length ++ t = enc x.length ++ (x ++ (txt t).drop k) := by
      have h7 : txt t = txt x ++ (txt t).drop k := by rw [h4]; exact (List.take_append_drop _ _).symm
      unfold txt at h7 ⊢
      rw [← List.append_assoc]
      exact h7
    have h8 := enc_inj (by omega) (by omega) h6
    have h9 : (txt x).length = (txt t).length := by
      unfold txt
      rw [List.length_append, List.length_append, h8]
    omega
theorem cut_torn : ∀ (l : List (List UInt8)) (m : Nat), (∀ t ∈ l, t.length ≤ 4096) → m ≤ (join l).length → ∃ k, k ≤ l.length ∧ cut ((join l).take m) = (l.take k, (join (l.take k)).length) ∧ (join (l.take k)).length ≤ m ∧ (∀ t, l[k]? = some t → m < (join (l.take k)).length + (txt t).length) := by
  intro l
  induction l with
  | nil =>
    intro m _ hm
    refine ⟨0, by simp, ?_, by simp [join], by simp⟩
    have : getText [] = none := by decide
    simp [join, cut_none this]
  | cons t l ih =>
    intro m h hm
    have ht := h t (List.mem_cons_self ..)
    rw [join_cons] at hm ⊢
    rw [List.length_append] at hm
    rcases Nat.lt_or_ge m (txt t).length with hlt | hge
    · refine ⟨0, by simp, ?_, by simp [join], ?_⟩
      · rw [List.take_append_of_le_length (by omega), cut_none (getText_torn ht hlt)]
        simp [join]
      · intro u hu
        simp at hu
        subst hu
        simp only [List.take_zero, join, List.flatMap_nil, List.length_nil]
        omega
    · obtain ⟨k, h1, h2, h3, h4⟩ := ih (m - (txt t).length) (fun x hx => h x (List.mem_cons_of_mem _ hx)) (by omega)
      have e : (txt t ++ join l).take m = txt t ++ (join l).take (m - (txt t).length) := by
        rw [List.take_append, List.take_of_length_le hge]
      refine ⟨k + 1, by simp only [List.length_cons]; omega, ?_, ?_, ?_⟩
      · rw [e, cut_some (getText_txt ht _), List.drop_left, h2]
        simp only [List.take_succ_cons, join_cons, List.length_append]
      · simp only [List.take_succ_cons, join_cons, List.length_append]
        omega
      · intro u hu
        have := h4 u (by simpa using hu)
        simp only [List.take_succ_cons, join_cons, List.length_append]
        omega
theorem cut_le : ∀ (f : Nat) (l : List UInt8), (cutF f l).2 ≤ l.length ∧ (cutF f l).1.length ≤ (cutF f l).2 := by
  intro f
  induction f with
  | zero => intro l; simp [cutF]
  | succ f ih =>
    intro l
    unfold cutF
    cases h : getText l with
    | none => simp
    | some p =>
      obtain ⟨t, k⟩ := p
      obtain ⟨_, _, h3, _, h5⟩ := getText_back h
      have := ih (l.drop k)
      rw [List.length_drop] at this
      simp only [List.length_cons]
      omega
end Nm
end Go.Proofs.Ythmbjmknifkbaaa
