/-
  Layer 10 in plain Lean: which records may be, their bytes, and how bytes are read; what is written is read, and what is read is written so.
-/
import Derived.Test.YtaoekfgeggopbaaNumMore
import Derived.Test.YtaoekfgeggopbaaBallot
namespace Go.Proofs.Ytaoekfgeggopbaa
open Go.RowKit
set_option linter.unusedVariables false
namespace Rp
open Nm

structure Rec where
  k : Int
  g : Int
  s : Int
  b : Int
  v : List UInt8

def votes (k : Int) : Bool := k == 1 || k == 2
def value (k : Int) : Bool := k == 2 || k == 3
def mayB (k g s b : Int) (n : Nat) : Bool := (votes k || value k) && decide (0 ≤ g ∧ g < 4) && decide (1 ≤ s ∧ s ≤ 200) && decide (n ≤ 1024) && (value k || n == 0) && (!votes k && b == 0 || votes k && Bal.may b)
def mayR (r : Rec) : Bool := mayB r.k r.g r.s r.b r.v.length
def bytesR (r : Rec) : List UInt8 := enc r.k.toNat ++ (enc r.g.toNat ++ (enc r.s.toNat ++ ((if votes r.k then enc r.b.toNat else []) ++ (if value r.k then txt r.v else []))))

/-- Three kinds of records may be. -/
theorem mayR_cases {r : Rec} (h : mayR r = true) : 0 ≤ r.g ∧ r.g < 4 ∧ 1 ≤ r.s ∧ r.s ≤ 200 ∧ r.v.length ≤ 1024 ∧
    ((r.k = 1 ∧ r.v = [] ∧ 8 ≤ r.b ∧ r.b ≤ 8388613 ∧ Bal.may r.b = true) ∨ (r.k = 2 ∧ 8 ≤ r.b ∧ r.b ≤ 8388613 ∧ Bal.may r.b = true) ∨ (r.k = 3 ∧ r.b = 0)) := by
  simp only [mayR, mayB, Bool.and_eq_true, Bool.or_eq_true, decide_eq_true_eq, votes, value, beq_iff_eq, Bool.not_eq_true', Bool.or_eq_false_iff, beq_eq_false_iff_ne] at h
  obtain ⟨⟨⟨⟨⟨h1, h2⟩, h3⟩, h4⟩, h5⟩, h6⟩ := h
  refine ⟨h2.1, h2.2, h3.1, h3.2, h4, ?_⟩
  rcases h6 with ⟨⟨a, b⟩, c⟩ | ⟨a, b⟩
  · exact .inr (.inr ⟨by omega, c⟩)
  · have hb := Bal.may_yes b
    rcases a with a | a
    · refine .inl ⟨a, List.eq_nil_of_length_eq_zero (by omega), hb.1, hb.2.1, b⟩
    · exact .inr (.inl ⟨a, hb.1, hb.2.1, b⟩)

/-! ### the program's reading -/
/-- What is left, and whether something was wrong. -/
abbrev St := List UInt8 × Bool
def next (p : St) : Nat × St := match get p.1 with
  | some (n, k) => (n, (p.1.drop k, p.2))
  | none => (0, (p.1, true))
def text (p : St) : List UInt8 × St := match getText p.1 with
  | some (t, k) => (t, (p.1.drop k, false))
  | none => ([], (p.1, true))
def readR (l : List UInt8) : Option Rec :=
  let a := next (l, false)
  let b := next a.2
  let c := next b.2
  let k : Int := ((a.1 % 256 : Nat) : Int)
  let d := if votes k then next c.2 else (0, c.2)
  let e := if value k && !d.2.2 then text d.2 else ([], d.2)
  if e.2.2 = false ∧ e.2.1 = [] ∧ a.1 ≤ 255 ∧ mayB k b.1 c.1 d.1 e.1.length = true then some ⟨k, b.1, c.1, d.1, e.1⟩ else none

theorem next_some {l l' : List UInt8} {n : Nat} {b : Bool} (hn : n ≤ 1099511627776) (h : l = enc n ++ l') : next (l, b) = (n, (l', b)) := by
  subst h
  simp [next, get_enc hn]
theorem next_or (l : List UInt8) : (∃ n l', n ≤ 1099511627776 ∧ l = enc n ++ l' ∧ next (l, false) = (n, (l', false))) ∨ next (l, false) = (0, (l, true)) := by
  cases h : get l with
  | none => right; simp [next, h]
  | some p =>
    obtain ⟨n, k⟩ := p
    obtain ⟨h1, h2, h3, h4⟩ := get_back h
    left
    exact ⟨n, l.drop k, h1, by rw [h4, List.take_append_drop], by simp [next, h]⟩
theorem next_true (l : List UInt8) : ∃ n l', next (l, true) = (n, (l', true)) := by
  cases h : get l with
  | none => exact ⟨_, _, by simp [next, h]; exact ⟨rfl, rfl⟩⟩
  | some p => exact ⟨p.1, l.drop p.2, by simp [next, h]⟩
theorem text_some {l l' : List UInt8} {t : List UInt8} (ht : t.length ≤ 4096) (h : l = txt t ++ l') : text (l, false) = (t, (l', false)) := by
  subst h
  simp [text, getText_txt ht]
theorem text_or (l : List UInt8) : (∃ t l', t.length ≤ 4096 ∧ l = txt t ++ l' ∧ text (l, false) = (t, (l', false))) ∨ text (l, false) = ([], (l, true)) := by
  cases h : getText l with
  | none => right; simp [text, h]
  | some p =>
    obtain ⟨t, k⟩ := p
    obtain ⟨h1, h2, h3, h4, h5⟩ := getText_back h
    left
    exact ⟨t, l.drop k, h1, by rw [h4, List.take_append_drop], by simp [text, h]⟩

theorem readR_mk {l l1 l2 l3 l4 l5 t : List UInt8} {n1 n2 n3 n4 : Nat} {vk vj : Bool} (h1 : next (l, false) = (n1, (l1, false))) (h2 : next (l1, false) = (n2, (l2, false))) (h3 : next (l2, false) = (n3, (l3, false)))
    (hk : votes ((n1 % 256 : Nat) : Int) = vk) (hj : value ((n1 % 256 : Nat) : Int) = vj) (h4 : (if vk then next (l3, false) else (0, (l3, false))) = (n4, (l4, false))) (h5 : (if vj then text (l4, false) else ([], (l4, false))) = (t, (l5, false))) :
    readR l = if l5 = [] ∧ n1 ≤ 255 ∧ mayB ((n1 % 256 : Nat) : Int) n2 n3 n4 t.length = true then some ⟨((n1 % 256 : Nat) : Int), n2, n3, n4, t⟩ else none := by
  simp only [readR, h1, h2, h3, hk, h4]
  simp only [hj, Bool.not_false, Bool.and_true, h5, true_and]
theorem readR_bytes {r : Rec} (h : mayR r = true) : readR (bytesR r) = some r := by
  obtain ⟨g0, g1, s0, s1, hv, hk⟩ := mayR_cases h
  obtain ⟨k, g, s, b, v⟩ := r
  simp only at g0 g1 s0 s1 hv hk
  obtain ⟨g, rfl⟩ := Int.eq_ofNat_of_zero_le g0
  obtain ⟨s, rfl⟩ := Int.eq_ofNat_of_zero_le (by omega : 0 ≤ s)
  simp only [mayR] at h
  rcases hk with ⟨rfl, rfl, b0, b1, hb⟩ | ⟨rfl, b0, b1, hb⟩ | ⟨rfl, rfl⟩
  · obtain ⟨b, rfl⟩ := Int.eq_ofNat_of_zero_le (by omega : 0 ≤ b)
    have T : bytesR ⟨1, g, s, b, []⟩ = enc 1 ++ (enc g ++ (enc s ++ (enc b ++ []))) := by simp [bytesR, votes, value]
    rw [T, readR_mk (next_some (n := 1) (by omega) rfl) (next_some (by omega) rfl) (next_some (by omega) rfl) (vk := true) (by decide) (vj := false) (by decide) (by rw [if_pos rfl]; exact next_some (by omega) rfl) (by rw [if_neg (by decide)])]
    rw [if_pos ⟨rfl, by omega, h⟩]
    rfl
  · obtain ⟨b, rfl⟩ := Int.eq_ofNat_of_zero_le (by omega : 0 ≤ b)
    have T : bytesR ⟨2, g, s, b, v⟩ = enc 2 ++ (enc g ++ (enc s ++ (enc b ++ (txt v ++ [])))) := by simp [bytesR, votes, value]
    rw [T, readR_mk (next_some (n := 2) (by omega) rfl) (next_some (by omega) rfl) (next_some (by omega) rfl) (vk := true) (by decide) (vj := true) (by decide) (by rw [if_pos rfl]; exact next_some (by omega) rfl) (by rw [if_pos rfl]; exact text_some (by omega) rfl)]
    rw [if_pos ⟨rfl, by omega, h⟩]
    rfl
  · have T : bytesR ⟨3, g, s, 0, v⟩ = enc 3 ++ (enc g ++ (enc s ++ (txt v ++ []))) := by simp [bytesR, votes, value]
    rw [T, readR_mk (next_some (n := 3) (by omega) rfl) (next_some (by omega) rfl) (next_some (by omega) rfl) (vk := false) (by decide) (vj := true) (by decide) (by rw [if_neg (by decide)]) (by rw [if_pos rfl]; exact text_some (by omega) rfl)]
    rw [if_pos ⟨rfl, by omega, h⟩]
    rfl

theorem readR_back {l : List UInt8} {r : Rec} (h : readR l = some r) : mayR r = true ∧ bytesR r = l := by
  simp only [readR] at h
  rcases next_or l with ⟨n1, l1, hn1, e1, h1⟩ | h1
  rotate_left
  · rw [h1] at h
    obtain ⟨n2, l2, h2⟩ := next_true l
    simp only [h2] at h
    obtain ⟨n3, l3, h3⟩ := next_true l2
    simp only [h3] at h
    simp [votes, value] at h
  rw [h1] at h
  simp only at h
  rcases next_or l1 with ⟨n2, l2, hn2, e2, h2⟩ | h2
  rotate_left
  · simp only [h2] at h
    obtain ⟨n3, l3, h3⟩ := next_true l1
    simp only [h3] at h
    obtain ⟨n4, l4, h4⟩ := next_true l3
    simp only [h4] at h
    generalize hk : votes ((n1 % 256 : Nat) : Int) = vk at h
    cases vk <;> simp at h
  simp only [h2] at h
  rcases next_or l2 with ⟨n3, l3, hn3, e3, h3⟩ | h3
  rotate_left
  · simp only [h3] at h
    obtain ⟨n4, l4, h4⟩ := next_true l2
    simp only [h4] at h
    generalize hk : votes ((n1 % 256 : Nat) : Int) = vk at h
    cases vk <;> simp at h
  simp only [h3] at h
  have tl : l = enc n1 ++ (enc n2 ++ (enc n3 ++ l3)) := by rw [e1, e2, e3]
  generalize hk : votes ((n1 % 256 : Nat) : Int) = vk at h
  generalize hj : value ((n1 % 256 : Nat) : Int) = vj at h
  cases vk with
  | true =>
    simp only [if_true] at h
    rcases next_or l3 with ⟨n4, l4, hn4, e4, h4⟩ | h4
    rotate_left
    · simp [h4] at h
    simp only [h4] at h
    cases vj with
    | true =>
      simp only [Bool.not_false, Bool.and_true, if_true] at h
      rcases text_or l4 with ⟨t, l5, ht, e5, h5⟩ | h5
      rotate_left
      · simp [h5] at h
      simp only [h5] at h
      split at h
      · rename_i hc
        obtain ⟨_, c2, c3, c4⟩ := hc
        injection h with h
        subst h
        refine ⟨c4, ?_⟩
        have hm : n1 % 256 = n1 := Nat.mod_eq_of_lt (by omega)
        rw [hm] at hk hj
        simp only [bytesR, hm, hk, hj, if_true, Int.toNat_natCast]
        rw [tl, e4, e5]
        subst c2
        simp
      · cases h
    | false =>
      simp only [Bool.false_and, Bool.false_eq_true, if_false] at h
      split at h
      · rename_i hc
        obtain ⟨_, c2, c3, c4⟩ := hc
        injection h with h
        subst h
        refine ⟨c4, ?_⟩
        have hm : n1 % 256 = n1 := Nat.mod_eq_of_lt (by omega)
        rw [hm] at hk hj
        simp only [bytesR, hm, hk, hj, if_true, Int.toNat_natCast, Bool.false_eq_true, if_false]
        rw [tl, e4]
        subst c2
        simp
      · cases h
  | false =>
    simp only [Bool.false_eq_true, if_false] at h
    cases vj with
    | true =>
      simp only [Bool.not_false, Bool.and_true, if_true] at h
      rcases text_or l3 with ⟨t, l5, ht, e5, h5⟩ | h5
      rotate_left
      · simp [h5] at h
      simp only [h5] at h
      split at h
      · rename_i hc
        obtain ⟨_, c2, c3, c4⟩ := hc
        injection h with h
        subst h
        refine ⟨c4, ?_⟩
        have hm : n1 % 256 = n1 := Nat.mod_eq_of_lt (by omega)
        rw [hm] at hk hj
        simp only [bytesR, hm, hk, hj, if_true, Int.toNat_natCast, Bool.false_eq_true, if_false]
        rw [tl, e5]
        subst c2
        simp
      · cases h
    | false =>
      simp only [Bool.false_and, Bool.false_eq_true, if_false] at h
      split at h
      · rename_i hc
        obtain ⟨_, c2, c3, c4⟩ := hc
        have hc4 := c4
        simp only [mayB, hk, hj, Bool.or_self, Bool.false_and] at hc4
        cases hc4
      · cases h

/-! ### the reference's reading -/
def rnum (high : Nat) (p : St) : Nat × St := match get p.1 with
  | some (n, k) => if high < n ∨ p.2 = true then (0, (p.1, true)) else (n, (p.1.drop k, p.2))
  | none => (0, (p.1, true))
def rtext (high : Nat) (p : St) : List UInt8 × St := match getText p.1 with
  | some (t, k) => if high < t.length ∨ p.2 = true then ([], (p.1, true)) else (t, (p.1.drop k, p.2))
  | none => ([], (p.1, true))
def rreadR (l : List UInt8) : Option Rec :=
  let a := rnum 3 (l, false)
  let b := rnum 3 a.2
  let c := rnum 200 b.2
  let d := if a.1 = 3 then (0, c.2) else rnum 8388613 c.2
  let e := if a.1 = 1 then ([], d.2) else rtext 1024 d.2
  if e.2.2 = false ∧ e.2.1 = [] ∧ mayB a.1 b.1 c.1 d.1 e.1.length = true then some ⟨a.1, b.1, c.1, d.1, e.1⟩ else none

theorem rnum_some {l l' : List UInt8} {n high : Nat} (hn : n ≤ high) (hh : high ≤ 1099511627776) (h : l = enc n ++ l') : rnum high (l, false) = (n, (l', false)) := by
  subst h
  simp [rnum, get_enc (show n ≤ 1099511627776 by omega)]
  omega
theorem rnum_or (high : Nat) (l : List UInt8) : (∃ n l', n ≤ high ∧ n ≤ 1099511627776 ∧ l = enc n ++ l' ∧ rnum high (l, false) = (n, (l', false))) ∨ rnum high (l, false) = (0, (l, true)) := by
  cases h : get l with
  | none => right; simp [rnum, h]
  | some p =>
    obtain ⟨n, k⟩ := p
    obtain ⟨h1, h2, h3, h4⟩ := get_back h
    by_cases hh : high < n
    · right; simp [rnum, h, hh]
    · left
      exact ⟨n, l.drop k, by omega, h1, by rw [h4, List.take_append_drop], by simp [rnum, h]; omega⟩
theorem rnum_true (high : Nat) (l : List UInt8) : rnum high (l, true) = (0, (l, true)) := by
  cases h : get l with
  | none => simp [rnum, h]
  | some p => simp [rnum, h]
theorem rtext_some {l l' : List UInt8} {t : List UInt8} {high : Nat} (ht : t.length ≤ high) (hh : high ≤ 4096) (h : l = txt t ++ l') : rtext high (l, false) = (t, (l', false)) := by
  subst h
  simp [rtext, getText_txt (show t.length ≤ 4096 by omega)]
  omega
theorem rtext_or (high : Nat) (l : List UInt8) : (∃ t l', t.length ≤ high ∧ l = txt t ++ l' ∧ rtext high (l, false) = (t, (l', false))) ∨ rtext high (l, false) = ([], (l, true)) := by
  cases h : getText l with
  | none => right; simp [rtext, h]
  | some p =>
    obtain ⟨t, k⟩ := p
    obtain ⟨h1, h2, h3, h4, h5⟩ := getText_back h
    by_cases hh : high < t.length
    · right; simp [rtext, h, hh]
    · left
      exact ⟨t, l.drop k, by omega, by rw [h4, List.take_append_drop], by simp [rtext, h]; omega⟩
theorem rtext_true (high : Nat) (l : List UInt8) : rtext high (l, true) = ([], (l, true)) := by
  cases h : getText l with
  | none => simp [rtext, h]
  | some p => simp [rtext, h]

theorem rreadR_mk {l l1 l2 l3 l4 l5 t : List UInt8} {n1 n2 n3 n4 : Nat} (h1 : rnum 3 (l, false) = (n1, (l1, false))) (h2 : rnum 3 (l1, false) = (n2, (l2, false))) (h3 : rnum 200 (l2, false) = (n3, (l3, false)))
    (h4 : (if n1 = 3 then (0, (l3, false)) else rnum 8388613 (l3, false)) = (n4, (l4, false))) (h5 : (if n1 = 1 then ([], (l4, false)) else rtext 1024 (l4, false)) = (t, (l5, false))) :
    rreadR l = if l5 = [] ∧ mayB n1 n2 n3 n4 t.length = true then some ⟨n1, n2, n3, n4, t⟩ else none := by
  simp only [rreadR, h1, h2, h3, h4, h5, true_and]
theorem rreadR_bytes {r : Rec} (h : mayR r = true) : rreadR (bytesR r) = some r := by
  obtain ⟨g0, g1, s0, s1, hv, hk⟩ := mayR_cases h
  obtain ⟨k, g, s, b, v⟩ := r
  simp only at g0 g1 s0 s1 hv hk
  obtain ⟨g, rfl⟩ := Int.eq_ofNat_of_zero_le g0
  obtain ⟨s, rfl⟩ := Int.eq_ofNat_of_zero_le (by omega : 0 ≤ s)
  simp only [mayR] at h
  rcases hk with ⟨rfl, rfl, b0, b1, hb⟩ | ⟨rfl, b0, b1, hb⟩ | ⟨rfl, rfl⟩
  · obtain ⟨b, rfl⟩ := Int.eq_ofNat_of_zero_le (by omega : 0 ≤ b)
    have T : bytesR ⟨1, g, s, b, []⟩ = enc 1 ++ (enc g ++ (enc s ++ (enc b ++ []))) := by simp [bytesR, votes, value]
    rw [T, rreadR_mk (rnum_some (n := 1) (by omega) (by omega) rfl) (rnum_some (by omega) (by omega) rfl) (rnum_some (by omega) (by omega) rfl) (by rw [if_neg (by decide)]; exact rnum_some (by omega) (by omega) rfl) (by rw [if_pos rfl])]
    rw [if_pos ⟨rfl, h⟩]
    rfl
  · obtain ⟨b, rfl⟩ := Int.eq_ofNat_of_zero_le (by omega : 0 ≤ b)
    have T : bytesR ⟨2, g, s, b, v⟩ = enc 2 ++ (enc g ++ (enc s ++ (enc b ++ (txt v ++ [])))) := by simp [bytesR, votes, value]
    rw [T, rreadR_mk (rnum_some (n := 2) (by omega) (by omega) rfl) (rnum_some (by omega) (by omega) rfl) (rnum_some (by omega) (by omega) rfl) (by rw [if_neg (by decide)]; exact rnum_some (by omega) (by omega) rfl) (by rw [if_neg (by decide)]; exact rtext_some (by omega) (by omega) rfl)]
    rw [if_pos ⟨rfl, h⟩]
    rfl
  · have T : bytesR ⟨3, g, s, 0, v⟩ = enc 3 ++ (enc g ++ (enc s ++ (txt v ++ []))) := by simp [bytesR, votes, value]
    rw [T, rreadR_mk (rnum_some (n := 3) (by omega) (by omega) rfl) (rnum_some (by omega) (by omega) rfl) (rnum_some (by omega) (by omega) rfl) (by rw [if_pos rfl]) (by rw [if_neg (by decide)]; exact rtext_some (by omega) (by omega) rfl)]
    rw [if_pos ⟨rfl, h⟩]
    rfl

theorem rreadR_back {l : List UInt8} {r : Rec} (h : rreadR l = some r) : mayR r = true ∧ bytesR r = l := by
  simp only [rreadR] at h
  rcases rnum_or 3 l with ⟨n1, l1, hn1, _, e1, h1⟩ | h1
  rotate_left
  · simp [h1, rnum_true, rtext_true] at h
  rw [h1] at h
  simp only at h
  rcases rnum_or 3 l1 with ⟨n2, l2, hn2, _, e2, h2⟩ | h2
  rotate_left
  · by_cases a1 : n1 = 1 <;> by_cases a3 : n1 = 3 <;> simp [h2, rnum_true, rtext_true, a1, a3] at h
  simp only [h2] at h
  rcases rnum_or 200 l2 with ⟨n3, l3, hn3, _, e3, h3⟩ | h3
  rotate_left
  · by_cases a1 : n1 = 1 <;> by_cases a3 : n1 = 3 <;> simp [h3, rnum_true, rtext_true, a1, a3] at h
  simp only [h3] at h
  have tl : l = enc n1 ++ (enc n2 ++ (enc n3 ++ l3)) := by rw [e1, e2, e3]
  by_cases a3 : n1 = 3
  · subst a3
    simp only [if_true] at h
    simp only [show ¬ (3 : Nat) = 1 by decide, if_false] at h
    rcases rtext_or 1024 l3 with ⟨t, l5, ht, e5, h5⟩ | h5
    rotate_left
    · simp [h5] at h
    simp only [h5] at h
    split at h
    · rename_i hc
      obtain ⟨_, c2, c4⟩ := hc
      injection h with h
      subst h
      refine ⟨c4, ?_⟩
      subst c2
      rw [tl, e5]
      simp [bytesR, votes, value]
    · cases h
  · rw [if_neg a3] at h
    rcases rnum_or 8388613 l3 with ⟨n4, l4, hn4, _, e4, h4⟩ | h4
    rotate_left
    · by_cases a1 : n1 = 1 <;> simp [h4, rtext_true, a1] at h
    simp only [h4] at h
    by_cases a1 : n1 = 1
    · subst a1
      simp only [if_true] at h
      split at h
      · rename_i hc
        obtain ⟨_, c2, c4⟩ := hc
        injection h with h
        subst h
        refine ⟨c4, ?_⟩
        subst c2
        rw [tl, e4]
        simp [bytesR, votes, value]
      · cases h
    · rw [if_neg a1] at h
      rcases rtext_or 1024 l4 with ⟨t, l5, ht, e5, h5⟩ | h5
      rotate_left
      · simp [h5] at h
      simp only [h5] at h
      split at h
      · rename_i hc
        obtain ⟨_, c2, c4⟩ := hc
        injection h with h
        subst h
        refine ⟨c4, ?_⟩
        subst c2
        have a2 : n1 = 2 := by
          have := mayR_cases (r := ⟨n1, n2, n3, n4, t⟩) c4
          simp only at this
          omega
        subst a2
        rw [tl, e4, e5]
        simp [bytesR, votes, value]
      · cases h

/-- The two readings are one. -/
theorem rread_eq (l : List UInt8) : rreadR l = readR l := by
  cases h : rreadR l with
  | some r =>
    obtain ⟨h1, h2⟩ := rreadR_back h
    rw [← h2, readR_bytes h1]
  | none =>
    cases k : readR l with
    | none => rfl
    | some r =>
      obtain ⟨h1, h2⟩ := readR_back k
      rw [← h2, rreadR_bytes h1] at h
      cases h

/-- No beginning of a record's bytes is another one's. -/
theorem bytesR_apart {r r' : Rec} (h : mayR r = true) (h' : mayR r' = true) {t : List UInt8} (e : bytesR r = bytesR r' ++ t) : t = [] := by
  have key : ∀ (r : Rec) (h : mayR r = true) (t : List UInt8), ∃ n1 n2 n3 : Nat, bytesR r ++ t = enc n1 ++ (enc n2 ++ (enc n3 ++ ((if votes r.k then enc r.b.toNat else []) ++ ((if value r.k then txt r.v else []) ++ t)))) ∧ r.k = n1 ∧ n1 ≤ 1099511627776 ∧ n2 ≤ 1099511627776 ∧ n3 ≤ 1099511627776 ∧ (votes r.k = true → r.b.toNat ≤ 1099511627776) := by
    intro r h t
    obtain ⟨g0, g1, s0, s1, hv, hk⟩ := mayR_cases h
    refine ⟨r.k.toNat, r.g.toNat, r.s.toNat, by simp [bytesR], ?_, ?_, by omega, by omega, ?_⟩
    · rcases hk with hk | hk | hk <;> omega
    · rcases hk with hk | hk | hk <;> omega
    · intro _
      rcases hk with hk | hk | hk <;> omega
  obtain ⟨n1, n2, n3, x1, x2, x3, x4, x5, x6⟩ := key r h []
  obtain ⟨m1, m2, m3, y1, y2, y3, y4, y5, y6⟩ := key r' h' t
  rw [List.append_nil] at x1
  rw [x1, y1] at e
  have f1 := enc_inj x3 y3 e
  subst f1
  have e := List.append_cancel_left e
  have f2 := enc_inj x4 y4 e
  subst f2
  have e := List.append_cancel_left e
  have f3 := enc_inj x5 y5 e
  subst f3
  have e := List.append_cancel_left e
  have hk : r.k = r'.k := by rw [x2, y2]
  rw [hk] at e x6
  have e2 : ((if value r'.k then txt r.v else []) ++ []) = ((if value r'.k then txt r'.v else []) ++ t) := by
    by_cases hv : votes r'.k = true
    · simp only [hv, if_true] at e
      have f4 := enc_inj (x6 hv) (y6 hv) e
      rw [f4] at e
      exact List.append_cancel_left e
    · simp only [hv] at e
      exact e
  by_cases hj : value r'.k = true
  · simp only [hj, if_true, List.append_nil] at e2
    have hv1 := (mayR_cases h).2.2.2.2.1
    have hv2 := (mayR_cases h').2.2.2.2.1
    have a1 := getText_txt (s := r.v) (by omega) []
    have a2 := getText_txt (s := r'.v) (by omega) t
    rw [List.append_nil, e2, a2] at a1
    injection a1 with a1
    injection a1 with a1 a3
    rw [List.length_append] at a3
    exact List.eq_nil_of_length_eq_zero (by omega)
  · simp only [hj] at e2
    simpa using e2.symm

theorem bytesR_len {r : Rec} (h : mayR r = true) : (bytesR r).length ≤ 1040 := by
  obtain ⟨g0, g1, s0, s1, hv, hk⟩ := mayR_cases h
  have hk4 : r.k.toNat < 128 ^ (0 + 1) := by rcases hk with hk | hk | hk <;> omega
  have l1 := enc_len 0 r.k.toNat hk4
  have l2 := enc_len 0 r.g.toNat (by omega)
  have l3 := enc_len 1 r.s.toNat (by omega)
  have l5 := enc_len 1 r.v.length (by omega)
  simp only [bytesR, List.length_append]
  have l4 : (if votes r.k then enc r.b.toNat else []).length ≤ 4 := by
    split
    · exact enc_len 3 _ (by rcases hk with hk | hk | hk <;> omega)
    · simp
  have l6 : (if value r.k then txt r.v else []).length ≤ 1026 := by
    split
    · simp only [txt, List.length_append]; omega
    · simp
  omega
end Rp
end Go.Proofs.Ytaoekfgeggopbaa
