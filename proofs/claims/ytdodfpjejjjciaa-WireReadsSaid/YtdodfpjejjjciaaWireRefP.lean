/-
  Layer 23 in plain Lean: how the reference reads mail; it reads what the program reads.
-/
import Derived.Test.YtdodfpjejjjciaaWireRefB
namespace Go.Proofs.Ytdodfpjejjjciaa
open Go.RowKit Bal
set_option linter.unusedVariables false
set_option linter.unusedSimpArgs false

namespace Wp
open Nm
def numsN : Nat → List UInt8 → Option (List Int × List UInt8)
  | 0, l => some ([], l)
  | k + 1, l => match get l with
    | none => none
    | some (m, j) => match numsN k (l.drop j) with
      | none => none
      | some (xs, r) => some ((m : Int) :: xs, r)
theorem mny_cons (a : Int) (l : List Int) : mny (a :: l) = enc a.toNat ++ mny l := by simp [mny]
theorem numsN_some : ∀ (xs : List Int) (r : List UInt8), (∀ n ∈ xs, 0 ≤ n ∧ n ≤ 1099511627776) → numsN xs.length (mny xs ++ r) = some (xs, r)
  | [], r, _ => rfl
  | a :: xs, r, h => by
    have h1 := h a List.mem_cons_self
    have h2 := numsN_some xs r (fun n hn => h n (List.mem_cons_of_mem _ hn))
    have h3 := get_enc (n := a.toNat) (by omega) (mny xs ++ r)
    rw [List.length_cons, mny_cons, List.append_assoc]
    simp only [numsN, h3, List.drop_left, h2]
    rw [show ((a.toNat : Nat) : Int) = a by omega]
theorem numsN_back : ∀ (k : Nat) (l : List UInt8) (xs : List Int) (r : List UInt8), numsN k l = some (xs, r) → xs.length = k ∧ l = mny xs ++ r ∧ ∀ n ∈ xs, 0 ≤ n ∧ n ≤ 1099511627776
  | 0, l, xs, r, h => by
    simp only [numsN, Option.some.injEq, Prod.mk.injEq] at h
    obtain ⟨rfl, rfl⟩ := h
    exact ⟨rfl, by simp [mny], by simp⟩
  | k + 1, l, xs, r, h => by
    unfold numsN at h
    cases hg : get l with
    | none => rw [hg] at h; cases h
    | some p =>
      obtain ⟨m, j⟩ := p
      rw [hg] at h
      simp only at h
      cases hq : numsN k (l.drop j) with
      | none => rw [hq] at h; cases h
      | some q =>
        obtain ⟨ys, r'⟩ := q
        rw [hq] at h
        simp only [Option.some.injEq, Prod.mk.injEq] at h
        obtain ⟨rfl, rfl⟩ := h
        obtain ⟨h1, h2, h3⟩ := numsN_back k _ _ _ hq
        obtain ⟨g1, g2, g3, g4⟩ := get_back hg
        refine ⟨by simp [h1], ?_, ?_⟩
        · rw [mny_cons, List.append_assoc, ← h2, Int.toNat_natCast, g4, List.take_append_drop]
        · intro n hn
          rcases List.mem_cons.1 hn with rfl | hn
          · omega
          · exact h3 n hn

def ofNums (f t k g : Int) (xs : List Int) (v : List UInt8) : Mail :=
  if k = 8 then ⟨f, t, k, g, 0, 0, 0, v, xs.getD 0 0, xs.getD 1 0⟩ else ⟨f, t, k, g, xs.getD 0 0, xs.getD 1 0, xs.getD 2 0, v, 0, 0⟩
def cnt (k : Int) : Nat := (kindNums (zeroM 0 0 k 0)).length
def fin (m : Mail) (left : List UInt8) : Option Mail := if left = [] ∧ mayM m = true then some m else none
def rread2 (f t k g : Int) (rest : List UInt8) : Option Mail := match numsN (cnt k) rest with
  | none => none
  | some (xs, left) => if valuedB k = true then (match getText left with
      | none => none
      | some (v, j) => fin (ofNums f t k g xs v) (left.drop j)) else fin (ofNums f t k g xs []) left
def rreadM (l : List UInt8) : Option Mail := match numsN 4 l with
  | some ([f, t, k, g], rest) => if 1 ≤ k ∧ k ≤ 9 then rread2 f t k g rest else none
  | _ => none

theorem fin_some {m m' : Mail} {l : List UInt8} (h : fin m l = some m') : l = [] ∧ mayM m = true ∧ m = m' := by
  unfold fin at h
  split at h
  · rename_i hc
    injection h with h
    exact ⟨hc.1, hc.2, h⟩
  · cases h
theorem kind_cases {k : Int} (h1 : 1 ≤ k) (h2 : k ≤ 9) : k = 1 ∨ k = 2 ∨ k = 3 ∨ k = 4 ∨ k = 5 ∨ k = 6 ∨ k = 7 ∨ k = 8 ∨ k = 9 := by omega
theorem of_kind {f t k g : Int} {xs : List Int} {v : List UInt8} (h1 : 1 ≤ k) (h2 : k ≤ 9) (h : xs.length = cnt k) : numsM (ofNums f t k g xs v) = [f, t, k, g] ++ xs ∧ (ofNums f t k g xs v).k = k ∧ (ofNums f t k g xs v).v = v := by
  rcases kind_cases h1 h2 with rfl | rfl | rfl | rfl | rfl | rfl | rfl | rfl | rfl <;> simp [cnt, kindNums, zeroM] at h <;>
    (first
      | (obtain rfl := List.eq_nil_of_length_eq_zero h; exact ⟨rfl, rfl, rfl⟩)
      | (match xs, h with | [a], _ => exact ⟨rfl, rfl, rfl⟩)
      | (match xs, h with | [a, b], _ => exact ⟨rfl, rfl, rfl⟩)
      | (match xs, h with | [a, b, c], _ => exact ⟨rfl, rfl, rfl⟩)
      | (subst h; exact ⟨rfl, rfl, rfl⟩))
theorem rreadM_back {l : List UInt8} {m : Mail} (h : rreadM l = some m) : mayM m = true ∧ bytesM m = l := by
  unfold rreadM at h
  split at h
  rotate_left
  · cases h
  rename_i f t k g rest hq
  split at h
  rotate_left
  · cases h
  rename_i hk
  obtain ⟨hk1, hk2⟩ := hk
  obtain ⟨_, e1, _⟩ := numsN_back _ _ _ _ hq
  unfold rread2 at h
  cases hq2 : numsN (cnt k) rest with
  | none => rw [hq2] at h; cases h
  | some p =>
    obtain ⟨xs, left⟩ := p
    rw [hq2] at h
    simp only at h
    obtain ⟨c1, e2, _⟩ := numsN_back _ _ _ _ hq2
    by_cases hv : valuedB k = true
    · rw [if_pos hv] at h
      cases hg : getText left with
      | none => rw [hg] at h; cases h
      | some p =>
        obtain ⟨v, j⟩ := p
        rw [hg] at h
        obtain ⟨z1, z2, rfl⟩ := fin_some h
        obtain ⟨o1, o2, o3⟩ := of_kind (f := f) (t := t) (g := g) (v := v) hk1 hk2 c1
        obtain ⟨g1, g2, g3, g4, g5⟩ := getText_back hg
        refine ⟨z2, ?_⟩
        rw [bytesM_nums _ (by rw [o2]; exact hk1) (by rw [o2]; exact hk2), o1, o2, if_pos hv, o3, mny_append, e1, e2, g4, List.append_assoc]
        congr 2
        have := List.take_append_drop j left
        rw [z1, List.append_nil] at this
        exact this
    · rw [if_neg hv] at h
      obtain ⟨z1, z2, rfl⟩ := fin_some h
      obtain ⟨o1, o2, o3⟩ := of_kind (f := f) (t := t) (g := g) (v := []) hk1 hk2 c1
      refine ⟨z2, ?_⟩
      rw [bytesM_nums _ (by rw [o2]; exact hk1) (by rw [o2]; exact hk2), o1, o2, if_neg hv, mny_append, e1, e2, z1]
      simp
theorem may_of {m : Mail} (h : mayM m = true) : ofNums m.f m.t m.k m.g (kindNums m) (if valuedB m.k = true then m.v else []) = m ∧ (kindNums m).length = cnt m.k := by
  obtain ⟨_, _, _, _, ⟨h1, h2⟩, _, _, _, _, _, h11⟩ := mayM_cases h
  clear h
  obtain ⟨f, t, k, g, s, b, p, v, i, tm⟩ := m
  simp only at h1 h2 h11 ⊢
  rcases kind_cases h1 h2 with rfl | rfl | rfl | rfl | rfl | rfl | rfl | rfl | rfl <;>
    (clear h1 h2; simp [mrg, fieldsL, zeroM, Mail.get, Mail.put] at h11; simp [ofNums, kindNums, cnt, valuedB, zeroM]; first | done | exact h11 | (simp [h11]; done) | grind)
theorem rreadM_bytes {m : Mail} (h : mayM m = true) : rreadM (bytesM m) = some m := by
  obtain ⟨h1, h2, h3, h4, ⟨h5, h5b⟩, _⟩ := mayM_cases h
  obtain ⟨o1, o2⟩ := may_of h
  have hin := nums_in h
  have e : bytesM m = mny [m.f, m.t, m.k, m.g] ++ (mny (kindNums m) ++ (if valuedB m.k = true then txt m.v else [])) := by
    rw [bytesM_nums m h5 h5b]
    simp only [numsM, mny_append, List.append_assoc]
  have hin1 : ∀ n ∈ [m.f, m.t, m.k, m.g], 0 ≤ n ∧ n ≤ 1099511627776 := fun n hn => hin n (by unfold numsM; exact List.mem_append_left _ hn)
  have hin2 : ∀ n ∈ kindNums m, 0 ≤ n ∧ n ≤ 1099511627776 := fun n hn => hin n (by unfold numsM; exact List.mem_append_right _ hn)
  have q1 := numsN_some [m.f, m.t, m.k, m.g] (mny (kindNums m) ++ (if valuedB m.k = true then txt m.v else [])) hin1
  have q2 := numsN_some (kindNums m) (if valuedB m.k = true then txt m.v else []) hin2
  rw [o2] at q2
  rw [← e] at q1
  have q1' : numsN 4 (bytesM m) = some ([m.f, m.t, m.k, m.g], mny (kindNums m) ++ (if valuedB m.k = true then txt m.v else [])) := q1
  simp only [rreadM, q1', rread2, q2]
  rw [if_pos ⟨h5, h5b⟩]
  by_cases hv : valuedB m.k = true
  · simp only [if_pos hv] at o1 ⊢
    have g := getText_txt (s := m.v) (by omega) []
    rw [List.append_nil] at g
    rw [g]
    simp only [fin, List.drop_length, o1, h, and_self, if_true]
  · simp only [if_neg hv] at o1 ⊢
    simp only [fin, o1, h, and_self, if_true]
theorem rread_eqM (l : List UInt8) : rreadM l = readM l := by
  cases h : readM l with
  | some m =>
    obtain ⟨h1, h2⟩ := readM_back h
    rw [← h2]
    exact rreadM_bytes h1
  | none =>
    cases h2 : rreadM l with
    | none => rfl
    | some m =>
      obtain ⟨h3, h4⟩ := rreadM_back h2
      rw [← h4, readM_bytes h3] at h
      cases h
end Wp
end Go.Proofs.Ytdodfpjejjjciaa
