/-
  Mail in rows: the cells of a list of mail, a row that reads as one.
-/
import Derived.Test.YtmchnjnknnolmaaWireCheckW
import Derived.Deep.MidRow
namespace Go.Proofs.Ytmchnjnknnolmaa
open Go.RowKit Bal
set_option linter.unusedVariables false
set_option linter.unusedSimpArgs false

def mcells (m : Wp.Mail) : List Value := (mA m).toList
theorem mcells_length (m : Wp.Mail) : (mcells m).length = 10 := rfl
def cm (l : List Wp.Mail) : List Value := l.flatMap mcells
theorem cm_cons (m : Wp.Mail) (l : List Wp.Mail) : cm (m :: l) = mcells m ++ cm l := by simp [cm]
theorem cm_length : ∀ l : List Wp.Mail, (cm l).length = l.length * 10
  | [] => rfl
  | m :: l => by rw [cm_cons, List.length_append, cm_length l, mcells_length, List.length_cons]; omega
theorem cm_append (l m : List Wp.Mail) : cm (l ++ m) = cm l ++ cm m := by simp [cm]
theorem cm_one (l : List Wp.Mail) : ∀ u ∈ cm l, u.oneCell' = true := by
  intro u hu
  simp only [cm, List.mem_flatMap] at hu
  obtain ⟨m, _, hu⟩ := hu
  simp only [mcells, mA, List.mem_cons, List.not_mem_nil, or_false] at hu
  rcases hu with rfl | rfl | rfl | rfl | rfl | rfl | rfl | rfl | rfl | rfl <;> rfl
theorem cm_take : ∀ (l : List Wp.Mail) (k : Nat), (cm l).take (k * 10) = cm (l.take k)
  | [], k => by simp [cm]
  | m :: l, 0 => by simp [cm]
  | m :: l, k + 1 => by
    rw [cm_cons, List.take_succ_cons, cm_cons, List.take_append, List.take_of_length_le (by rw [mcells_length]; omega), mcells_length, show (k + 1) * 10 - 10 = k * 10 by omega]
    rw [cm_take l k]

theorem cm_drop : ∀ (l : List Wp.Mail) (k : Nat), (cm l).drop (k * 10) = cm (l.drop k)
  | [], k => by simp [cm]
  | m :: l, 0 => by simp
  | m :: l, k + 1 => by
    rw [cm_cons, List.drop_succ_cons, List.drop_append, List.drop_of_length_le (by rw [mcells_length]; omega), mcells_length, show (k + 1) * 10 - 10 = k * 10 by omega, cm_drop l k, List.nil_append]
theorem cm_get : ∀ (l : List Wp.Mail) (k : Nat) (m : Wp.Mail) (i : Nat), l[k]? = some m → i < 10 → (cm l)[k * 10 + i]? = (mcells m)[i]?
  | [], k, m, i, h, _ => by simp at h
  | a :: l, 0, m, i, h, hi => by
    simp only [List.getElem?_cons_zero, Option.some.injEq] at h
    subst h
    rw [cm_cons, List.getElem?_append_left (by rw [mcells_length]; omega), Nat.zero_mul, Nat.zero_add]
  | a :: l, k + 1, m, i, h, hi => by
    rw [List.getElem?_cons_succ] at h
    rw [cm_cons, List.getElem?_append_right (by rw [mcells_length]; omega), mcells_length, show (k + 1) * 10 + i - 10 = k * 10 + i by omega]
    exact cm_get l k m i h hi

section
variable {w : World} {B n : Nat} {A : Option Addr} {l : List Wp.Mail}
theorem Reads.len_m (h : Reads w B 10 A n (cm l)) : l.length = n := by have := h.1; rw [cm_length] at this; omega
theorem Reads.mail (h : Reads w B 10 A n (cm l)) {k : Nat} (hk : k < n) : ∃ (b off : Nat) (m : Wp.Mail), A = some ⟨b, off, none⟩ ∧ b < B ∧ l[k]? = some m ∧ w.rangeAt b (off + k * 10) (mcells m) := by
  have hl := h.len_m
  obtain ⟨ad, rfl, hb, hc⟩ := h.2 (by omega)
  have hg : l[k]? = some (l[k]'(by omega)) := List.getElem?_eq_getElem (by omega)
  have h0 : ∃ x, w.cell? (ad.add 0) = some x := ⟨_, hc 0 _ (List.getElem?_eq_getElem (by rw [cm_length]; omega))⟩
  obtain ⟨x, h0⟩ := h0
  obtain ⟨b, off, rfl, _⟩ := addr_zero h0
  refine ⟨b, off, l[k]'(by omega), rfl, hb, hg, fun i u hu => ?_⟩
  have hi : i < 10 := by have := (List.getElem?_eq_some_iff.1 hu).1; rwa [mcells_length] at this
  have := hc (k * 10 + i) u (by rw [cm_get l k _ i hg hi]; exact hu)
  rw [Addr.add_mid] at this
  rw [Nat.add_assoc]
  exact this
end
/-- The first k pieces of a row. -/
theorem Reads.firstN {w : World} {B size n : Nat} {A : Option Addr} {xs : List Value} (h : Reads w B size A n xs) {k : Nat} (hk : k ≤ n) : Reads w B size A k (xs.take (k * size)) := by
  have h1 := h.1
  have h2 : k * size ≤ n * size := Nat.mul_le_mul_right _ hk
  refine ⟨by rw [List.length_take]; omega, fun hp => ?_⟩
  obtain ⟨ad, e, hb, hc⟩ := h.2 (by omega)
  refine ⟨ad, e, hb, fun j u hu => hc j u ?_⟩
  rw [List.getElem?_take] at hu
  split at hu
  · exact hu
  · cases hu
section
variable {P : Program}
theorem run_sliceN_to {T E : TypeId} (ht : P.underlying T = some (.slice E)) (size : Nat) (A : Option Addr) (n c k : Nat) (hk : k ≤ c) (w : World) (hs : ∀ w, (Go.sizeOf E).run P w = .ok size w) :
    (Instr.slice T (.slice A n c) none (some (.int .i64 (k : Int))) none).run P w = .ok (.slice A k c) w := by
  have ht' : P.underlying T = some (.slice (P.elem T)) := by simp [Program.elem, ht]
  have he : P.elem T = E := by simp [Program.elem, ht]
  rw [run_slice_h w T _ _ _ ht' .i64 _ (by omega) (by omega), he, hs]
  have h0 : A.map (fun x => x.add (0 * size)) = A := by
    cases A with
    | none => rfl
    | some a => simp [Addr.add]
  simp only [Result.andThen, sliced, h0, Int.toNat_natCast, Nat.sub_zero, ite_self]
def cutN (size : Nat) (A : Option Addr) (c k : Nat) : Option Addr := if c = k then A else A.map (·.add (k * size))
theorem run_sliceN_from {T E : TypeId} (ht : P.underlying T = some (.slice E)) (size : Nat) (A : Option Addr) (n c k : Nat) (hk : k ≤ n) (w : World) (hs : ∀ w, (Go.sizeOf E).run P w = .ok size w) :
    (Instr.slice T (.slice A n c) (some (.int .i64 (k : Int))) none none).run P w = .ok (.slice (cutN size A c k) (n - k) (c - k)) w := by
  have ht' : P.underlying T = some (.slice (P.elem T)) := by simp [Program.elem, ht]
  have he : P.elem T = E := by simp [Program.elem, ht]
  rw [run_slice_l w T _ _ _ ht' .i64 _ (by omega) (by omega), he, hs]
  simp only [Result.andThen, sliced, Int.toNat_natCast, cutN]
theorem run_sliceN_mid {T E : TypeId} (ht : P.underlying T = some (.slice E)) (size : Nat) (A : Option Addr) (n c k m : Nat) (hk : k + m ≤ c) (w : World) (hs : ∀ w, (Go.sizeOf E).run P w = .ok size w) :
    (Instr.slice T (.slice A n c) (some (.int .i64 (k : Int))) (some (.int .i64 ((k : Int) + (m : Int)))) none).run P w = .ok (.slice (cutN size A c k) m (c - k)) w := by
  have ht' : P.underlying T = some (.slice (P.elem T)) := by simp [Program.elem, ht]
  have he : P.elem T = E := by simp [Program.elem, ht]
  rw [run_slice_lh w T _ _ _ ht' .i64 .i64 _ _ (by omega) (by omega) (by omega), he, hs]
  simp only [Result.andThen, sliced, Int.toNat_natCast, cutN]
  rw [show ((k : Int) + (m : Int)).toNat = k + m by omega, show k + m - k = m by omega]
theorem Reads.restN {w : World} {B size n : Nat} {A : Option Addr} {xs : List Value} (h : Reads w B size A n xs) {k c : Nat} (hk : k ≤ n) (hc : n ≤ c) : Reads w B size (cutN size A c k) (n - k) (xs.drop (k * size)) := h.cut hk hc
end
end Go.Proofs.Ytmchnjnknnolmaa
