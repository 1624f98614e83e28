/-
  A list of bytes that comes in.
-/
import Derived.Test.YthmbjmknifkbaaaDiskIn
namespace Go.Proofs.Ythmbjmknifkbaaa
open Go.RowKit
set_option maxRecDepth 100000
set_option linter.unusedVariables false
set_option linter.unusedSimpArgs false

/-- The cells of a list of slices of bytes (of writes the bytes alone). -/
def cs (l : List HP) : List Value := l.map fun p => .slice p.A p.n p.c
theorem cs_length (l : List HP) : (cs l).length = l.length := by simp [cs]
theorem cs_get (l : List HP) (k : Nat) : (cs l)[k]? = (l[k]?).map fun p => .slice p.A p.n p.c := by simp [cs]
def IsBList (w : World) (a : Option Addr) (len cap : Nat) (l : List HP) : Prop := Reads w w.heap.size 1 a len (cs l) ∧ len ≤ cap ∧ cap ≤ maxLen ∧ ∀ p ∈ l, PutAt w w.heap.size p ∧ p.sw = false

open Go.Joins Go.ChangeShapes Go.WideShapes Go.Deep in
theorem open_blist {H : Type} {enc : TypeId × Value → H} {w : World} {base : Nat} {held : Bool} {r : Reach} {b0 : Nat} {v : Value} {d : DataW H} {ps : List MemPlace}
    (hv : Value.okWide Try.prog w r b0 54 v) (h : DataW.Trod enc Try.prog w base (fun _ => true) held 54 v d ps) (hw : ∀ n ∈ d.weights Try.prog 54, n ≤ reachBytes) :
    ∃ (a : Option Addr) (len cap : Nat) (l : List HP), v = .slice a len cap ∧ IsBList w a len cap l := by
  obtain ⟨a, len, cap, rfl⟩ := okWide_slice Try.underlying54 hv
  obtain ⟨fuel, hf⟩ := h
  have hc1 : (Try.prog.cellsOf 22) = 1 := by kernel_rfl
  rcases open_slice Try.underlying54 hf with ⟨hcs, _⟩ | ⟨x, len', cap', m, n, D, Pl, hcs, _, hl, hm, hmm, hx, hi⟩
  · simp [Value.cells] at hcs
    obtain ⟨rfl, rfl, rfl⟩ := hcs
    exact ⟨none, 0, 0, [], rfl, Reads.none_, Nat.le_refl _, Nat.zero_le _, by simp⟩
  · simp [Value.cells] at hcs
    obtain ⟨rfl, rfl, rfl⟩ := hcs
    have hml : m = cap := by rw [hmm]; simp
    subst hml
    have hW : ∀ i, i < len → ∀ n ∈ (D i).weights Try.prog 22, n ≤ reachBytes := by
      intro i hil n hn
      refine hw n ?_
      have hx1 := (Prod.mk.inj hx).1
      rw [hx1]
      simp only [DataW.weights, Try.underlying54]
      exact List.mem_cons.2 (Or.inr (List.mem_append.2 (Or.inl (weights_mem_all (List.mem_map.2 ⟨i, List.mem_range.2 hil, rfl⟩) n hn))))
    obtain ⟨f, hff⟩ := choose_n' (n := len) (p := fun i (z : HP) => (PutAt w w.heap.size z ∧ z.sw = false) ∧ w.cell? (x.add i) = some (.slice z.A z.n z.c)) (by
      intro i hil
      obtain ⟨cs', hc, ht'⟩ := hi i (by omega)
      rw [hc1, Nat.mul_one] at hc
      obtain ⟨_, hcl, hat⟩ := World.cells?_some hc
      have hcell := hat 0 (by omega)
      obtain ⟨u, rfl⟩ : ∃ u, cs' = [u] := by
        match cs', hcl with
        | [u], _ => exact ⟨u, rfl⟩
      obtain ⟨A, n1, c1, l1, rfl, hb, hcap⟩ := bytes_trod_sized (y := (D i, Pl i)) Try.underlying22 Try.underlying5 (by kernel_rfl) (by kernel_rfl) ht' (hW i hil)
      refine ⟨⟨false, A, n1, c1, l1⟩, ⟨⟨hb.1, hb.2.1, hb.2.2, by have := hb.2.1; show n1 ≤ _; omega⟩, rfl⟩, ?_⟩
      have e : (x.add i).add 0 = x.add i := by simp [Addr.add]
      rw [e] at hcell
      exact hcell)
    have hget : ∀ k z, ((List.range len).map f)[k]? = some z → k < len ∧ z = f k := by
      intro k z hz
      simp only [List.getElem?_map] at hz
      by_cases hk : k < len
      · rw [List.getElem?_range hk] at hz
        simp at hz
        exact ⟨hk, hz.symm⟩
      · rw [List.getElem?_eq_none (by simp; omega)] at hz
        cases hz
    refine ⟨some x, len, m, (List.range len).map f, rfl, row_reads (by simp [cs]) (fun k u hu => ?_), hl, hm, fun z hz => ?_⟩
    · rw [cs_get] at hu
      cases hz : ((List.range len).map f)[k]? with
      | none => rw [hz] at hu; cases hu
      | some z =>
        rw [hz] at hu
        obtain ⟨hk, rfl⟩ := hget k z hz
        simp only [Option.map_some, Option.some.injEq] at hu
        subst hu
        exact (hff k hk).2
    · obtain ⟨k, hk⟩ := List.mem_iff_getElem?.1 hz
      obtain ⟨hkl, rfl⟩ := hget k z hk
      exact (hff k hkl).1

/-! ### plain: appends alone -/
def isApp (l : List Dp.Put) : Prop := ∀ p ∈ l, p.sw = false
theorem done_app : ∀ (l : List Dp.Put) (b : List UInt8), isApp l → ∃ t, Dp.done b l = b ++ t
  | [], b, _ => ⟨[], by simp [Dp.done]⟩
  | p :: l, b, h => by
    obtain ⟨t, ht⟩ := done_app l (b ++ p.d) (fun q hq => h q (List.mem_cons_of_mem _ hq))
    exact ⟨p.d ++ t, by rw [Dp.done, Dp.step, h p List.mem_cons_self]; simp [ht]⟩
theorem crash_app : ∀ (l : List Dp.Put) (b : List UInt8) (k m : Nat), isApp l → ∃ t u, Dp.done b (l.take k) ++ Dp.part l k m = b ++ t ∧ Dp.done b l = (b ++ t) ++ u
  | [], b, k, m, _ => ⟨[], [], by simp [Dp.done, Dp.part], by simp [Dp.done]⟩
  | p :: l, b, 0, m, h => by
    obtain ⟨t, ht⟩ := done_app l (b ++ p.d) (fun q hq => h q (List.mem_cons_of_mem _ hq))
    refine ⟨p.d.take m, p.d.drop m ++ t, by simp [Dp.done, Dp.part, h p List.mem_cons_self], ?_⟩
    rw [Dp.done, Dp.step, h p List.mem_cons_self]
    simp only [Bool.false_eq_true, if_false, ht]
    rw [List.append_assoc, List.append_assoc, ← List.append_assoc (p.d.take m), List.take_append_drop]
  | p :: l, b, k + 1, m, h => by
    obtain ⟨t, u, h1, h2⟩ := crash_app l (b ++ p.d) k m (fun q hq => h q (List.mem_cons_of_mem _ hq))
    refine ⟨p.d ++ t, u, ?_, ?_⟩
    · rw [List.take_succ_cons, Dp.done, Dp.step, h p List.mem_cons_self]
      simp only [Bool.false_eq_true, if_false]
      rw [show Dp.part (p :: l) (k + 1) m = Dp.part l k m by simp [Dp.part], h1, List.append_assoc]
    · rw [Dp.done, Dp.step, h p List.mem_cons_self]
      simp only [Bool.false_eq_true, if_false]
      rw [h2, List.append_assoc b]
theorem keeps_plain {X R : Dp.Disk} {keep many : Int} (hm : Dp.mayD X = true) (ha : isApp X.wait) (hR : Dp.crash X keep many = (R, 0)) :
    R.wait = [] ∧ R.data = (Dp.seen X).take R.data.length ∧ X.data.length ≤ R.data.length ∧ R.data.length ≤ (Dp.seen X).length := by
  unfold Dp.crash at hR
  rw [if_pos hm] at hR
  split at hR
  · simp at hR
  · obtain ⟨t, u, h1, h2⟩ := crash_app X.wait X.data keep.toNat many.toNat ha
    have e := (Prod.mk.inj hR).1
    subst e
    simp only [h1]
    have h3 : Dp.seen X = (X.data ++ t) ++ u := h2
    rw [h3]
    refine ⟨trivial, ?_, by simp, by simp⟩
    rw [List.take_left]
theorem crash_code {X R : Dp.Disk} {g keep many : Int} (hm : Dp.mayD X = true) (hR : Dp.crash X keep many = (R, g)) : g = 0 ∨ (g = 2 ∧ (keep < 0 ∨ keep > X.wait.length ∨ many < 0)) := by
  unfold Dp.crash at hR
  rw [if_pos hm] at hR
  split at hR
  · rename_i h
    exact Or.inr ⟨(Prod.mk.inj hR).2.symm, h⟩
  · exact Or.inl (Prod.mk.inj hR).2.symm
theorem crash_still {S : List UInt8} {many : Int} (hm : Dp.mayD ⟨S, []⟩ = true) (h0 : 0 ≤ many) : Dp.crash ⟨S, []⟩ 0 many = (⟨S, []⟩, 0) := by
  unfold Dp.crash
  rw [if_pos hm, if_neg (by simp; omega)]
  simp [Dp.done, Dp.part]
theorem app_keeps {X Y : Dp.Disk} {d : List UInt8} (h : Dp.write X ⟨false, d⟩ = (Y, 0)) (ha : isApp X.wait) : Dp.mayD Y = true ∧ Y.data = X.data ∧ isApp Y.wait := by
  obtain ⟨m1, m2, e⟩ := Dp.write_is (d := X) (p := ⟨false, d⟩) (by rw [h])
  rw [h] at e
  simp only at e
  subst e
  refine ⟨m2, rfl, fun p hp => ?_⟩
  rcases List.mem_append.1 hp with hp | hp
  · exact ha p hp
  · rw [List.mem_singleton.1 hp]
end Go.Proofs.Ythmbjmknifkbaaa
