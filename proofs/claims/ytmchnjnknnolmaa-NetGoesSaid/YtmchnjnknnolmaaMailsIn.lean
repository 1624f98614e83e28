/-
  A list of mail that comes in.
-/
import Derived.Test.YtmchnjnknnolmaaMails
import Derived.Test.YtmchnjnknnolmaaWireLaws
import Derived.Deep.Slices
import Derived.Deep.Fields
import Derived.ChangeSame
namespace Go.Proofs.Ytmchnjnknnolmaa
open Go.RowKit Bal
set_option maxRecDepth 100000
set_option linter.unusedVariables false
set_option linter.unusedSimpArgs false

def IsMails (w : World) (a : Option Addr) (len cap : Nat) (l : List Wp.Mail) : Prop := Reads w w.heap.size 10 a len (cm l) ∧ len ≤ cap ∧ cap ≤ maxLen ∧ ∀ m ∈ l, IsMailM m
theorem reads_mails {w : World} {a : Addr} {n : Nat} {l : List Wp.Mail} (hl : l.length = n) (hc : ∀ k m, l[k]? = some m → ∀ i u, (mcells m)[i]? = some u → w.cell? (a.add (k * 10 + i)) = some u) : Reads w w.heap.size 10 (some a) n (cm l) := by
  refine ⟨by rw [cm_length, hl], fun hp => ⟨a, rfl, ?_, fun j u hu => ?_⟩⟩
  · have h0 : 0 < l.length := by omega
    have := hc 0 l[0] (List.getElem?_eq_getElem h0) 0 _ rfl
    have := World.block_lt_of_cell? w _ this
    rwa [block_of_add] at this
  · have hj : j < l.length * 10 := by
      have := (List.getElem?_eq_some_iff.1 hu).1
      rwa [cm_length] at this
    have hk : j / 10 < l.length := by omega
    have e : j / 10 * 10 + j % 10 = j := by omega
    have hu2 := cm_get l (j / 10) l[j / 10] (j % 10) (List.getElem?_eq_getElem hk) (by omega)
    rw [e, hu] at hu2
    have := hc (j / 10) _ (List.getElem?_eq_getElem hk) (j % 10) u hu2.symm
    rwa [e] at this

section
open Go.Joins Go.ChangeShapes Go.WideShapes Go.Deep
variable {H : Type} {enc : TypeId × Value → H} {P : Program} {w : World} {base : Nat} {spare : Nat → Bool} {held : Bool}
theorem open_slice_fields {t e : TypeId} {fs : Array Field} {fuel : Nat} {cs : List Value} {x : DataW H × List MemPlace} (ht : P.underlying t = some (.slice e)) (he : P.underlying e = some (.struct fs))
    (hone : oneCellFields P fs = true) (hC : P.cellsOf e = fs.size) (h : DataW.trod enc P w base spare held fuel t cs = some x) :
    (cs = [.slice none 0 0] ∧ x = (.nil, [])) ∨
    ∃ (a : Addr) (len cap m : Nat) (D : Nat → DataW H) (Pl : Nat → List MemPlace), cs = [.slice (some a) len cap] ∧ base ≤ a.block ∧ len ≤ cap ∧ cap ≤ maxLen ∧ m = (if spare a.block then cap else len) ∧
      x = (.slice ((List.range len).map D) ((List.range (m - len)).map fun j => D (len + j)), MemPlace.row a (m * fs.size) ++ (List.range m).flatMap Pl) ∧
      ∀ i, i < m → ∃ (ys : List (DataW H × List MemPlace)) (n : Nat), D i = .agg (ys.map (·.1)) ∧ Pl i = ys.flatMap (·.2) ∧ ys.length = fs.size ∧
        ∀ (j : Nat) (f : Field), fs[j]? = some f → ∃ (v : Value) (y : DataW H × List MemPlace), w.cell? (a.add (i * fs.size + j)) = some v ∧ ys[j]? = some y ∧ DataW.trod enc P w base spare held n f.type [v] = some y := by
  rcases open_slice ht h with h0 | ⟨a, len, cap, m, n, D, Pl, hcs, hb, hl, hm, hmm, hx, hi⟩
  · exact .inl h0
  · refine .inr ⟨a, len, cap, m, D, Pl, hcs, hb, hl, hm, hmm, by rw [hC] at hx; exact hx, fun i him => ?_⟩
    obtain ⟨cs', hc, ht'⟩ := hi i him
    rw [hC] at hc
    obtain ⟨ys, n', hn', hy, hlen, hyl, hf⟩ := DataW.trod_struct he ht'
    obtain ⟨_, hcl, hat⟩ := World.cells?_some hc
    simp only [Prod.mk.injEq] at hy
    refine ⟨ys, n', hy.1, hy.2, hyl, fun j f hj => ?_⟩
    obtain ⟨ho, hk⟩ := hone_of hone j f hj
    have hjl : j < fs.size := (Array.getElem?_eq_some_iff.1 hj).1
    have hcell := hat j hjl
    have hv : cs'[j]? = some (cs'[j]'(by omega)) := List.getElem?_eq_getElem (by omega)
    have h1 := hf j f hj
    rw [ho, hk] at h1
    have hone' : (cs'.drop j).take 1 = [cs'[j]'(by omega)] := by
      rw [List.drop_eq_getElem_cons (by omega)]
      rfl
    rw [hone'] at h1
    have hys : ys[j]? = some (ys[j]'(by omega)) := List.getElem?_eq_getElem (by omega)
    refine ⟨_, _, ?_, hys, h1.trans hys⟩
    rw [← Go.Deep.add_add, hcell, hv]
end

theorem choose_n {α : Type} [Inhabited α] {n : Nat} {p : Nat → α → Prop} (h : ∀ i, i < n → ∃ x, p i x) : ∃ f : Nat → α, ∀ i, i < n → p i (f i) :=
  ⟨fun i => if hi : i < n then Classical.choose (h i hi) else default, fun i hi => by simp only [dif_pos hi]; exact Classical.choose_spec (h i hi)⟩
instance : Inhabited Wp.Mail := ⟨⟨0, 0, 0, 0, 0, 0, 0, [], 0, 0⟩⟩
open Go.ChangeShapes Go.WideShapes in
theorem open_mails {H : Type} {enc : TypeId × Value → H} {w : World} {base : Nat} {spare : Nat → Bool} {held : Bool} {r : Reach} {b0 : Nat} {v : Value} {d : DataW H} {ps : List MemPlace}
    (hv : Value.okWide Try.prog w r b0 22 v) (h : DataW.Trod enc Try.prog w base spare held 22 v d ps) : ∃ (a : Option Addr) (len cap : Nat) (l : List Wp.Mail), v = .slice a len cap ∧ IsMails w a len cap l := by
  obtain ⟨a, len, cap, rfl⟩ := okWide_slice Try.underlying22 hv
  obtain ⟨fuel, hf⟩ := h
  rcases open_slice_fields Try.underlying22 Try.underlying25 (by kernel_rfl) (by kernel_rfl) hf with ⟨hcs, _⟩ | ⟨x, l, c, m, D, Pl, hcs, _, hl, hm, hmm, _, hi⟩
  · simp [Value.cells] at hcs
    obtain ⟨rfl, rfl, rfl⟩ := hcs
    exact ⟨none, 0, 0, [], rfl, Reads.none_, Nat.le_refl _, Nat.zero_le _, by simp⟩
  · simp [Value.cells] at hcs
    obtain ⟨rfl, rfl, rfl⟩ := hcs
    have hml : len ≤ m := by rw [hmm]; split <;> omega
    obtain ⟨f, hff⟩ := choose_n (n := len) (p := fun i (z : Wp.Mail) => IsMailM z ∧ ∀ j u, (mcells z)[j]? = some u → w.cell? (x.add (i * 10 + j)) = some u) (by
      intro i hil
      obtain ⟨ys, n, -, -, -, hq⟩ := hi i (by omega)
      obtain ⟨v0, y0, k0, -, t0⟩ := hq 0 _ rfl
      obtain ⟨v1, y1, k1, -, t1⟩ := hq 1 _ rfl
      obtain ⟨v2, y2, k2, -, t2⟩ := hq 2 _ rfl
      obtain ⟨v3, y3, k3, -, t3⟩ := hq 3 _ rfl
      obtain ⟨v4, y4, k4, -, t4⟩ := hq 4 _ rfl
      obtain ⟨v5, y5, k5, -, t5⟩ := hq 5 _ rfl
      obtain ⟨v6, y6, k6, -, t6⟩ := hq 6 _ rfl
      obtain ⟨v7, y7, k7, -, t7⟩ := hq 7 _ rfl
      obtain ⟨v8, y8, k8, -, t8⟩ := hq 8 _ rfl
      obtain ⟨v9, y9, k9, -, t9⟩ := hq 9 _ rfl
      obtain ⟨f, e0, _, w0⟩ := DataW.trod_int Try.underlying3 t0
      obtain ⟨t, e1, _, w1⟩ := DataW.trod_int Try.underlying3 t1
      obtain ⟨k, e2, _, w2⟩ := DataW.trod_int Try.underlying5 t2
      obtain ⟨g, e3, _, w3⟩ := DataW.trod_int Try.underlying3 t3
      obtain ⟨s, e4, _, w4⟩ := DataW.trod_int Try.underlying3 t4
      obtain ⟨b, e5, _, w5⟩ := DataW.trod_int Try.underlying3 t5
      obtain ⟨p, e6, _, w6⟩ := DataW.trod_int Try.underlying3 t6
      obtain ⟨u, e7, _, w7⟩ := DataW.trod_string Try.underlying9 t7
      obtain ⟨i', e8, _, w8⟩ := DataW.trod_int Try.underlying3 t8
      obtain ⟨tm, e9, _, w9⟩ := DataW.trod_int Try.underlying3 t9
      simp at e0 e1 e2 e3 e4 e5 e6 e7 e8 e9
      subst e0 e1 e2 e3 e4 e5 e6 e7 e8 e9
      have w7b := w7
      unfold maxLen at w7b
      refine ⟨⟨f, t, k, g, s, b, p, u.data.toList, i', tm⟩, ⟨bounds_u8 w2, by show u.data.toList.length ≤ _; rw [size_data]; omega, bounds_i64 w0, bounds_i64 w1, bounds_i64 w3, bounds_i64 w4, bounds_i64 w5, bounds_i64 w6, bounds_i64 w8, bounds_i64 w9⟩, ?_⟩
      intro j z hz
      have hj : j < 10 := by have := (List.getElem?_eq_some_iff.1 hz).1; rwa [mcells_length] at this
      obtain rfl | rfl | rfl | rfl | rfl | rfl | rfl | rfl | rfl | rfl : j = 0 ∨ j = 1 ∨ j = 2 ∨ j = 3 ∨ j = 4 ∨ j = 5 ∨ j = 6 ∨ j = 7 ∨ j = 8 ∨ j = 9 := by omega
      · injection hz with hz; subst hz; exact k0
      · injection hz with hz; subst hz; exact k1
      · injection hz with hz; subst hz; exact k2
      · injection hz with hz; subst hz; exact k3
      · injection hz with hz; subst hz; exact k4
      · injection hz with hz; subst hz; exact k5
      · injection hz with hz; subst hz; exact k6
      · injection hz with hz; subst hz; rw [S_of]; exact k7
      · injection hz with hz; subst hz; exact k8
      · injection hz with hz; subst hz; exact k9)
    have hget : ∀ k z, ((List.range len).map f)[k]? = some z → k < len ∧ z = f k := by
      intro k z hz
      simp only [List.getElem?_map] at hz
      by_cases hk : k < len
      · rw [List.getElem?_range hk] at hz
        simp at hz
        exact ⟨hk, hz.symm⟩
      · rw [List.getElem?_eq_none (by simp; omega)] at hz
        cases hz
    refine ⟨some x, len, cap, (List.range len).map f, rfl, reads_mails (by simp) (fun k z hz i u hu => ?_), hl, hm, fun z hz => ?_⟩
    · obtain ⟨hk, rfl⟩ := hget k z hz
      exact (hff k hk).2 i u hu
    · obtain ⟨k, hk⟩ := List.mem_iff_getElem?.1 hz
      obtain ⟨hkl, rfl⟩ := hget k z hk
      exact (hff k hkl).1
end Go.Proofs.Ytmchnjnknnolmaa
