/-
  A disk that comes in: its rows, and how long they may be (the form's own reach).
-/
import Derived.Test.YthmbjmknifkbaaaDiskMem
import Derived.Test.YthmbjmknifkbaaaOpen
import Derived.Deep.Slices
import Derived.Deep.Fields
import Derived.ChangeSame
import Derived.SizedLaws
namespace Go.Proofs.Ythmbjmknifkbaaa
open Go.RowKit
set_option maxRecDepth 100000
set_option linter.unusedVariables false
set_option linter.unusedSimpArgs false

section
open Go.Joins Go.ChangeShapes Go.WideShapes Go.Deep
variable {H : Type} {enc : TypeId × Value → H} {P : Program} {w : World} {base : Nat} {spare : Nat → Bool} {held : Bool}
theorem open_slice_fields' {t e : TypeId} {fs : Array Field} {fuel : Nat} {cs : List Value} {x : DataW H × List MemPlace} (ht : P.underlying t = some (.slice e)) (he : P.underlying e = some (.struct fs))
    (hone : oneCellFields P fs = true) (hC : P.cellsOf e = fs.size) (h : DataW.trod enc P w base spare held fuel t cs = some x) :
    (cs = [.slice none 0 0] ∧ x = (.nil, [])) ∨
    ∃ (a : Addr) (len cap m : Nat) (D : Nat → DataW H) (Pl : Nat → List MemPlace), cs = [.slice (some a) len cap] ∧ base ≤ a.block ∧ len ≤ cap ∧ cap ≤ maxLen ∧ m = (if spare a.block then cap else len) ∧
      x = (.slice ((List.range len).map D) ((List.range (m - len)).map fun j => D (len + j)), MemPlace.row a (m * fs.size) ++ (List.range m).flatMap Pl) ∧
      ∀ i, i < m → ∃ (ys : List (DataW H × List MemPlace)) (n : Nat), D i = .agg (ys.map (·.1)) ∧ Pl i = ys.flatMap (·.2) ∧ ys.length = fs.size ∧
        ∀ (j : Nat) (f : Field), fs[j]? = some f → ∃ (v : Value) (y : DataW H × List MemPlace), w.cell? (a.add (i * fs.size + j)) = some v ∧ ys[j]? = some y ∧ DataW.trod enc P w base spare held n f.type [v] = some y := by
  rcases open_slice ht h with h0 | ⟨a, len, cap, m, n, D, Pl, hcs, hb, hl, hm, hmm, hx, hi⟩
  · exact .inl h0
  · refine .inr ⟨a, len, cap, m, D, Pl, hcs, hb, hl, hm, hmm, by rw [hC] at hx; exact hx, fun i him => ?_⟩
    obtain ⟨cs', hc, ht'⟩ := hi i him
    rw [hC] at hc
    obtain ⟨ys, n', hn', hy, hlen, hyl, hf⟩ := DataW.trod_struct he ht'
    obtain ⟨_, hcl, hat⟩ := World.cells?_some hc
    simp only [Prod.mk.injEq] at hy
    refine ⟨ys, n', hy.1, hy.2, hyl, fun j f hj => ?_⟩
    obtain ⟨ho, hk⟩ := hone_of hone j f hj
    have hjl : j < fs.size := (Array.getElem?_eq_some_iff.1 hj).1
    have hcell := hat j hjl
    have hv : cs'[j]? = some (cs'[j]'(by omega)) := List.getElem?_eq_getElem (by omega)
    have h1 := hf j f hj
    rw [ho, hk] at h1
    have hone' : (cs'.drop j).take 1 = [cs'[j]'(by omega)] := by
      rw [List.drop_eq_getElem_cons (by omega)]
      rfl
    rw [hone'] at h1
    have hys : ys[j]? = some (ys[j]'(by omega)) := List.getElem?_eq_getElem (by omega)
    refine ⟨_, _, ?_, hys, h1.trans hys⟩
    rw [← Go.Deep.add_add, hcell, hv]
end

theorem choose_n' {α : Type} [Inhabited α] {n : Nat} {p : Nat → α → Prop} (h : ∀ i, i < n → ∃ x, p i x) : ∃ f : Nat → α, ∀ i, i < n → p i (f i) :=
  ⟨fun i => if hi : i < n then Classical.choose (h i hi) else default, fun i hi => by simp only [dif_pos hi]; exact Classical.choose_spec (h i hi)⟩

theorem reads_puts {w : World} {a : Addr} {n : Nat} {l : List HP} (hl : l.length = n) (hc : ∀ k m, l[k]? = some m → ∀ i u, (hcells m)[i]? = some u → w.cell? (a.add (k * 2 + i)) = some u) : Reads w w.heap.size 2 (some a) n (hp l) := by
  refine ⟨by rw [hp_length, hl], fun hp' => ⟨a, rfl, ?_, fun j u hu => ?_⟩⟩
  · have h0 : 0 < l.length := by omega
    have := hc 0 l[0] (List.getElem?_eq_getElem h0) 0 _ rfl
    have := World.block_lt_of_cell? w _ this
    rwa [block_of_add] at this
  · have hj : j < l.length * 2 := by
      have := (List.getElem?_eq_some_iff.1 hu).1
      rwa [hp_length] at this
    have hk : j / 2 < l.length := by omega
    have e : j / 2 * 2 + j % 2 = j := by omega
    have hu2 := hp_get l (j / 2) l[j / 2] (j % 2) (List.getElem?_eq_getElem hk) (by omega)
    rw [e, hu] at hu2
    have := hc (j / 2) _ (List.getElem?_eq_getElem hk) (j % 2) u hu2.symm
    rwa [e] at this

section
open Go.Joins Go.ChangeShapes Go.WideShapes Go.Deep
variable {H : Type} {enc : TypeId × Value → H} {P : Program} {w : World} {base : Nat} {held : Bool}
theorem weights_mem_all : ∀ {ds : List (DataW H)} {d : DataW H} {e : TypeId}, d ∈ ds → ∀ n ∈ d.weights P e, n ∈ DataW.weightsAll P e ds
  | [], _, _, h, _, _ => by cases h
  | d0 :: ds, d, e, h, n, hn => by
    simp only [DataW.weightsAll, List.mem_append]
    rcases List.mem_cons.1 h with rfl | h
    · exact Or.inl hn
    · exact Or.inr (weights_mem_all h n hn)
theorem bytes_trod_sized {fuel : Nat} {t e : TypeId} {v : Value} {y : DataW H × List MemPlace} (ht : P.underlying t = some (.slice e)) (he : P.underlying e = some (.int .u8)) (hc : P.cellsOf e = 1) (hby : P.bytesOf e = 1)
    (hf : DataW.trod enc P w base (fun _ => true) held fuel t [v] = some y) (hw : ∀ n ∈ y.1.weights P t, n ≤ reachBytes) :
    ∃ (a : Option Addr) (len cap : Nat) (l : List UInt8), v = .slice a len cap ∧ IsBytes w a len cap l ∧ cap ≤ 140737488351232 := by
  obtain ⟨a, len, cap, l, rfl, hb⟩ := bytes_trod ht he hc hf
  refine ⟨a, len, cap, l, rfl, hb, ?_⟩
  rcases open_slice ht hf with ⟨hcs, _⟩ | ⟨x, l', c', m, n, D, Pl, hcs, _, hl, hm, hmm, hx, _⟩
  · simp at hcs
    omega
  · simp at hcs
    obtain ⟨_, rfl, rfl⟩ := hcs
    have h1 := hw (((List.range len).map D).length * 1 + (cap - len)) (by
      rw [hx]
      simp only [DataW.weights, ht, hby, List.length_map, List.length_range, Nat.mul_one]
      refine List.mem_cons.2 (Or.inl ?_)
      rw [hmm]
      simp)
    simp only [List.length_map, List.length_range, Nat.mul_one] at h1
    have h2 : reachBytes = 140737488351232 := by decide
    omega
end

instance : Inhabited HP := ⟨⟨false, none, 0, 0, []⟩⟩
open Go.ChangeShapes Go.WideShapes Go.Joins in
theorem puts_trod {H : Type} {enc : TypeId × Value → H} {w : World} {base : Nat} {held : Bool} {fuel : Nat} {v : Value} {y : DataW H × List MemPlace}
    (hf : DataW.trod enc Try.prog w base (fun _ => true) held fuel 23 [v] = some y) (hw : ∀ n ∈ y.1.weights Try.prog 23, n ≤ reachBytes) :
    ∃ (a : Option Addr) (len cap : Nat) (l : List HP), v = .slice a len cap ∧ Reads w w.heap.size 2 a len (hp l) ∧ len ≤ cap ∧ cap ≤ maxLen ∧ len ≤ 140737488351232 ∧ ∀ p ∈ l, PutAt w w.heap.size p := by
  have h47 : reachBytes = 140737488351232 := by decide
  have hpb : (Try.prog.bytesOf 42) = 32 := by kernel_rfl
  rcases open_slice_fields' Try.underlying23 Try.underlying42 (by kernel_rfl) (by kernel_rfl) hf with ⟨hcs, _⟩ | ⟨x, len, cap, m, D, Pl, hcs, _, hl, hm, hmm, hx, hi⟩
  · obtain rfl : v = .slice none 0 0 := by simpa using hcs
    exact ⟨none, 0, 0, [], rfl, Reads.none_, Nat.le_refl _, Nat.zero_le _, Nat.zero_le _, by simp⟩
  · obtain rfl : v = .slice (some x) len cap := by simpa using hcs
    have hml : m = cap := by rw [hmm]; simp
    subst hml
    have hW : ∀ i, i < len → ∀ n ∈ (D i).weights Try.prog 42, n ≤ reachBytes := by
      intro i hil n hn
      refine hw n ?_
      rw [hx]
      simp only [DataW.weights, Try.underlying23]
      exact List.mem_cons.2 (Or.inr (List.mem_append.2 (Or.inl (weights_mem_all (List.mem_map.2 ⟨i, List.mem_range.2 hil, rfl⟩) n hn))))
    have hlen : len ≤ 140737488351232 := by
      have h1 := hw ((len + (m - len)) * 32) (by
        rw [hx]
        simp only [DataW.weights, Try.underlying23, hpb, List.length_map, List.length_range]
        exact List.mem_cons.2 (Or.inl rfl))
      omega
    obtain ⟨f, hff⟩ := choose_n' (n := len) (p := fun i (z : HP) => PutAt w w.heap.size z ∧ ∀ j u, (hcells z)[j]? = some u → w.cell? (x.add (i * 2 + j)) = some u) (by
      intro i hil
      obtain ⟨ys, n, hD, -, -, hq⟩ := hi i (by omega)
      obtain ⟨v0, y0, k0, g0, t0⟩ := hq 0 _ rfl
      obtain ⟨v1, y1, k1, g1, t1⟩ := hq 1 _ rfl
      obtain ⟨sw, rfl⟩ : ∃ sw, v0 = .bool sw := by
        obtain ⟨b, e, _⟩ := DataW.trod_bool Try.underlying4 t0
        exact ⟨b, by simpa using e⟩
      have hw1 : ∀ n ∈ y1.1.weights Try.prog 22, n ≤ reachBytes := by
        intro n hn
        refine hW i hil n ?_
        rw [hD]
        simp only [DataW.weights, Try.underlying42]
        exact DataW.weights_mem_each (j := 1) (t := 22) (d := y1.1) rfl (by rw [List.getElem?_map, g1]; rfl) n hn
      obtain ⟨A, n1, c1, l1, rfl, hb, hcap⟩ := bytes_trod_sized Try.underlying22 Try.underlying5 (by kernel_rfl) (by kernel_rfl) t1 hw1
      refine ⟨⟨sw, A, n1, c1, l1⟩, ⟨hb.1, hb.2.1, hb.2.2, by have := hb.2.1; show n1 ≤ _; omega⟩, ?_⟩
      intro j z hz
      have hj : j < 2 := by have := (List.getElem?_eq_some_iff.1 hz).1; rwa [hcells_length] at this
      obtain rfl | rfl : j = 0 ∨ j = 1 := by omega
      · injection hz with hz; subst hz; exact k0
      · injection hz with hz; subst hz; exact k1)
    have hget : ∀ k z, ((List.range len).map f)[k]? = some z → k < len ∧ z = f k := by
      intro k z hz
      simp only [List.getElem?_map] at hz
      by_cases hk : k < len
      · rw [List.getElem?_range hk] at hz
        simp at hz
        exact ⟨hk, hz.symm⟩
      · rw [List.getElem?_eq_none (by simp; omega)] at hz
        cases hz
    refine ⟨some x, len, m, (List.range len).map f, rfl, reads_puts (by simp) (fun k z hz i u hu => ?_), hl, hm, hlen, fun z hz => ?_⟩
    · obtain ⟨hk, rfl⟩ := hget k z hz
      exact (hff k hk).2 i u hu
    · obtain ⟨k, hk⟩ := List.mem_iff_getElem?.1 hz
      obtain ⟨hkl, rfl⟩ := hget k z hk
      exact (hff k hkl).1

theorem cellsDisk : Try.prog.cellsOf 25 = 2 := by kernel_rfl
open Go.ChangeShapes Go.WideShapes Go.Joins in
theorem open_disk {H : Type} {enc : TypeId × Value → H} {w : World} {base : Nat} {held : Bool} {r : Reach} {b0 : Nat} {v : Value} {d : DataW H} {ps : List MemPlace}
    (hv : Value.okWide Try.prog w r b0 25 v) (h : DataW.Trod enc Try.prog w base (fun _ => true) held 25 v d ps) (hw : ∀ n ∈ d.weights Try.prog 25, n ≤ reachBytes) :
    ∃ D : HD, v = .agg #[.slice D.A D.n D.c, .slice D.WA D.Wn D.Wc] ∧ DiskAt w w.heap.size D := by
  obtain ⟨c0, c1, y0, y1, k, rfl, rfl, _, hy0, hy1⟩ := open_agg2 Try.underlying25 (by kernel_rfl) cellsDisk hv h
  have hw0 : ∀ n ∈ y0.1.weights Try.prog 22, n ≤ reachBytes := by
    intro n hn
    refine hw n ?_
    simp only [DataW.weights, Try.underlying25]
    exact DataW.weights_mem_each (j := 0) (t := 22) (d := y0.1) rfl rfl n hn
  have hw1 : ∀ n ∈ y1.1.weights Try.prog 23, n ≤ reachBytes := by
    intro n hn
    refine hw n ?_
    simp only [DataW.weights, Try.underlying25]
    exact DataW.weights_mem_each (j := 1) (t := 23) (d := y1.1) rfl rfl n hn
  obtain ⟨A, n, c, l, rfl, hb, hcap⟩ := bytes_trod_sized Try.underlying22 Try.underlying5 (by kernel_rfl) (by kernel_rfl) hy0 hw0
  obtain ⟨A', n', c', l', rfl, h1, h2, h3, h4, h5⟩ := puts_trod hy1 hw1
  exact ⟨⟨A, n, c, l, A', n', c', l'⟩, rfl, hb.1, h1, hb.2.1, hb.2.2, h2, h3, by have := hb.2.1; show n ≤ _; omega, h4, h5⟩
open Go.ChangeShapes Go.WideShapes Go.Joins in
/-- Bytes that come in, and how many there may be. -/
theorem open_bytes_sized {H : Type} {enc : TypeId × Value → H} {w : World} {base : Nat} {held : Bool} {r : Reach} {b0 : Nat} {v : Value} {d : DataW H} {ps : List MemPlace}
    (hv : Value.okWide Try.prog w r b0 22 v) (h : DataW.Trod enc Try.prog w base (fun _ => true) held 22 v d ps) (hw : ∀ n ∈ d.weights Try.prog 22, n ≤ reachBytes) :
    ∃ (a : Option Addr) (len cap : Nat) (l : List UInt8), v = .slice a len cap ∧ IsBytes w a len cap l ∧ cap ≤ 140737488351232 := by
  obtain ⟨a, len, cap, rfl⟩ := okWide_slice Try.underlying22 hv
  obtain ⟨fuel, hf⟩ := h
  exact bytes_trod_sized (y := (d, ps)) Try.underlying22 Try.underlying5 (by kernel_rfl) (by kernel_rfl) (by simpa [Value.cells] using hf) hw
end Go.Proofs.Ythmbjmknifkbaaa
