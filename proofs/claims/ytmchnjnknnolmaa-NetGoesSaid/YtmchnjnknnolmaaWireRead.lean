/-
  wire.Read: its closure by a contract of its own: what is left of the bytes lies in a box, and whether all was well in another one.
-/
import Derived.Test.YtmchnjnknnolmaaWireWrite
import Derived.Test.YtmchnjnknnolmaaRecordRead
namespace Go.Proofs.Ytmchnjnknnolmaa
open Go.RowKit Bal
set_option maxHeartbeats 4000000
set_option maxRecDepth 100000
set_option linter.unusedVariables false
set_option linter.unusedSimpArgs false

/-- Two blocks alone have turned; nothing is new. -/
def Only2 (a b : Nat) (w w' : World) : Prop := w'.os = w.os ∧ w'.tape = w.tape ∧ w'.output = w.output ∧ w'.heap.size = w.heap.size ∧ ∀ g, g ≠ a → g ≠ b → w'.heap[g]? = w.heap[g]?
theorem Only2.below {a b B : Nat} {w w' : World} (h : Only2 a b w w') (ha : B ≤ a) (hb : B ≤ b) : Below B w w' :=
  ⟨h.1, h.2.1, h.2.2.1, Nat.le_of_eq h.2.2.2.1.symm, fun k hk => h.2.2.2.2 k (by omega) (by omega)⟩
theorem Only2.blk {a b g : Nat} {t : TypeId} {cs : Array Value} {w w' : World} (h : Only2 a b w w') (hb : Blk w g t cs) (h1 : g ≠ a) (h2 : g ≠ b) : Blk w' g t cs := (h.2.2.2.2 g h1 h2).trans hb
theorem Only2.cv {a b g cap : Nat} {s : ByteArray} {w w' : World} (h : Only2 a b w w') (hb : CvB w g s cap) (h1 : g ≠ a) (h2 : g ≠ b) : CvB w' g s cap := (h.2.2.2.2 g h1 h2).trans hb
theorem Only2.refl (a b : Nat) (w : World) : Only2 a b w w := ⟨rfl, rfl, rfl, rfl, fun _ _ _ => rfl⟩
theorem Only2.set1 {a b : Nat} {w w' : World} (h : Only2 a b w w') (u : Value) : Only2 a b w (w'.setCell ⟨a, 0, none⟩ u) :=
  ⟨h.1, h.2.1, h.2.2.1, (by rw [← h.2.2.2.1]; simp [World.setCell]), fun g h1 h2 => (Below.heap_setCell w' ⟨a, 0, none⟩ u g h1).trans (h.2.2.2.2 g h1 h2)⟩
theorem Only2.set2 {a b : Nat} {w w' : World} (h : Only2 a b w w') (u : Value) : Only2 a b w (w'.setCell ⟨b, 0, none⟩ u) :=
  ⟨h.1, h.2.1, h.2.2.1, (by rw [← h.2.2.2.1]; simp [World.setCell]), fun g h1 h2 => (Below.heap_setCell w' ⟨b, 0, none⟩ u g h2).trans (h.2.2.2.2 g h1 h2)⟩
theorem Only2.drew {a b : Nat} {w w' : World} (h : Only2 a b w w') : Only2 a b w w'.drew := h

/-- What the two boxes hold behind a reading, in whichever order they were written. -/
theorem two_set (gb gk : Nat) (w : World) (x x' y y' : Value) (h1 : Blk w gb 75 #[x]) (h2 : Blk w gk 4 #[y]) :
    (Blk ((w.setCell ⟨gb, 0, none⟩ x').setCell ⟨gk, 0, none⟩ y') gb 75 #[x'] ∧ Blk ((w.setCell ⟨gb, 0, none⟩ x').setCell ⟨gk, 0, none⟩ y') gk 4 #[y'] ∧ Only2 gb gk w ((w.setCell ⟨gb, 0, none⟩ x').setCell ⟨gk, 0, none⟩ y')) ∧
    (Blk ((w.setCell ⟨gk, 0, none⟩ y').setCell ⟨gb, 0, none⟩ x') gb 75 #[x'] ∧ Blk ((w.setCell ⟨gk, 0, none⟩ y').setCell ⟨gb, 0, none⟩ x') gk 4 #[y'] ∧ Only2 gb gk w ((w.setCell ⟨gk, 0, none⟩ y').setCell ⟨gb, 0, none⟩ x')) := by
  have n12 := h1.ne_ h2 (by decide)
  have a1 : Blk (w.setCell ⟨gb, 0, none⟩ x') gb 75 #[x'] := by simpa using h1.set_ 0 x'
  have a2 : Blk (w.setCell ⟨gb, 0, none⟩ x') gk 4 #[y] := h2.far (Ne.symm n12) x'
  have b1 : Blk (w.setCell ⟨gk, 0, none⟩ y') gb 75 #[x] := h1.far n12 y'
  have b2 : Blk (w.setCell ⟨gk, 0, none⟩ y') gk 4 #[y'] := by simpa using h2.set_ 0 y'
  refine ⟨⟨a1.far n12 y', by simpa using a2.set_ 0 y', ((Only2.refl _ _ _).set1 _).set2 _⟩, ⟨by simpa using b1.set_ 0 x', b2.far (Ne.symm n12) x', ((Only2.refl _ _ _).set2 _).set1 _⟩⟩

end Go.Proofs.Ytmchnjnknnolmaa
