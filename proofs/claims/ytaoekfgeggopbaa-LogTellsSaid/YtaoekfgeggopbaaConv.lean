/-
  The conversion of a text to bytes: a new row that reads as the text's bytes; its world and its capacity under names.
-/
import Derived.Test.YtaoekfgeggopbaaAppB
namespace Go.Proofs.Ytaoekfgeggopbaa
open Go.RowKit

def convC (w : World) (s : ByteArray) : Nat := grownCap w s.size 0 5
def convW (w : World) (s : ByteArray) : World := w.drew.alloc (.cells (bytesRow s (convC w s)) 5 ((bytesRow s (convC w s)).size, (bytesRow s (convC w s)).size + 1))
theorem run_conv_to (w : World) (s : ByteArray) : (convert 9 46 (.string s)).run Try.prog w = .ok (.slice (some ⟨w.heap.size, 0, none⟩) s.size (convC w s)) (convW w s) :=
  run_bytes_of_string w 9 46 5 s Try.underlying9 Try.underlying46 Try.underlying5
@[go_sem] theorem convW_size (w : World) (s : ByteArray) : (convW w s).heap.size = w.heap.size + 1 := by
  show (w.drew.heap.push _).size = _
  simp
theorem convW_below (w : World) (s : ByteArray) : Below w.heap.size w (convW w s) := (Below.refl _ _).drew.alloc (Nat.le_refl _) _
theorem convC_ge (w : World) (s : ByteArray) : s.size ≤ convC w s := grownCap_ge _ _ _ _
theorem convC_le (w : World) (s : ByteArray) (h : s.size ≤ maxLen) : convC w s ≤ maxLen := grownCap_le_maxLen _ _ _ _ h
theorem convW_reads (w : World) (s : ByteArray) : Reads (convW w s) (w.heap.size + 1) 1 (some ⟨w.heap.size, 0, none⟩) s.size (cb s.data.toList) := by
  have hsz := size_data s
  refine ⟨by rw [cb_length]; omega, fun _ => ⟨⟨w.heap.size, 0, none⟩, rfl, by simp, fun j u hu => ?_⟩⟩
  have hadd : (⟨w.heap.size, 0, none⟩ : Addr).add j = ⟨w.heap.size, j, none⟩ := by unfold Addr.add; split <;> simp_all
  rw [hadd]
  have hc := World.cell?_alloc_mark w.drew (bytesRow s (convC w s)) 5 ((bytesRow s (convC w s)).size, (bytesRow s (convC w s)).size + 1) j
  have hh : w.drew.heap.size = w.heap.size := rfl
  rw [hh] at hc
  show (convW w s).cell? _ = _
  rw [convW, hc]
  rw [cb_get] at hu
  have hj : j < s.data.toList.length := by
    rcases Nat.lt_or_ge j s.data.toList.length with h | h
    · exact h
    · rw [List.getElem?_eq_none h] at hu; cases hu
  have hj2 : j < s.data.size := by simpa using hj
  rw [bytesRow_at s _ j hj2, ← hu, List.getElem?_eq_getElem hj]
  simp
/-- What is owned stays so while new memory is laid. -/
theorem own_kept {w w' : World} {base n size : Nat} {e : TypeId} {v : Value} {xs : List Value} (h : w.ownsRow base e size v n xs) (hb : Below w.heap.size w w') : w'.ownsRow base e size v n xs := by
  refine ⟨h.1, ?_⟩
  rcases h.2 with h2 | ⟨g, cap, cur, hv, hg, hh, r⟩
  · exact Or.inl h2
  · exact Or.inr ⟨g, cap, cur, hv, hg, (hb.block g (by
      rcases Nat.lt_or_ge g w.heap.size with hlt | hge
      · exact hlt
      · rw [Array.getElem?_eq_none hge] at hh; cases hh)).trans hh, r⟩
end Go.Proofs.Ytaoekfgeggopbaa
