/-
  wire.Write: its closure by a contract of its own, and the call's answer.
-/
import Derived.Test.YtmchnjnknnolmaaWireCheckW
import Derived.Test.YtmchnjnknnolmaaNumPut
namespace Go.Proofs.Ytmchnjnknnolmaa
open Go.RowKit Bal
set_option maxHeartbeats 8000000
set_option maxRecDepth 100000
set_option linter.unusedVariables false
set_option linter.unusedSimpArgs false

/-- A text's bytes, in a block of their own. -/
def CvB (w : World) (g : Nat) (s : ByteArray) (cap : Nat) : Prop := w.heap[g]? = some (.cells (bytesRow s cap) 5 ((bytesRow s cap).size, (bytesRow s cap).size + 1))
theorem CvB.new (w : World) (s : ByteArray) : CvB (convW w s) w.heap.size s (convC w s) := by
  show (w.heap.push _)[w.heap.size]? = _
  simp
theorem CvB.lt {w : World} {g cap : Nat} {s : ByteArray} (h : CvB w g s cap) : g < w.heap.size := by
  rcases Nat.lt_or_ge g w.heap.size with hlt | hge
  · exact hlt
  · unfold CvB at h; rw [Array.getElem?_eq_none hge] at h; cases h
theorem CvB.below {w w' : World} {g cap B : Nat} {s : ByteArray} (h : CvB w g s cap) (hb : Below B w w') (hg : g < B) : CvB w' g s cap := (hb.block g hg).trans h
theorem CvB.far {w : World} {g cap : Nat} {s : ByteArray} (h : CvB w g s cap) {p : Addr} (hp : g ≠ p.block) (u : Value) : CvB (w.setCell p u) g s cap := (Below.heap_setCell w p u g hp).trans h
theorem CvB.ne_ {w : World} {g g' cap : Nat} {s : ByteArray} {t : TypeId} {cs : Array Value} (h : CvB w g s cap) (h' : Blk w g' t cs) : g ≠ g' := by
  rintro rfl
  unfold CvB at h
  unfold Blk at h'
  rw [h] at h'
  injection h' with h'
  injection h' with _ _ h'
  injection h' with h1 h2
  omega
theorem CvB.own_ne {w : World} {g cap base n : Nat} {s : ByteArray} {v : Value} {xs : List Value} {e : TypeId} (h : CvB w g s cap) (o : w.ownsRow base e 1 v n xs) : some g ≠ v.ownBlock := by
  rcases o.2 with ⟨rfl, _⟩ | ⟨g', c', cur, rfl, _, hh, _⟩
  · simp [Value.ownBlock]
  · intro he
    have hx : g = g' := by simpa [Value.ownBlock] using he
    subst hx
    exact CvB.ne_ h (show Blk w g e cur from hh) rfl
theorem CvB.grown {w w' : World} {g cap : Nat} {s : ByteArray} {row : Option Nat} (h : CvB w g s cap) (hg : w.grownBy w' row) (hne : some g ≠ row) : CvB w' g s cap := (hg.block g h.lt hne).trans h
theorem CvB.cell {w : World} {g cap : Nat} {s : ByteArray} (h : CvB w g s cap) (j : Nat) (hj : j < s.data.toList.length) : w.cell? ⟨g, j, none⟩ = some (.int .u8 ((s.data.toList[j]).toNat : Int)) := by
  unfold CvB at h
  have hj2 : j < s.data.size := by simpa using hj
  have := bytesRow_at s cap j hj2
  rw [cell_of_row w g j _ _ _ h, this]
  simp

/-- What was written so far, and the mail's own box. -/
def MSt (w0 : World) (gm gb : Nat) (M : Array Value) (l : List UInt8) (w : World) : Prop :=
  ∃ v, Blk w gb 75 #[v] ∧ w.ownsRow w0.heap.size 5 1 v l.length (cb l) ∧ Blk w gm 25 M ∧ Below w0.heap.size w0 w ∧ w0.heap.size ≤ gb
theorem MSt.below {w0 w w' : World} {gm gb : Nat} {M : Array Value} {l : List UInt8} (h : MSt w0 gm gb M l w) (hb : Below w.heap.size w w') : MSt w0 gm gb M l w' := by
  obtain ⟨v, h1, h2, h4, h5, h6⟩ := h
  exact ⟨v, h1.below hb h1.lt, own_kept h2 hb, h4.below hb h4.lt, h5.trans (hb.mono h5.size), h6⟩
theorem MSt.mail {w0 w : World} {gm gb : Nat} {M : Array Value} {l : List UInt8} (h : MSt w0 gm gb M l w) : Blk w gm 25 M := by
  obtain ⟨v, h1, h2, h4, h5, h6⟩ := h
  exact h4
/-- What else lies there, and stays while bytes are added. -/
def Stays (gb : Nat) (w w' : World) : Prop := (∀ (g : Nat) (t : TypeId) (cs : Array Value), t ≠ 5 → t ≠ 75 → Blk w g t cs → Blk w' g t cs) ∧ ∀ (g : Nat) (s : ByteArray) (cap : Nat), CvB w g s cap → CvB w' g s cap

theorem MSt.add {w0 w w1 : World} {gm gb : Nat} {M : Array Value} {l x : List UInt8} {v v' : Value} {m : Nat} (h1 : Blk w gb 75 #[v]) (h2 : w.ownsRow w0.heap.size 5 1 v l.length (cb l))
    (h4 : Blk w gm 25 M) (h5 : Below w0.heap.size w0 w) (h6 : w0.heap.size ≤ gb) (hx : x.length = m)
    (o : w1.ownsRow w0.heap.size 5 1 v' (l.length + m) (cb (l ++ x))) (hg : Grew w w1 v v') : MSt w0 gm gb M (l ++ x) (w1.setCell ⟨gb, 0, none⟩ v') ∧ Stays gb w (w1.setCell ⟨gb, 0, none⟩ v') := by
  have k1 := h1.grown hg.1 (Ne.symm (own_blk_ne h2 h1 (by decide)))
  have k4 := h4.grown hg.1 (Ne.symm (own_blk_ne h2 h4 (by decide)))
  have n14 : gm ≠ gb := k4.ne_ k1 (by decide)
  have q1 : Blk (w1.setCell ⟨gb, 0, none⟩ v') gb 75 #[v'] := by simpa using k1.set_ 0 v'
  refine ⟨⟨v', q1, ?_, k4.far n14 v', ?_, h6⟩, ?_, ?_⟩
  · rw [List.length_append, hx]
    exact ownsRow_setCell_other o (a := ⟨gb, 0, none⟩) (own_blk_ne o k1 (by decide)) v'
  · have b1 : Below w0.heap.size w w1 := hg.below h5.size fun k hk => (h2.lt k hk).1
    exact (h5.trans b1).setCell h6 _
  · intro g t cs t1 t2 hb
    have hb1 := hb.grown hg.1 (Ne.symm (own_blk_ne h2 hb (Ne.symm t1)))
    exact hb1.far (hb1.ne_ k1 t2) v'
  · intro g s cap hb
    have hb1 := hb.grown hg.1 (hb.own_ne h2)
    exact hb1.far (hb1.ne_ k1) v'
theorem Stays.after {gb : Nat} {w w1 w2 : World} (h : Below w.heap.size w w1) (k : Stays gb w1 w2) : Stays gb w w2 :=
  ⟨fun g t cs t1 t2 hb => k.1 g t cs t1 t2 (hb.below h hb.lt), fun g s cap hb => k.2 g s cap (hb.below h hb.lt)⟩

end Go.Proofs.Ytmchnjnknnolmaa
