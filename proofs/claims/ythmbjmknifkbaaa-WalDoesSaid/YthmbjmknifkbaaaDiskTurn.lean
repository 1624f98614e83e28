/-
  The statements of layer 3: turn, which turns all bytes of a disk of the call's own: the blocks outside the disk's own stay as they are.
-/
import Derived.Test.YthmbjmknifkbaaaDiskSome
namespace Go.Proofs.Ythmbjmknifkbaaa
open Go.RowKit
set_option maxHeartbeats 8000000
set_option maxRecDepth 100000
set_option linter.unusedVariables false
set_option linter.unusedSimpArgs false

/-- What differs lies between two blocks. -/
structure Touch (lo hi : Nat) (w w' : World) : Prop where
  os : w'.os = w.os
  tape : w'.tape = w.tape
  output : w'.output = w.output
  size : w.heap.size ≤ w'.heap.size
  block : ∀ i, i < w.heap.size → (i < lo ∨ hi ≤ i) → w'.heap[i]? = w.heap[i]?
section
variable {lo hi : Nat} {a b c : World}
theorem Touch.of_below {B : Nat} (h : Below B a b) (hB : a.heap.size ≤ B) : Touch lo hi a b := ⟨h.os, h.tape, h.output, h.size, fun i hi _ => h.block i (by omega)⟩
theorem Touch.drew (h : Touch lo hi a b) : Touch lo hi a b.drew := ⟨h.os, h.tape, h.output, h.size, h.block⟩
theorem Touch.setCell (h : Touch lo hi a b) {p : Addr} (h1 : lo ≤ p.block) (h2 : p.block < hi) (u : Value) : Touch lo hi a (b.setCell p u) :=
  ⟨h.os, h.tape, h.output, by simpa [World.setCell] using h.size, fun i hi hq => (Below.heap_setCell b p u i (by omega)).trans (h.block i hi hq)⟩
theorem Touch.cell (h : Touch lo hi a b) {p : Addr} (h1 : p.block < a.heap.size) (h2 : p.block < lo ∨ hi ≤ p.block) : b.cell? p = a.cell? p := World.cell?_of_block (h.block p.block h1 h2)
theorem Touch.blk {g : Nat} {t : TypeId} {cs : Array Value} (h : Touch lo hi a b) (k : Blk a g t cs) (h2 : g < lo ∨ hi ≤ g) : Blk b g t cs := (h.block g k.lt h2).trans k
theorem Touch.below (h : Touch lo hi a b) {B : Nat} (hB : B ≤ lo) (hs : B ≤ a.heap.size) : Below B a b := ⟨h.os, h.tape, h.output, h.size, fun i hi => h.block i (by omega) (Or.inl (by omega))⟩
end
/-- All rows of a disk lie in blocks between the two. -/
structure InD (lo hi : Nat) (D : HD) : Prop where
  data : ∀ g, (Value.slice D.A D.n D.c).ownBlock = some g → lo ≤ g ∧ g < hi
  wait : ∀ g, (Value.slice D.WA D.Wn D.Wc).ownBlock = some g → lo ≤ g ∧ g < hi
  all : ∀ p ∈ D.l, ∀ g, (Value.slice p.A p.n p.c).ownBlock = some g → lo ≤ g ∧ g < hi
theorem OwnDisk.inD {w : World} {base : Nat} {D : HD} (h : OwnDisk w base D) : InD base w.heap.size D :=
  ⟨fun g hg => own_lt h.rd hg, fun g hg => own_lt h.rw_ hg, fun p hp g hg => own_lt (h.all p hp).1 hg⟩
theorem OwnDisk.touch {lo hi lo' hi' base : Nat} {w w' : World} {D : HD} (h : OwnDisk w base D) (k : InD lo' hi' D) (t : Touch lo hi w w') (hd : hi' ≤ lo ∨ hi ≤ lo') : OwnDisk w' base D := by
  have key : ∀ {e : TypeId} {size n : Nat} {v : Value} {xs : List Value}, w.ownsRow base e size v n xs → (∀ g, v.ownBlock = some g → lo' ≤ g ∧ g < hi') → w'.ownsRow base e size v n xs :=
    fun ho hv => own_keep ho fun g hg => t.block g (own_lt ho hg).2 (by have := hv g hg; omega)
  exact ⟨key h.rd k.data, key h.rw_ k.wait, h.lim, h.wlim, fun p hp => ⟨key (h.all p hp).1 (k.all p hp), (h.all p hp).2⟩⟩

/-- Rows of bytes, whatever they are. -/
def ByteRow (w : World) (A : Option Addr) (n c : Nat) : Prop := ∃ l, w.ownsRow 0 5 1 (.slice A n c) n (cb l)
structure OwnB (w : World) (D : HD) : Prop where
  rd : ByteRow w D.A D.n D.c
  rw_ : w.ownsRow 0 42 2 (.slice D.WA D.Wn D.Wc) D.Wn (hp D.l)
  all : ∀ p ∈ D.l, ByteRow w p.A p.n p.c
theorem OwnDisk.own_b {w : World} {base : Nat} {D : HD} (h : OwnDisk w base D) : OwnB w D :=
  ⟨⟨_, own_mono h.rd (Nat.zero_le _)⟩, own_mono h.rw_ (Nat.zero_le _), fun p hp => ⟨_, own_mono (h.all p hp).1 (Nat.zero_le _)⟩⟩
theorem ByteRow.below {w w' : World} {A : Option Addr} {n c : Nat} (h : ByteRow w A n c) (hb : Below w.heap.size w w') : ByteRow w' A n c := h.imp fun _ h => own_below h hb
theorem OwnB.below {w w' : World} {D : HD} (h : OwnB w D) (hb : Below w.heap.size w w') : OwnB w' D := ⟨h.rd.below hb, own_below h.rw_ hb, fun p hp => (h.all p hp).below hb⟩
theorem OwnB.drew {w : World} {D : HD} (h : OwnB w D) : OwnB w.drew D := h.below (below_drewN (Below.refl _ w) 1)
theorem cb_set (l : List UInt8) (i : Nat) (x : Int) (h0 : 0 ≤ x) (h1 : x ≤ 255) : (cb l).set i (.int .u8 x) = cb (l.set i (UInt8.ofNat x.toNat)) := by
  unfold cb
  rw [List.map_set]
  congr 2
  rw [UInt8.toNat_ofNat']
  have : x.toNat % 2 ^ 8 = x.toNat := Nat.mod_eq_of_lt (by omega)
  rw [this]
  omega
theorem ByteRow.set_ {w : World} {A : Option Addr} {n c : Nat} (h : ByteRow w A n c) (g i : Nat) (x : Int) (h0 : 0 ≤ x) (h1 : x ≤ 255) : ByteRow (w.setCell ⟨g, i, none⟩ (.int .u8 x)) A n c := by
  obtain ⟨l, hl, h⟩ := h
  rcases h with h | ⟨g0, cap, cur, e, hg, hh, hc, hm, hs, ht⟩
  · exact ⟨l, hl, Or.inl h⟩
  · by_cases hgg : g0 = g
    · subst hgg
      refine ⟨l.set i (UInt8.ofNat x.toNat), by rw [← cb_set l i x h0 h1, List.length_set]; exact hl, Or.inr ⟨g0, cap, cur.setIfInBounds i (.int .u8 x), e, hg, Blk.set_ hh i _, hc, hm, by simpa using hs, ?_⟩⟩
      rw [← cb_set l i x h0 h1, ← ht, Array.toList_setIfInBounds, List.take_set]
    · exact ⟨l, hl, Or.inr ⟨g0, cap, cur, e, hg, Blk.far hh (p := ⟨g, i, none⟩) hgg _, hc, hm, hs, ht⟩⟩
theorem OwnB.set_ {w : World} {D : HD} {g : Nat} {cs : Array Value} (h : OwnB w D) (hb : Blk w g 5 cs) (i : Nat) (x : Int) (h0 : 0 ≤ x) (h1 : x ≤ 255) : OwnB (w.setCell ⟨g, i, none⟩ (.int .u8 x)) D :=
  ⟨h.rd.set_ g i x h0 h1, own_set h.rw_ hb (by decide) i _, fun p hp => (h.all p hp).set_ g i x h0 h1⟩
/-- A byte of a row. -/
theorem ByteRow.at_ {w : World} {A : Option Addr} {n c k : Nat} (h : ByteRow w A n c) (hk : k < n) : ∃ (g : Nat) (cs : Array Value) (b : UInt8), A = some ⟨g, 0, none⟩ ∧ Blk w g 5 cs ∧ w.cell? ⟨g, k, none⟩ = some (.int .u8 (b.toNat : Int)) ∧ (Value.slice A n c).ownBlock = some g := by
  obtain ⟨l, hl, h⟩ := h
  rw [cb_length] at hl
  rcases h with ⟨_, h⟩ | ⟨g0, cap, cur, e, hg, hh, hc, hm, hs, ht⟩
  · omega
  · injection e with e1 e2 e3
    subst e1
    refine ⟨g0, cur, l[k]'(by omega), rfl, hh, ?_, rfl⟩
    rw [Blk.cell hh k]
    have h1 : (cb l)[k]? = some (.int .u8 ((l[k]'(by omega)).toNat : Int)) := by
      rw [cb_get, List.getElem?_eq_getElem (by omega)]
      rfl
    rw [← ht, List.getElem?_take, if_pos (by omega), Array.getElem?_toList] at h1
    exact h1

theorem OwnB.put_at {w : World} {D : HD} {i g : Nat} {p : HP} (h : OwnB w D) (hA : D.WA = some ⟨g, 0, none⟩) (hp' : D.l[i]? = some p) : w.cell? ⟨g, i * 2 + 1, none⟩ = some (.slice p.A p.n p.c) := by
  have h1 := Reads.of_own h.rw_
  have hl := h1.len_h
  have hi : i < D.Wn := by have := (List.getElem?_eq_some_iff.1 hp').1; omega
  obtain ⟨b, off, m, e, hb, hm, hc⟩ := h1.hput hi
  rw [hA] at e
  injection e with e
  injection e with e1 e2
  subst e1 e2
  rw [hp'] at hm
  injection hm with hm
  subst hm
  have := hc 1 _ rfl
  rwa [Nat.zero_add] at this
theorem OwnB.put {w : World} {D : HD} {i : Nat} (h : OwnB w D) (hi : i < D.Wn) : ∃ g p, D.WA = some ⟨g, 0, none⟩ ∧ D.l[i]? = some p := by
  have h1 := Reads.of_own h.rw_
  obtain ⟨b, off, m, e, hb, hm, hc⟩ := h1.hput hi
  rcases h.rw_.2 with ⟨_, h0⟩ | ⟨g0, cap, cur, e1, _⟩
  · omega
  · injection e1 with e1
    exact ⟨g0, m, e1, hm⟩

end Go.Proofs.Ythmbjmknifkbaaa
