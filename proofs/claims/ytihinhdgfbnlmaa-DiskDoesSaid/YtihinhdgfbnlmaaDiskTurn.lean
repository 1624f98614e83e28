/-
  The statements of layer 3: turn, which turns all bytes of a disk of the call's own: the blocks outside the disk's own stay as they are.
-/
import Derived.Test.YtihinhdgfbnlmaaDiskSome
namespace Go.Proofs.Ytihinhdgfbnlmaa
open Go.RowKit
set_option maxHeartbeats 8000000
set_option maxRecDepth 100000
set_option linter.unusedVariables false
set_option linter.unusedSimpArgs false

/-- What differs lies between two blocks. -/
structure Touch (lo hi : Nat) (w w' : World) : Prop where
  os : w'.os = w.os
  tape : w'.tape = w.tape
  output : w'.output = w.output
  size : w.heap.size ≤ w'.heap.size
  block : ∀ i, i < w.heap.size → (i < lo ∨ hi ≤ i) → w'.heap[i]? = w.heap[i]?
section
variable {lo hi : Nat} {a b c : World}
theorem Touch.of_below {B : Nat} (h : Below B a b) (hB : a.heap.size ≤ B) : Touch lo hi a b := ⟨h.os, h.tape, h.output, h.size, fun i hi _ => h.block i (by omega)⟩
theorem Touch.drew (h : Touch lo hi a b) : Touch lo hi a b.drew := ⟨h.os, h.tape, h.output, h.size, h.block⟩
theorem Touch.setCell (h : Touch lo hi a b) {p : Addr} (h1 : lo ≤ p.block) (h2 : p.block < hi) (u : Value) : Touch lo hi a (b.setCell p u) :=
  ⟨h.os, h.tape, h.output, by simpa [World.setCell] using h.size, fun i hi hq => (Below.heap_setCell b p u i (by omega)).trans (h.block i hi hq)⟩
theorem Touch.cell (h : Touch lo hi a b) {p : Addr} (h1 : p.block < a.heap.size) (h2 : p.block < lo ∨ hi ≤ p.block) : b.cell? p = a.cell? p := World.cell?_of_block (h.block p.block h1 h2)
theorem Touch.blk {g : Nat} {t : TypeId} {cs : Array Value} (h : Touch lo hi a b) (k : Blk a g t cs) (h2 : g < lo ∨ hi ≤ g) : Blk b g t cs := (h.block g k.lt h2).trans k
theorem Touch.below (h : Touch lo hi a b) {B : Nat} (hB : B ≤ lo) (hs : B ≤ a.heap.size) : Below B a b := ⟨h.os, h.tape, h.output, h.size, fun i hi => h.block i (by omega) (Or.inl (by omega))⟩
end
/-- All rows of a disk lie in blocks between the two. -/
structure InD (lo hi : Nat) (D : HD) : Prop where
  data : ∀ g, (Value.slice D.A D.n D.c).ownBlock = some g → lo ≤ g ∧ g < hi
  wait : ∀ g, (Value.slice D.WA D.Wn D.Wc).ownBlock = some g → lo ≤ g ∧ g < hi
  all : ∀ p ∈ D.l, ∀ g, (Value.slice p.A p.n p.c).ownBlock = some g → lo ≤ g ∧ g < hi
theorem OwnDisk.inD {w : World} {base : Nat} {D : HD} (h : OwnDisk w base D) : InD base w.heap.size D :=
  ⟨fun g hg => own_lt h.rd hg, fun g hg => own_lt h.rw_ hg, fun p hp g hg => own_lt (h.all p hp).1 hg⟩
theorem OwnDisk.touch {lo hi lo' hi' base : Nat} {w w' : World} {D : HD} (h : OwnDisk w base D) (k : InD lo' hi' D) (t : Touch lo hi w w') (hd : hi' ≤ lo ∨ hi ≤ lo') : OwnDisk w' base D := by
  have key : ∀ {e : TypeId} {size n : Nat} {v : Value} {xs : List Value}, w.ownsRow base e size v n xs → (∀ g, v.ownBlock = some g → lo' ≤ g ∧ g < hi') → w'.ownsRow base e size v n xs :=
    fun ho hv => own_keep ho fun g hg => t.block g (own_lt ho hg).2 (by have := hv g hg; omega)
  exact ⟨key h.rd k.data, key h.rw_ k.wait, h.lim, h.wlim, fun p hp => ⟨key (h.all p hp).1 (k.all p hp), (h.all p hp).2⟩⟩

/-- Rows of bytes, whatever they are. -/
def ByteRow (w : World) (A : Option Addr) (n c : Nat) : Prop := ∃ l, w.ownsRow 0 5 1 (.slice A n c) n (cb l)
structure OwnB (w : World) (D : HD) : Prop where
  rd : ByteRow w D.A D.n D.c
  rw_ : w.ownsRow 0 43 2 (.slice D.WA D.Wn D.Wc) D.Wn (hp D.l)
  all : ∀ p ∈ D.l, ByteRow w p.A p.n p.c
theorem OwnDisk.own_b {w : World} {base : Nat} {D : HD} (h : OwnDisk w base D) : OwnB w D :=
  ⟨⟨_, own_mono h.rd (Nat.zero_le _)⟩, own_mono h.rw_ (Nat.zero_le _), fun p hp => ⟨_, own_mono (h.all p hp).1 (Nat.zero_le _)⟩⟩
theorem ByteRow.below {w w' : World} {A : Option Addr} {n c : Nat} (h : ByteRow w A n c) (hb : Below w.heap.size w w') : ByteRow w' A n c := h.imp fun _ h => own_below h hb
theorem OwnB.below {w w' : World} {D : HD} (h : OwnB w D) (hb : Below w.heap.size w w') : OwnB w' D := ⟨h.rd.below hb, own_below h.rw_ hb, fun p hp => (h.all p hp).below hb⟩
theorem OwnB.drew {w : World} {D : HD} (h : OwnB w D) : OwnB w.drew D := h.below (below_drewN (Below.refl _ w) 1)
theorem cb_set (l : List UInt8) (i : Nat) (x : Int) (h0 : 0 ≤ x) (h1 : x ≤ 255) : (cb l).set i (.int .u8 x) = cb (l.set i (UInt8.ofNat x.toNat)) := by
  unfold cb
  rw [List.map_set]
  congr 2
  rw [UInt8.toNat_ofNat']
  have : x.toNat % 2 ^ 8 = x.toNat := Nat.mod_eq_of_lt (by omega)
  rw [this]
  omega
theorem ByteRow.set_ {w : World} {A : Option Addr} {n c : Nat} (h : ByteRow w A n c) (g i : Nat) (x : Int) (h0 : 0 ≤ x) (h1 : x ≤ 255) : ByteRow (w.setCell ⟨g, i, none⟩ (.int .u8 x)) A n c := by
  obtain ⟨l, hl, h⟩ := h
  rcases h with h | ⟨g0, cap, cur, e, hg, hh, hc, hm, hs, ht⟩
  · exact ⟨l, hl, Or.inl h⟩
  · by_cases hgg : g0 = g
    · subst hgg
      refine ⟨l.set i (UInt8.ofNat x.toNat), by rw [← cb_set l i x h0 h1, List.length_set]; exact hl, Or.inr ⟨g0, cap, cur.setIfInBounds i (.int .u8 x), e, hg, Blk.set_ hh i _, hc, hm, by simpa using hs, ?_⟩⟩
      rw [← cb_set l i x h0 h1, ← ht, Array.toList_setIfInBounds, List.take_set]
    · exact ⟨l, hl, Or.inr ⟨g0, cap, cur, e, hg, Blk.far hh (p := ⟨g, i, none⟩) hgg _, hc, hm, hs, ht⟩⟩
theorem OwnB.set_ {w : World} {D : HD} {g : Nat} {cs : Array Value} (h : OwnB w D) (hb : Blk w g 5 cs) (i : Nat) (x : Int) (h0 : 0 ≤ x) (h1 : x ≤ 255) : OwnB (w.setCell ⟨g, i, none⟩ (.int .u8 x)) D :=
  ⟨h.rd.set_ g i x h0 h1, own_set h.rw_ hb (by decide) i _, fun p hp => (h.all p hp).set_ g i x h0 h1⟩
/-- A byte of a row. -/
theorem ByteRow.at_ {w : World} {A : Option Addr} {n c k : Nat} (h : ByteRow w A n c) (hk : k < n) : ∃ (g : Nat) (cs : Array Value) (b : UInt8), A = some ⟨g, 0, none⟩ ∧ Blk w g 5 cs ∧ w.cell? ⟨g, k, none⟩ = some (.int .u8 (b.toNat : Int)) ∧ (Value.slice A n c).ownBlock = some g := by
  obtain ⟨l, hl, h⟩ := h
  rw [cb_length] at hl
  rcases h with ⟨_, h⟩ | ⟨g0, cap, cur, e, hg, hh, hc, hm, hs, ht⟩
  · omega
  · injection e with e1 e2 e3
    subst e1
    refine ⟨g0, cur, l[k]'(by omega), rfl, hh, ?_, rfl⟩
    rw [Blk.cell hh k]
    have h1 : (cb l)[k]? = some (.int .u8 ((l[k]'(by omega)).toNat : Int)) := by
      rw [cb_get, List.getElem?_eq_getElem (by omega)]
      rfl
    rw [← ht, List.getElem?_take, if_pos (by omega), Array.getElem?_toList] at h1
    exact h1

theorem OwnB.put_at {w : World} {D : HD} {i g : Nat} {p : HP} (h : OwnB w D) (hA : D.WA = some ⟨g, 0, none⟩) (hp' : D.l[i]? = some p) : w.cell? ⟨g, i * 2 + 1, none⟩ = some (.slice p.A p.n p.c) := by
  have h1 := Reads.of_own h.rw_
  have hl := h1.len_h
  have hi : i < D.Wn := by have := (List.getElem?_eq_some_iff.1 hp').1; omega
  obtain ⟨b, off, m, e, hb, hm, hc⟩ := h1.hput hi
  rw [hA] at e
  injection e with e
  injection e with e1 e2
  subst e1 e2
  rw [hp'] at hm
  injection hm with hm
  subst hm
  have := hc 1 _ rfl
  rwa [Nat.zero_add] at this
theorem OwnB.put {w : World} {D : HD} {i : Nat} (h : OwnB w D) (hi : i < D.Wn) : ∃ g p, D.WA = some ⟨g, 0, none⟩ ∧ D.l[i]? = some p := by
  have h1 := Reads.of_own h.rw_
  obtain ⟨b, off, m, e, hb, hm, hc⟩ := h1.hput hi
  rcases h.rw_.2 with ⟨_, h0⟩ | ⟨g0, cap, cur, e1, _⟩
  · omega
  · injection e1 with e1
    exact ⟨g0, m, e1, hm⟩

theorem turn_any (D : HD) (lo hi : Nat) (w : World) (h : OwnDisk w 0 D) (k : InD lo hi D) (hh : hi ≤ w.heap.size) :
    Calls Try.prog 28 #[.agg #[.slice D.A D.n D.c, .slice D.WA D.Wn D.Wc]] w fun e w' => e = .returned (.tuple #[]) ∧ Touch lo hi w w' := by
  have hwl := h.wlim
  have hnl := h.lim
  have OB := Lib.hid (h.own_b.below ((Below.refl _ w).alloc (Nat.le_refl w.heap.size) (.cells #[.slice D.A D.n D.c, .slice D.WA D.Wn D.Wc] 25)))
  have HL := Lib.hid (fun p hp => (h.all p hp).2)
  have T0 : Hid (Touch lo hi w (w.alloc (.cells #[.slice D.A D.n D.c, .slice D.WA D.Wn D.Wc] 25))) := Touch.of_below ((Below.refl _ w).alloc (Nat.le_refl w.heap.size) _) (Nat.le_refl _)
  have K0 := Lib.hid (Blk.new w 25 #[.slice D.A D.n D.c, .slice D.WA D.Wn D.Wc])
  have HI := Lib.hid k
  clear h k
  go_enter Try.func28, Try.ntmps28
  go_wp2
  go_loopw [2] (fun y wr => ∃ k : Nat, y = .int .i64 (k : Int) ∧ k ≤ D.n ∧ Touch lo hi w wr ∧ OwnB wr D ∧ Blk wr w.heap.size 25 #[.slice D.A D.n D.c, .slice D.WA D.Wn D.Wc]) (fun y _ => D.n - (intOf y).toNat)
  case atStart => exact ⟨0, rfl, Nat.zero_le _, T0.out, OB.out, K0.out⟩
  case round =>
    obtain ⟨k, rfl, hk, h1, h2, h3⟩ := hrel
    have T1 := Lib.hid h1
    have O1 := Lib.hid h2
    have K1 := Lib.hid h3
    have y0 := h3.cell 0
    have y1 := h3.cell 1
    clear h1 h2 h3 OB T0 K0
    by_cases hlt : k < D.n
    · obtain ⟨g, cs, b, hA, hb, hc, hob⟩ := O1.out.rd.at_ hlt
      have hgl := HI.out.data g hob
      rw [hA] at y0
      clear hA
      have HB := Lib.hid hb
      have HC := Lib.hid hc
      have hfz := hb.frozen k
      have hbt := b.toNat_lt
      clear hb hc hob
      go_wp2_with fail
      have HS0 : Hid (wr.drew.cell? ⟨w.heap.size, 0, none⟩ = some (.slice (some ⟨g, 0, none⟩) D.n D.c) ∧ wr.drew.cell? ⟨g, k, none⟩ = some (.int .u8 (b.toNat : Int))) := ⟨y0, HC.out⟩
      refine T_region 10 (fun w' => w'.cell? ⟨w.heap.size, 0, none⟩ = some (.slice (some ⟨g, 0, none⟩) D.n D.c) ∧ w'.cell? ⟨g, k, none⟩ = some (.int .u8 (b.toNat : Int))) (by kernel_rfl) (by kernel_rfl) ?_
      refine T_takeL (i := 0) (v := ?_) rfl (by kernel_rfl) (fun _ _ _ h => h) (Or.inl ⟨by rfl, ?_⟩) HS0.out ?_
      rotate_left
      · ((intro w hSw; (try dsimp only at hSw); go_simp) <;> with_reducible rfl)
      try simp only [Act.put, List.setIfInBounds_toArray, List.set_cons_zero, List.set_cons_succ]
      refine T_takeL (i := 1) (v := ?_) rfl (by kernel_rfl) (fun _ _ _ h => h) (Or.inl ⟨by rfl, ?_⟩) HS0.out ?_
      rotate_left
      · ((intro w hSw; (try dsimp only at hSw); go_simp) <;> with_reducible rfl)
      try simp only [Act.put, List.setIfInBounds_toArray, List.set_cons_zero, List.set_cons_succ]
      refine T_takeL (i := 2) (v := ?_) rfl (by kernel_rfl) (fun _ _ _ h => h) (Or.inl ⟨by rfl, ?_⟩) HS0.out ?_
      rotate_left
      · ((intro w hSw; (try dsimp only at hSw); go_simp) <;> with_reducible rfl)
      try simp only [Act.put, List.setIfInBounds_toArray, List.set_cons_zero, List.set_cons_succ]
      refine T_takeL (i := 3) (v := ?_) rfl (by kernel_rfl) (fun _ _ _ h => h) (Or.inl ⟨by rfl, ?_⟩) HS0.out ?_
      rotate_left
      · ((intro w hSw; (try dsimp only at hSw); go_simp) <;> with_reducible rfl)
      try simp only [Act.put, List.setIfInBounds_toArray, List.set_cons_zero, List.set_cons_succ]
      refine T_takeL (i := 4) (v := ?_) rfl (by kernel_rfl) (fun _ _ _ h => h) (Or.inl ⟨by rfl, ?_⟩) HS0.out ?_
      rotate_left
      · ((intro w hSw; (try dsimp only at hSw); go_simp) <;> with_reducible rfl)
      try simp only [Act.put, List.setIfInBounds_toArray, List.set_cons_zero, List.set_cons_succ]
      refine T_takeL (i := 5) (v := ?_) rfl (by kernel_rfl) (fun _ _ _ h => h) (Or.inl ⟨by rfl, ?_⟩) HS0.out ?_
      rotate_left
      · ((intro w hSw; (try dsimp only at hSw); go_simp) <;> with_reducible rfl)
      try simp only [Act.put, List.setIfInBounds_toArray, List.set_cons_zero, List.set_cons_succ]
      refine T_takeL (i := 6) (v := ?_) rfl (by kernel_rfl) (fun _ _ _ h => h) (Or.inl ⟨by rfl, ?_⟩) HS0.out ?_
      rotate_left
      · ((intro w hSw; (try dsimp only at hSw); go_simp) <;> with_reducible rfl)
      try simp only [Act.put, List.setIfInBounds_toArray, List.set_cons_zero, List.set_cons_succ]
      refine T_takeL (i := 7) (v := ?_) rfl (by kernel_rfl) (fun _ _ _ h => h) (Or.inl ⟨by rfl, ?_⟩) HS0.out ?_
      rotate_left
      · ((intro w hSw; (try dsimp only at hSw); go_simp) <;> with_reducible rfl)
      try simp only [Act.put, List.setIfInBounds_toArray, List.set_cons_zero, List.set_cons_succ]
      refine T_takeL (i := 8) (v := ?_) rfl (by kernel_rfl) (fun _ _ _ h => h) (Or.inl ⟨by rfl, ?_⟩) HS0.out ?_
      rotate_left
      · ((intro w hSw; (try dsimp only at hSw); go_simp) <;> with_reducible rfl)
      try simp only [Act.put, List.setIfInBounds_toArray, List.set_cons_zero, List.set_cons_succ]
      refine T_takeL (i := 9) (v := ?_) rfl (by kernel_rfl) (fun _ _ _ h => h) (Or.inl ⟨by rfl, ?_⟩) HS0.out ?_
      rotate_left
      · ((intro w hSw; (try dsimp only at hSw); go_simp) <;> with_reducible rfl)
      try simp only [Act.put, List.setIfInBounds_toArray, List.set_cons_zero, List.set_cons_succ]
      refine T_end (by kernel_rfl) ?_
      have c0 := HC.out
      go_wp2
      go_roundw
      case rel => exact ⟨k + 1, by go_num, by omega, (T1.out.setCell (p := ⟨g, k, none⟩) hgl.1 hgl.2 _).drew, (O1.out.set_ HB.out k _ (by omega) (by omega)).drew, (K1.out.far (p := ⟨g, k, none⟩) (by show w.heap.size ≠ g; omega) _).drew⟩
      case measure => simp [intOf]; omega
    · have hkn : ¬ (k : Int) < (D.n : Int) := by omega
      go_wp2
      go_loopw [3] (fun y wr => ∃ k : Nat, y = .int .i64 (k : Int) ∧ k ≤ D.Wn ∧ Touch lo hi w wr ∧ OwnB wr D ∧ Blk wr w.heap.size 25 #[.slice D.A D.n D.c, .slice D.WA D.Wn D.Wc]) (fun y _ => D.Wn - (intOf y).toNat)
      case atStart => exact ⟨0, rfl, Nat.zero_le _, T1.out, O1.out, K1.out⟩
      case round =>
        obtain ⟨i, rfl, hi', h1, h2, h3⟩ := hrel
        have T2 := Lib.hid h1
        have O2 := Lib.hid h2
        have K2 := Lib.hid h3
        have x1 := h3.cell 1
        clear h1 h2 h3 T1 O1 K1 y1
        by_cases hit : i < D.Wn
        · obtain ⟨gw, p, hA, hmm⟩ := O2.out.put hit
          have hpm := List.mem_of_getElem? hmm
          have hpl := HL.out p hpm
          rw [hA] at x1
          have HA := Lib.hid hA
          have HM := Lib.hid hmm
          have HPM := Lib.hid hpm
          have p1 := O2.out.put_at hA hmm
          clear hA hmm hpm y0
          go_wp2
          go_loopw [4] (fun y wr => ∃ k : Nat, y = .int .i64 (k : Int) ∧ k ≤ p.n ∧ Touch lo hi w wr ∧ OwnB wr D ∧ Blk wr w.heap.size 25 #[.slice D.A D.n D.c, .slice D.WA D.Wn D.Wc]) (fun y _ => p.n - (intOf y).toNat)
          case atStart => exact ⟨0, rfl, Nat.zero_le _, T2.out, O2.out, K2.out⟩
          case round =>
            obtain ⟨k, rfl, hk, h1, h2, h3⟩ := hrel
            have T3 := Lib.hid h1
            have O3 := Lib.hid h2
            have K3 := Lib.hid h3
            have x3 := h3.cell 1
            rw [HA.out] at x3
            have p3 := h2.put_at HA.out HM.out
            clear h1 h2 h3 T2 O2 K2 x1 p1
            by_cases hlt : k < p.n
            · obtain ⟨g, cs, b, hpA, hb, hc, hob⟩ := (O3.out.all p HPM.out).at_ hlt
              have hgl := HI.out.all p HPM.out g hob
              rw [hpA] at p3
              have HB := Lib.hid hb
              have HC := Lib.hid hc
              have hfz := hb.frozen k
              have hbt := b.toNat_lt
              clear hb hc hob hpA
              go_wp2_with fail
              have HS0 : Hid (wr.drew.cell? ⟨w.heap.size, 1, none⟩ = some (.slice (some ⟨gw, 0, none⟩) D.Wn D.Wc) ∧ wr.drew.cell? ⟨gw, i * 2 + 1, none⟩ = some (.slice (some ⟨g, 0, none⟩) p.n p.c) ∧ wr.drew.cell? ⟨g, k, none⟩ = some (.int .u8 (b.toNat : Int))) := ⟨x3, p3, HC.out⟩
              refine T_region 18 (fun w' => w'.cell? ⟨w.heap.size, 1, none⟩ = some (.slice (some ⟨gw, 0, none⟩) D.Wn D.Wc) ∧ w'.cell? ⟨gw, i * 2 + 1, none⟩ = some (.slice (some ⟨g, 0, none⟩) p.n p.c) ∧ w'.cell? ⟨g, k, none⟩ = some (.int .u8 (b.toNat : Int))) (by kernel_rfl) (by kernel_rfl) ?_
              refine T_takeL (i := 0) (v := ?_) rfl (by kernel_rfl) (fun _ _ _ h => h) (Or.inl ⟨by rfl, ?_⟩) HS0.out ?_
              rotate_left
              · ((intro w hSw; (try dsimp only at hSw); go_simp) <;> with_reducible rfl)
              try simp only [Act.put, List.setIfInBounds_toArray, List.set_cons_zero, List.set_cons_succ]
              refine T_takeL (i := 1) (v := ?_) rfl (by kernel_rfl) (fun _ _ _ h => h) (Or.inl ⟨by rfl, ?_⟩) HS0.out ?_
              rotate_left
              · ((intro w hSw; (try dsimp only at hSw); go_simp) <;> with_reducible rfl)
              try simp only [Act.put, List.setIfInBounds_toArray, List.set_cons_zero, List.set_cons_succ]
              refine T_takeL (i := 2) (v := ?_) rfl (by kernel_rfl) (fun _ _ _ h => h) (Or.inl ⟨by rfl, ?_⟩) HS0.out ?_
              rotate_left
              · ((intro w hSw; (try dsimp only at hSw); go_simp) <;> with_reducible rfl)
              try simp only [Act.put, List.setIfInBounds_toArray, List.set_cons_zero, List.set_cons_succ]
              refine T_takeL (i := 3) (v := ?_) rfl (by kernel_rfl) (fun _ _ _ h => h) (Or.inl ⟨by rfl, ?_⟩) HS0.out ?_
              rotate_left
              · ((intro w hSw; (try dsimp only at hSw); go_simp) <;> with_reducible rfl)
              try simp only [Act.put, List.setIfInBounds_toArray, List.set_cons_zero, List.set_cons_succ]
              refine T_takeL (i := 4) (v := ?_) rfl (by kernel_rfl) (fun _ _ _ h => h) (Or.inl ⟨by rfl, ?_⟩) HS0.out ?_
              rotate_left
              · ((intro w hSw; (try dsimp only at hSw); go_simp) <;> with_reducible rfl)
              try simp only [Act.put, List.setIfInBounds_toArray, List.set_cons_zero, List.set_cons_succ]
              refine T_takeL (i := 5) (v := ?_) rfl (by kernel_rfl) (fun _ _ _ h => h) (Or.inl ⟨by rfl, ?_⟩) HS0.out ?_
              rotate_left
              · ((intro w hSw; (try dsimp only at hSw); go_simp) <;> with_reducible rfl)
              try simp only [Act.put, List.setIfInBounds_toArray, List.set_cons_zero, List.set_cons_succ]
              refine T_takeL (i := 6) (v := ?_) rfl (by kernel_rfl) (fun _ _ _ h => h) (Or.inl ⟨by rfl, ?_⟩) HS0.out ?_
              rotate_left
              · ((intro w hSw; (try dsimp only at hSw); go_simp) <;> with_reducible rfl)
              try simp only [Act.put, List.setIfInBounds_toArray, List.set_cons_zero, List.set_cons_succ]
              refine T_takeL (i := 7) (v := ?_) rfl (by kernel_rfl) (fun _ _ _ h => h) (Or.inl ⟨by rfl, ?_⟩) HS0.out ?_
              rotate_left
              · ((intro w hSw; (try dsimp only at hSw); go_simp) <;> with_reducible rfl)
              try simp only [Act.put, List.setIfInBounds_toArray, List.set_cons_zero, List.set_cons_succ]
              refine T_takeL (i := 8) (v := ?_) rfl (by kernel_rfl) (fun _ _ _ h => h) (Or.inl ⟨by rfl, ?_⟩) HS0.out ?_
              rotate_left
              · ((intro w hSw; (try dsimp only at hSw); go_simp) <;> with_reducible rfl)
              try simp only [Act.put, List.setIfInBounds_toArray, List.set_cons_zero, List.set_cons_succ]
              refine T_takeL (i := 9) (v := ?_) rfl (by kernel_rfl) (fun _ _ _ h => h) (Or.inl ⟨by rfl, ?_⟩) HS0.out ?_
              rotate_left
              · ((intro w hSw; (try dsimp only at hSw); go_simp) <;> with_reducible rfl)
              try simp only [Act.put, List.setIfInBounds_toArray, List.set_cons_zero, List.set_cons_succ]
              refine T_takeL (i := 10) (v := ?_) rfl (by kernel_rfl) (fun _ _ _ h => h) (Or.inl ⟨by rfl, ?_⟩) HS0.out ?_
              rotate_left
              · ((intro w hSw; (try dsimp only at hSw); go_simp) <;> with_reducible rfl)
              try simp only [Act.put, List.setIfInBounds_toArray, List.set_cons_zero, List.set_cons_succ]
              refine T_takeL (i := 11) (v := ?_) rfl (by kernel_rfl) (fun _ _ _ h => h) (Or.inl ⟨by rfl, ?_⟩) HS0.out ?_
              rotate_left
              · ((intro w hSw; (try dsimp only at hSw); go_simp) <;> with_reducible rfl)
              try simp only [Act.put, List.setIfInBounds_toArray, List.set_cons_zero, List.set_cons_succ]
              refine T_takeL (i := 12) (v := ?_) rfl (by kernel_rfl) (fun _ _ _ h => h) (Or.inl ⟨by rfl, ?_⟩) HS0.out ?_
              rotate_left
              · ((intro w hSw; (try dsimp only at hSw); go_simp) <;> with_reducible rfl)
              try simp only [Act.put, List.setIfInBounds_toArray, List.set_cons_zero, List.set_cons_succ]
              refine T_takeL (i := 13) (v := ?_) rfl (by kernel_rfl) (fun _ _ _ h => h) (Or.inl ⟨by rfl, ?_⟩) HS0.out ?_
              rotate_left
              · ((intro w hSw; (try dsimp only at hSw); go_simp) <;> with_reducible rfl)
              try simp only [Act.put, List.setIfInBounds_toArray, List.set_cons_zero, List.set_cons_succ]
              refine T_takeL (i := 14) (v := ?_) rfl (by kernel_rfl) (fun _ _ _ h => h) (Or.inl ⟨by rfl, ?_⟩) HS0.out ?_
              rotate_left
              · ((intro w hSw; (try dsimp only at hSw); go_simp) <;> with_reducible rfl)
              try simp only [Act.put, List.setIfInBounds_toArray, List.set_cons_zero, List.set_cons_succ]
              refine T_takeL (i := 15) (v := ?_) rfl (by kernel_rfl) (fun _ _ _ h => h) (Or.inl ⟨by rfl, ?_⟩) HS0.out ?_
              rotate_left
              · ((intro w hSw; (try dsimp only at hSw); go_simp) <;> with_reducible rfl)
              try simp only [Act.put, List.setIfInBounds_toArray, List.set_cons_zero, List.set_cons_succ]
              refine T_takeL (i := 16) (v := ?_) rfl (by kernel_rfl) (fun _ _ _ h => h) (Or.inl ⟨by rfl, ?_⟩) HS0.out ?_
              rotate_left
              · ((intro w hSw; (try dsimp only at hSw); go_simp) <;> with_reducible rfl)
              try simp only [Act.put, List.setIfInBounds_toArray, List.set_cons_zero, List.set_cons_succ]
              refine T_takeL (i := 17) (v := ?_) rfl (by kernel_rfl) (fun _ _ _ h => h) (Or.inl ⟨by rfl, ?_⟩) HS0.out ?_
              rotate_left
              · ((intro w hSw; (try dsimp only at hSw); go_simp) <;> with_reducible rfl)
              try simp only [Act.put, List.setIfInBounds_toArray, List.set_cons_zero, List.set_cons_succ]
              refine T_end (by kernel_rfl) ?_
              have c0 := HC.out
              go_wp2
              go_roundw
              case rel => exact ⟨k + 1, by go_num, by omega, (T3.out.setCell (p := ⟨g, k, none⟩) hgl.1 hgl.2 _).drew, (O3.out.set_ HB.out k _ (by omega) (by omega)).drew, (K3.out.far (p := ⟨g, k, none⟩) (by show w.heap.size ≠ g; omega) _).drew⟩
              case measure => simp [intOf]; omega
            · have hkn2 : ¬ (k : Int) < (p.n : Int) := by omega
              go_wp2
              go_roundw
              case rel => exact ⟨i + 1, by go_num, by omega, T3.out, O3.out, K3.out⟩
              case measure => simp [intOf]; omega
        · have hkn2 : ¬ (i : Int) < (D.Wn : Int) := by omega
          go_wp2
          exact bodyPost_end (v := .tuple #[]) (by simp [results, Try.results28, go_sem]) rfl ⟨rfl, T2.out⟩
end Go.Proofs.Ytihinhdgfbnlmaa
