/-
  Layer 4 in plain Lean: what is opened behind adding, writing anew, a crash.
-/
import Derived.Test.YthmbjmknifkbaaaWalPlain
namespace Go.Proofs.Ythmbjmknifkbaaa
open Go.RowKit
set_option linter.unusedVariables false
set_option linter.unusedSimpArgs false
namespace Nm
theorem cutF_join : ∀ (f : Nat) (l : List UInt8), l.take (cutF f l).2 = join (cutF f l).1 ∧ (∀ t ∈ (cutF f l).1, t.length ≤ 4096) ∧ (cutF f l).2 = (join (cutF f l).1).length := by
  intro f
  induction f with
  | zero => intro l; simp [cutF, join]
  | succ f ih =>
    intro l
    unfold cutF
    cases h : getText l with
    | none => simp [join]
    | some p =>
      obtain ⟨t, k⟩ := p
      obtain ⟨h1, h2, h3, h4, h5⟩ := getText_back h
      obtain ⟨i1, i2, i3⟩ := ih (l.drop k)
      simp only
      refine ⟨?_, ?_, ?_⟩
      · rw [List.take_add, ← h4, i1, join_cons]
      · intro x hx
        rcases List.mem_cons.1 hx with rfl | hx
        · exact h1
        · exact i2 x hx
      · rw [join_cons, List.length_append, ← h2, ← i3]
/-- What is cut off bytes: the whole frames with which they begin. -/
theorem cut_is {b : List UInt8} {L : List (List UInt8)} {z : Nat} (h : cut b = (L, z)) : b.take z = join L ∧ (∀ t ∈ L, t.length ≤ 4096) ∧ z = (join L).length ∧ z ≤ b.length := by
  have h1 := cutF_join (b.length + 1) b
  have h2 := (cut_le (b.length + 1) b).1
  unfold cut at h
  rw [h] at h1 h2
  exact ⟨h1.1, h1.2.1, h1.2.2, h2⟩
theorem cut_nil : cut [] = ([], 0) := cut_none (by decide)
theorem cut_joined {l : List (List UInt8)} (h : ∀ t ∈ l, t.length ≤ 4096) : cut (join l) = (l, (join l).length) := by
  have := cut_join l [] h
  rw [List.append_nil, cut_nil] at this
  simpa using this
end Nm
namespace Wa
open Dp
/-- Disks that have just these records. -/
def Has (d : Disk) (L : List (List UInt8)) : Prop := mayD d = true ∧ Dp.seen d = Nm.join L ∧ ∀ t ∈ L, t.length ≤ 4096
theorem Has.cut {d : Disk} {L : List (List UInt8)} (h : Has d L) : Nm.cut (Dp.seen d) = (L, (Dp.seen d).length) := by
  rw [h.2.1]; exact Nm.cut_joined h.2.2
theorem join_len : ∀ L : List (List UInt8), L.length ≤ (Nm.join L).length := by
  intro L
  induction L with
  | nil => simp
  | cons t L ih =>
    rw [Nm.join_cons, List.length_append, List.length_cons]
    have := Nm.txt_len t
    omega
theorem Has.small {d : Disk} {L : List (List UInt8)} (h : Has d L) : L.length ≤ 1048576 := by
  have h1 := join_len L
  have h2 := seen_len h.1
  rw [h.2.1] at h2
  omega
theorem Has.opened {d : Disk} {L : List (List UInt8)} (h : Has d L) : opened d = (d, L, 0) := by
  unfold Wa.opened
  rw [if_pos h.1, h.cut]
  simp
theorem opened_is {d X : Disk} {L : List (List UInt8)} {e : Int} (h : opened d = (X, L, e)) : (e = 0 ∧ Has X L ∧ mayD d = true) ∨ (e ≠ 0 ∧ L = [] ∧ X = zeroD) := by
  unfold opened at h
  by_cases hm : mayD d = true
  · rw [if_pos hm] at h
    obtain ⟨L1, z, hc⟩ : ∃ L z, Nm.cut (Dp.seen d) = (L, z) := ⟨_, _, rfl⟩
    obtain ⟨c1, c2, c3, c4⟩ := Nm.cut_is hc
    rw [hc] at h
    simp only at h
    by_cases hz : z = (Dp.seen d).length
    · rw [if_pos hz] at h
      obtain ⟨rfl, h2⟩ := Prod.mk.inj h
      obtain ⟨rfl, rfl⟩ := Prod.mk.inj h2
      refine Or.inl ⟨rfl, ⟨hm, ?_, c2⟩, hm⟩
      rw [← c1, hz, List.take_length]
    · rw [if_neg hz] at h
      by_cases hw : (write d ⟨true, (Dp.seen d).take z⟩).2 = 0
      · rw [if_pos hw] at h
        obtain ⟨rfl, h2⟩ := Prod.mk.inj h
        obtain ⟨rfl, rfl⟩ := Prod.mk.inj h2
        obtain ⟨w1, w2, w3⟩ := write_is hw
        refine Or.inl ⟨rfl, ⟨by rw [w3]; exact w2, ?_, c2⟩, hm⟩
        rw [w3, seen_more, ← c1]
        rfl
      · rw [if_neg hw] at h
        obtain ⟨rfl, h2⟩ := Prod.mk.inj h
        obtain ⟨rfl, rfl⟩ := Prod.mk.inj h2
        exact Or.inr ⟨hw, rfl, rfl⟩
  · rw [if_neg hm] at h
    obtain ⟨rfl, h2⟩ := Prod.mk.inj h
    obtain ⟨rfl, rfl⟩ := Prod.mk.inj h2
    exact Or.inr ⟨by decide, rfl, rfl⟩
/-- Writes that were added, none of them refused. -/
theorem adds_is : ∀ (l : List (List UInt8)) (d Y : Disk), adds d l = (Y, 0) → mayD d = true → mayD Y = true ∧ Y = ⟨d.data, d.wait ++ l.map fun t => ⟨false, Nm.txt t⟩⟩ ∧ Dp.seen Y = Dp.seen d ++ Nm.join l := by
  intro l
  induction l with
  | nil =>
    intro d Y h hm
    obtain ⟨rfl, _⟩ := Prod.mk.inj h
    refine ⟨hm, ?_, ?_⟩
    · simp
    · simp [Nm.join]
  | cons t l ih =>
    intro d Y h hm
    unfold adds at h
    by_cases hw : (write d ⟨false, Nm.txt t⟩).2 = 0
    · rw [if_pos hw] at h
      obtain ⟨w1, w2, w3⟩ := write_is hw
      rw [w3] at h
      obtain ⟨i1, i2, i3⟩ := ih _ _ h w2
      refine ⟨i1, ?_, ?_⟩
      · rw [i2]; simp
      · rw [i3, seen_more, Nm.join_cons, ← List.append_assoc]
        rfl
    · rw [if_neg hw] at h
      obtain ⟨_, h2⟩ := Prod.mk.inj h
      exact absurd h2 hw
theorem add_is {d Y : Disk} {L l : List (List UInt8)} (hd : Has d L) (h : add d l = (Y, 0)) : Has Y (L ++ l) ∧ Y = ⟨d.data, d.wait ++ l.map fun t => ⟨false, Nm.txt t⟩⟩ ∧ ∀ t ∈ l, t.length ≤ 4096 := by
  unfold add at h
  rw [if_pos hd.1] at h
  by_cases ha : l.all (fun t => decide (t.length ≤ 4096)) = true
  · rw [if_pos ha] at h
    rw [hd.cut, if_pos rfl] at h
    have ha2 : ∀ t ∈ l, t.length ≤ 4096 := by simpa using ha
    obtain ⟨i1, i2, i3⟩ := adds_is l d Y h hd.1
    refine ⟨⟨i1, by rw [i3, hd.2.1, Nm.join_append], ?_⟩, i2, ha2⟩
    intro t ht
    rcases List.mem_append.1 ht with ht | ht
    · exact hd.2.2 t ht
    · exact ha2 t ht
  · rw [if_neg ha] at h
    obtain ⟨_, h2⟩ := Prod.mk.inj h
    exact absurd h2 (by decide)
theorem has_sync {Y : Disk} {L : List (List UInt8)} (h : Has Y L) : Has ⟨Dp.seen Y, []⟩ L :=
  ⟨by rw [mayD_nil]; simpa using seen_len h.1, h.2.1, h.2.2⟩
theorem reset_is {d R : Disk} {l : List (List UInt8)} (h : reset d l = (R, 0)) : Has R l ∧ R = ⟨d.data, d.wait ++ [⟨true, Nm.join l⟩]⟩ ∧ mayD d = true := by
  unfold reset at h
  by_cases hm : mayD d = true
  · rw [if_pos hm] at h
    by_cases hj : joinOk l = true
    · rw [if_pos hj] at h
      obtain ⟨w1, w2, w3⟩ := write_is (d := d) (p := ⟨true, Nm.join l⟩) (by rw [h])
      rw [h] at w3
      have w4 : R = ⟨d.data, d.wait ++ [⟨true, Nm.join l⟩]⟩ := w3
      refine ⟨⟨by rw [w4]; exact w2, ?_, (joinOk_all hj).1⟩, w4, hm⟩
      rw [w4, seen_more]
      rfl
    · rw [if_neg hj] at h
      obtain ⟨_, h2⟩ := Prod.mk.inj h
      exact absurd h2 (by decide)
  · rw [if_neg hm] at h
    obtain ⟨_, h2⟩ := Prod.mk.inj h
    exact absurd h2 (by decide)
/-- What is opened of a disk whose bytes are whole frames and a piece of one. -/
theorem open_still {b : List UInt8} {L : List (List UInt8)} {z : Nat} (hm : b.length ≤ 1048576) (hc : Nm.cut b = (L, z)) : ∃ X, opened ⟨b, []⟩ = (X, L, 0) := by
  have hm2 : mayD ⟨b, []⟩ = true := by rw [mayD_nil]; simpa using hm
  have hs : Dp.seen ⟨b, []⟩ = b := rfl
  obtain ⟨c1, c2, c3, c4⟩ := Nm.cut_is hc
  unfold opened
  rw [if_pos hm2, hs, hc]
  simp only
  by_cases hz : z = b.length
  · rw [if_pos hz]; exact ⟨_, rfl⟩
  · rw [if_neg hz]
    have hw : (write ⟨b, []⟩ ⟨true, b.take z⟩).2 = 0 := (write_ok hm2).2 ⟨by show (b.take z).length ≤ _; rw [List.length_take]; omega, by simp⟩
    rw [if_pos hw]
    exact ⟨_, rfl⟩
theorem crash_is0 {d R : Disk} {keep many : Int} (h : crash d keep many = (R, 0)) : 0 ≤ keep ∧ keep ≤ d.wait.length ∧ 0 ≤ many ∧ R = ⟨done d.data (d.wait.take keep.toNat) ++ Dp.part d.wait keep.toNat many.toNat, []⟩ := by
  unfold crash at h
  by_cases hm : mayD d = true
  · rw [if_pos hm] at h
    by_cases hk : keep < 0 ∨ keep > d.wait.length ∨ many < 0
    · rw [if_pos hk] at h
      obtain ⟨_, h2⟩ := Prod.mk.inj h
      exact absurd h2 (by decide)
    · rw [if_neg hk] at h
      obtain ⟨h1, _⟩ := Prod.mk.inj h
      exact ⟨by omega, by omega, by omega, h1.symm⟩
  · rw [if_neg hm] at h
    obtain ⟨_, h2⟩ := Prod.mk.inj h
    exact absurd h2 (by decide)
theorem done_txts : ∀ (l : List (List UInt8)) (b : List UInt8), Dp.done b (l.map fun t => (⟨false, Nm.txt t⟩ : Put)) = b ++ Nm.join l := by
  intro l
  induction l with
  | nil => intro b; simp [Dp.done, Nm.join]
  | cons t l ih =>
    intro b
    simp only [List.map_cons, done]
    rw [ih, Nm.join_cons, ← List.append_assoc]
    rfl
theorem cut_part (t : List UInt8) (m : Nat) (ht : t.length ≤ 4096) : (Nm.cut ((Nm.txt t).take m)).1 = [] ∨ (Nm.cut ((Nm.txt t).take m)).1 = [t] := by
  rcases Nat.lt_or_ge m (Nm.txt t).length with h | h
  · left; rw [Nm.cut_none (Nm.getText_torn ht h)]
  · right
    rw [List.take_of_length_le h]
    have := Nm.cut_joined (l := [t]) (by simpa using ht)
    rw [Nm.join_one] at this
    rw [this]
/-- Behind a crash of what was added. -/
theorem torn {X Y R : Disk} {L l : List (List UInt8)} {keep many : Int} (hX : Has X L) (hY : add ⟨Dp.seen X, []⟩ l = (Y, 0)) (hR : crash Y keep many = (R, 0)) :
    ∃ (Z : Disk) (j : Nat), opened R = (Z, L ++ l.take j, 0) ∧ j ≤ l.length ∧ keep ≤ j ∧ 0 ≤ keep := by
  obtain ⟨h1, h2, h3⟩ := add_is (has_sync hX) hY
  obtain ⟨k0, k1, k2, rfl⟩ := crash_is0 hR
  obtain ⟨k, rfl⟩ : ∃ k : Nat, keep = (k : Int) := ⟨keep.toNat, by omega⟩
  obtain ⟨m, rfl⟩ : ∃ m : Nat, many = (m : Int) := ⟨many.toNat, by omega⟩
  have hw : Y.wait = l.map fun t => (⟨false, Nm.txt t⟩ : Put) := by rw [h2]; simp
  have hd : Y.data = Nm.join L := by rw [h2]; exact hX.2.1
  have hkl : k ≤ l.length := by rw [hw, List.length_map] at k1; omega
  have hseen : Dp.seen Y = Nm.join (L ++ l) := h1.2.1
  have hall : ∀ t ∈ L ++ l, t.length ≤ 4096 := h1.2.2
  simp only [Int.toNat_natCast]
  have e1 : Dp.done Y.data (Y.wait.take k) = Nm.join (L ++ l.take k) := by
    rw [hd, hw, ← List.map_take, done_txts, Nm.join_append]
  rw [e1]
  have hall2 : ∀ t ∈ L ++ l.take k, t.length ≤ 4096 := by
    intro t ht
    rcases List.mem_append.1 ht with ht | ht
    · exact hall t (List.mem_append_left _ ht)
    · exact hall t (List.mem_append_right _ (List.mem_of_mem_take ht))
  have hlen : (Nm.join (L ++ l)).length ≤ 1048576 := by rw [← hseen]; exact seen_len h1.1
  rcases Nat.lt_or_ge k l.length with hlt | hge
  · have hg : l[k]? = some (l[k]) := List.getElem?_eq_getElem hlt
    have ep : Dp.part Y.wait k m = (Nm.txt (l[k])).take m := by
      unfold Dp.part
      rw [hw, List.getElem?_map, hg]
      rfl
    rw [ep]
    have ht : (l[k]).length ≤ 4096 := hall _ (List.mem_append_right _ (List.getElem_mem _))
    have ej : Nm.join (l.take (k + 1)) = Nm.join (l.take k) ++ Nm.txt (l[k]) := join_next hlt rfl
    have hb : (Nm.join (L ++ l.take k) ++ (Nm.txt (l[k])).take m).length ≤ 1048576 := by
      have h4 := join_take_le l (k + 1)
      rw [ej] at h4
      rw [Nm.join_append] at hlen ⊢
      simp only [List.length_append, List.length_take] at hlen h4 ⊢
      omega
    have hc := Nm.cut_join (L ++ l.take k) ((Nm.txt (l[k])).take m) hall2
    obtain ⟨Z, hZ⟩ := open_still hb hc
    rcases cut_part (l[k]) m ht with hp | hp
    · rw [hp, List.append_nil] at hZ
      exact ⟨Z, k, hZ, hkl, by omega, by omega⟩
    · rw [hp, List.append_assoc, ← take_next hlt] at hZ
      exact ⟨Z, k + 1, hZ, hlt, by omega, by omega⟩
  · obtain rfl : k = l.length := by omega
    have ep : Dp.part Y.wait l.length m = [] := by
      unfold Dp.part
      rw [hw, List.getElem?_eq_none (by simp)]
    rw [ep, List.append_nil]
    have hb : (Nm.join (L ++ l.take l.length)).length ≤ 1048576 := by rw [List.take_length]; exact hlen
    obtain ⟨Z, hZ⟩ := open_still hb (Nm.cut_joined hall2)
    exact ⟨Z, l.length, hZ, Nat.le_refl _, by omega, by omega⟩
/-- Behind a crash of what was written anew. -/
theorem anew {X R U : Disk} {L l : List (List UInt8)} {keep many : Int} (hX : Has X L) (hR : reset ⟨Dp.seen X, []⟩ l = (R, 0)) (hU : crash R keep many = (U, 0)) :
    ∃ Z : Disk, (keep = 0 ∧ opened U = (Z, L, 0)) ∨ (keep = 1 ∧ opened U = (Z, l, 0)) := by
  obtain ⟨h1, h2, h3⟩ := reset_is hR
  obtain ⟨k0, k1, k2, rfl⟩ := crash_is0 hU
  have hw : R.wait = [⟨true, Nm.join l⟩] := by rw [h2]; rfl
  have hd : R.data = Nm.join L := by rw [h2]; exact hX.2.1
  rw [hw] at k1 ⊢
  rw [hd]
  simp only [List.length_singleton] at k1
  have hk : keep = 0 ∨ keep = 1 := by omega
  rcases hk with rfl | rfl
  · have e : Dp.done (Nm.join L) (([⟨true, Nm.join l⟩] : List Put).take (0 : Int).toNat) ++ Dp.part [⟨true, Nm.join l⟩] (0 : Int).toNat many.toNat = Nm.join L := by
      simp [Dp.done, Dp.part]
    rw [e]
    have hb : (Nm.join L).length ≤ 1048576 := by rw [← hX.2.1]; exact seen_len hX.1
    obtain ⟨Z, hZ⟩ := open_still hb (Nm.cut_joined hX.2.2)
    exact ⟨Z, Or.inl ⟨rfl, hZ⟩⟩
  · have e : Dp.done (Nm.join L) (([⟨true, Nm.join l⟩] : List Put).take (1 : Int).toNat) ++ Dp.part [⟨true, Nm.join l⟩] (1 : Int).toNat many.toNat = Nm.join l := by
      simp [Dp.done, Dp.part, Dp.step]
    rw [e]
    have hb : (Nm.join l).length ≤ 1048576 := by rw [← h1.2.1]; exact seen_len h1.1
    obtain ⟨Z, hZ⟩ := open_still hb (Nm.cut_joined h1.2.2)
    exact ⟨Z, Or.inr ⟨rfl, hZ⟩⟩
/-! ### the chapter's examples -/
theorem opened_eq {d : Disk} {L : List (List UInt8)} {b : List UInt8} {z : Nat} (hm : mayD d = true) (hs : Dp.seen d = b) (hc : Nm.cut b = (L, z)) (hz : z = b.length) : opened d = (d, L, 0) := by
  unfold opened
  rw [if_pos hm, hs, hc]
  exact if_pos hz
theorem opened_torn {d X : Disk} {L : List (List UInt8)} {b : List UInt8} {z : Nat} (hm : mayD d = true) (hs : Dp.seen d = b) (hc : Nm.cut b = (L, z)) (hz : z ≠ b.length) (hw : write d ⟨true, b.take z⟩ = (X, 0)) : opened d = (X, L, 0) := by
  unfold opened
  rw [if_pos hm, hs, hc]
  refine (if_neg hz).trans ?_
  simp only [hw]
  exact if_pos trivial
theorem add_eq {d Y : Disk} {l L : List (List UInt8)} {b : List UInt8} {z : Nat} {e : Int} (hm : mayD d = true) (ha : l.all (fun t => decide (t.length ≤ 4096)) = true) (hs : Dp.seen d = b) (hc : Nm.cut b = (L, z)) (hz : z = b.length) (h : adds d l = (Y, e)) : add d l = (Y, e) := by
  unfold add
  rw [if_pos hm, if_pos ha, hs, hc]
  exact (if_pos hz).trans h
theorem add_torn {d : Disk} {l L : List (List UInt8)} {b : List UInt8} {z : Nat} (hm : mayD d = true) (ha : l.all (fun t => decide (t.length ≤ 4096)) = true) (hs : Dp.seen d = b) (hc : Nm.cut b = (L, z)) (hz : z ≠ b.length) : add d l = (zeroD, 8) := by
  unfold add
  rw [if_pos hm, if_pos ha, hs, hc]
  exact if_neg hz
theorem adds_one {d Y : Disk} {t b : List UInt8} (hb : Nm.txt t = b) (h : write d ⟨false, b⟩ = (Y, 0)) : adds d [t] = (Y, 0) := by
  unfold adds
  rw [hb, h]
  exact if_pos rfl
theorem reset_eq {d Y : Disk} {l : List (List UInt8)} {b : List UInt8} (hm : mayD d = true) (hj : joinOk l = true) (hb : Nm.join l = b) (h : write d ⟨true, b⟩ = (Y, 0)) : reset d l = (Y, 0) := by
  unfold reset
  rw [if_pos hm, if_pos hj, hb, h]
theorem ex_add : add ⟨[1, 97], []⟩ [[98, 99]] = (⟨[1, 97], [⟨false, [2, 98, 99]⟩]⟩, 0) :=
  add_eq (b := [1, 97]) (L := [[97]]) (z := 2) rfl rfl rfl (by decide +kernel) rfl (adds_one (b := [2, 98, 99]) (by decide +kernel) rfl)
theorem ex_open : opened ⟨[1, 97], [⟨false, [2, 98, 99]⟩]⟩ = (⟨[1, 97], [⟨false, [2, 98, 99]⟩]⟩, [[97], [98, 99]], 0) :=
  opened_eq (b := [1, 97, 2, 98, 99]) (z := 5) rfl rfl (by decide +kernel) rfl
theorem ex_crash : crash ⟨[1, 97], [⟨false, [2, 98, 99]⟩]⟩ 0 2 = (⟨[1, 97, 2, 98], []⟩, 0) := rfl
theorem ex_torn : opened ⟨[1, 97, 2, 98], []⟩ = (⟨[1, 97, 2, 98], [⟨true, [1, 97]⟩]⟩, [[97]], 0) :=
  opened_torn (b := [1, 97, 2, 98]) (z := 2) rfl rfl (by decide +kernel) (by decide) rfl
theorem ex_add2 : add ⟨[1, 97, 2, 98], []⟩ [[120]] = (zeroD, 8) :=
  add_torn (b := [1, 97, 2, 98]) (L := [[97]]) (z := 2) rfl rfl rfl (by decide +kernel) (by decide)
theorem ex_reset : reset ⟨[1, 97], []⟩ [[120]] = (⟨[1, 97], [⟨true, [1, 120]⟩]⟩, 0) :=
  reset_eq (b := [1, 120]) rfl (by decide +kernel) (by decide +kernel) rfl
theorem ex_open2 : opened ⟨[1, 97], [⟨true, [1, 120]⟩]⟩ = (⟨[1, 97], [⟨true, [1, 120]⟩]⟩, [[120]], 0) :=
  opened_eq (b := [1, 120]) (z := 2) rfl rfl (by decide +kernel) rfl
end Wa
end Go.Proofs.Ythmbjmknifkbaaa
