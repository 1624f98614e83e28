/-
  The reference of layer 23: which mail may be, some kinds.
-/
import Derived.Test.YtmchnjnknnolmaaWireRef
namespace Go.Proofs.Ytmchnjnknnolmaa
open Go.RowKit Bal
set_option maxHeartbeats 8000000
set_option maxRecDepth 100000
set_option linter.unusedVariables false
set_option linter.unusedSimpArgs false

theorem rmay23_3 (f t g s b p : Int) (u : ByteArray) (i tm : Int) (w : World) (hu : u.size ≤ 9223372036854775807) :
    Calls Try.prog 110 #[.agg #[.int .i64 f, .int .i64 t, .int .u8 3, .int .i64 g, .int .i64 s, .int .i64 b, .int .i64 p, .string u, .int .i64 i, .int .i64 tm]] w fun e w' => e = .returned (.bool (Wp.mayM ⟨f, t, 3, g, s, b, p, u.data.toList, i, tm⟩)) ∧ Below w.heap.size w w' := by
  obtain ⟨L, hL⟩ : ∃ L, u.data.toList = L := ⟨_, rfl⟩
  have hem : u.toList.isEmpty = L.isEmpty := by rw [toList_of, hL]
  have HEM := Lib.hid hem
  have hsz := size_data u
  rw [hL] at hsz ⊢
  have HSZ := Lib.hid hsz
  have BW : ∀ {w w1 : World} {o : Obj}, Below (w.alloc o).heap.size (w.alloc o) w1 → Below w.heap.size w w1 := fun h => below_of_alloc (h.mono (by simp)) (Nat.le_refl _)
  clear hem hsz hL
  cases hF : nodeB f with
  | false =>
    have hF2 := of_decide_eq_false hF
    have NF := Lib.hid (rnode_no f (w.alloc (.cells #[.int .i64 f, .int .i64 t, .int .u8 3, .int .i64 g, .int .i64 s, .int .i64 b, .int .i64 p, .string u, .int .i64 i, .int .i64 tm] 25)) hF)
    have HE : Hid (Wp.mayM ⟨f, t, 3, g, s, b, p, L, i, tm⟩ = false) := by simp [Hid, Wp.mayM, Wp.headB, Wp.kindB, hF2]
    go_enter Try.func110, Try.ntmps110
    go_wp2_with (first | (with_reducible refine NF.out.mono ?_; rintro e w' ⟨rfl, rfl⟩))
    go_ret
    rw [HE.out]
    exact ⟨rfl, (Below.refl _ _).alloc (Nat.le_refl _) _⟩
  | true =>
    have hF2 := of_decide_eq_true hF
    have NF := Lib.hid (rnode_yes f (w.alloc (.cells #[.int .i64 f, .int .i64 t, .int .u8 3, .int .i64 g, .int .i64 s, .int .i64 b, .int .i64 p, .string u, .int .i64 i, .int .i64 tm] 25)) hF)
    cases hT : nodeB t with
    | false =>
      have hT2 := of_decide_eq_false hT
      have NT := Lib.hid (rnode_no t (w.alloc (.cells #[.int .i64 f, .int .i64 t, .int .u8 3, .int .i64 g, .int .i64 s, .int .i64 b, .int .i64 p, .string u, .int .i64 i, .int .i64 tm] 25)) hT)
      have HE : Hid (Wp.mayM ⟨f, t, 3, g, s, b, p, L, i, tm⟩ = false) := by simp [Hid, Wp.mayM, Wp.headB, Wp.kindB, hF2, hT2]
      go_enter Try.func110, Try.ntmps110
      go_wp2_with (first | (with_reducible refine NF.out.mono ?_; rintro e w' ⟨rfl, rfl⟩) | (with_reducible refine NT.out.mono ?_; rintro e w' ⟨rfl, rfl⟩))
      go_ret
      rw [HE.out]
      exact ⟨rfl, (Below.refl _ _).alloc (Nat.le_refl _) _⟩
    | true =>
      have hT2 := of_decide_eq_true hT
      have NT := Lib.hid (rnode_yes t (w.alloc (.cells #[.int .i64 f, .int .i64 t, .int .u8 3, .int .i64 g, .int .i64 s, .int .i64 b, .int .i64 p, .string u, .int .i64 i, .int .i64 tm] 25)) hT)
      by_cases hG : (0 : Int) ≤ g ∧ g < 4
      rotate_left
      · have hG2 : ¬ (0 ≤ g ∧ g ≤ 3) := by omega
        have NG := Lib.hid (rin_no12 g 0 4 (w.alloc (.cells #[.int .i64 f, .int .i64 t, .int .u8 3, .int .i64 g, .int .i64 s, .int .i64 b, .int .i64 p, .string u, .int .i64 i, .int .i64 tm] 25)) hG)
        have HE : Hid (Wp.mayM ⟨f, t, 3, g, s, b, p, L, i, tm⟩ = false) := by simp [Hid, Wp.mayM, Wp.headB, Wp.kindB, hF2, hT2, hG2]
        go_enter Try.func110, Try.ntmps110
        go_wp2_with (first | (with_reducible refine NF.out.mono ?_; rintro e w' ⟨rfl, rfl⟩) | (with_reducible refine NT.out.mono ?_; rintro e w' ⟨rfl, rfl⟩) | (with_reducible refine NG.out.mono ?_; rintro e w' ⟨rfl, rfl⟩))
        go_ret
        rw [HE.out]
        exact ⟨rfl, (Below.refl _ _).alloc (Nat.le_refl _) _⟩
      have hG2 : 0 ≤ g ∧ g ≤ 3 := by omega
      have NG := Lib.hid (rin_yes12 g 0 4 (w.alloc (.cells #[.int .i64 f, .int .i64 t, .int .u8 3, .int .i64 g, .int .i64 s, .int .i64 b, .int .i64 p, .string u, .int .i64 i, .int .i64 tm] 25)) hG)
      cases hz : decide ((1024 : Int) < (u.size : Int)) with
      | true =>
        have hz2 : ¬ L.length ≤ 1024 := by have := of_decide_eq_true hz; have := HSZ.out; omega
        have HE : Hid (Wp.mayM ⟨f, t, 3, g, s, b, p, L, i, tm⟩ = false) := by simp [Hid, Wp.mayM, Wp.headB, Wp.kindB, hF2, hT2, hG2, hz2]
        go_enter Try.func110, Try.ntmps110
        go_wp2_with (first | (with_reducible refine NF.out.mono ?_; rintro e w' ⟨rfl, rfl⟩) | (with_reducible refine NT.out.mono ?_; rintro e w' ⟨rfl, rfl⟩) | (with_reducible refine NG.out.mono ?_; rintro e w' ⟨rfl, rfl⟩))
        go_ret
        rw [HE.out]
        exact ⟨rfl, (Below.refl _ _).alloc (Nat.le_refl _) _⟩
      | false =>
        have hz2 : L.length ≤ 1024 := by have := of_decide_eq_false hz; have := HSZ.out; omega
        cases hb : may b with
        | false =>
          have NB := Lib.hid (rmay_no (w.alloc (.cells #[.int .i64 f, .int .i64 t, .int .u8 3, .int .i64 g, .int .i64 s, .int .i64 b, .int .i64 p, .string u, .int .i64 i, .int .i64 tm] 25)) b hb)
          cases hS : Wp.slotB s with
          | false =>
            have NS := Lib.hid (rslot_no s (w.alloc (.cells #[.int .i64 f, .int .i64 t, .int .u8 3, .int .i64 g, .int .i64 s, .int .i64 b, .int .i64 p, .string u, .int .i64 i, .int .i64 tm] 25)) hS)
            have HE : Hid (Wp.mayM ⟨f, t, 3, g, s, b, p, L, i, tm⟩ = false) := by simp [Hid, Wp.mayM, Wp.headB, Wp.kindB, hF2, hT2, hG2, hz2, hb, hS]
            go_enter Try.func110, Try.ntmps110
            go_wp2_with (first | (with_reducible refine NF.out.mono ?_; rintro e w' ⟨rfl, rfl⟩) | (with_reducible refine NT.out.mono ?_; rintro e w' ⟨rfl, rfl⟩) | (with_reducible refine NG.out.mono ?_; rintro e w' ⟨rfl, rfl⟩) | (with_reducible refine NB.out.mono ?_; rintro e w' ⟨rfl, rfl⟩) | (with_reducible refine NS.out.mono ?_; rintro e w' ⟨rfl, rfl⟩))
            go_ret
            rw [HE.out]
            exact ⟨rfl, (Below.refl _ _).alloc (Nat.le_refl _) _⟩
          | true =>
            have NS := Lib.hid (rslot_yes s (w.alloc (.cells #[.int .i64 f, .int .i64 t, .int .u8 3, .int .i64 g, .int .i64 s, .int .i64 b, .int .i64 p, .string u, .int .i64 i, .int .i64 tm] 25)) hS)
            have HE : Hid (Wp.mayM ⟨f, t, 3, g, s, b, p, L, i, tm⟩ = false) := by simp [Hid, Wp.mayM, Wp.headB, Wp.kindB, hF2, hT2, hG2, hz2, hb, hS]
            go_enter Try.func110, Try.ntmps110
            go_wp2_with (first | (with_reducible refine NF.out.mono ?_; rintro e w' ⟨rfl, rfl⟩) | (with_reducible refine NT.out.mono ?_; rintro e w' ⟨rfl, rfl⟩) | (with_reducible refine NG.out.mono ?_; rintro e w' ⟨rfl, rfl⟩) | (with_reducible refine NB.out.mono ?_; rintro e w' ⟨rfl, rfl⟩) | (with_reducible refine NS.out.mono ?_; rintro e w' ⟨rfl, rfl⟩))
            go_ret
            rw [HE.out]
            exact ⟨rfl, (Below.refl _ _).alloc (Nat.le_refl _) _⟩
        | true =>
          have NB := Lib.hid (rmay_yes (w.alloc (.cells #[.int .i64 f, .int .i64 t, .int .u8 3, .int .i64 g, .int .i64 s, .int .i64 b, .int .i64 p, .string u, .int .i64 i, .int .i64 tm] 25)) b hb)
          cases hS : Wp.slotB s with
          | false =>
            have NS := Lib.hid (rslot_no s (w.alloc (.cells #[.int .i64 f, .int .i64 t, .int .u8 3, .int .i64 g, .int .i64 s, .int .i64 b, .int .i64 p, .string u, .int .i64 i, .int .i64 tm] 25)) hS)
            have HE : Hid (Wp.mayM ⟨f, t, 3, g, s, b, p, L, i, tm⟩ = false) := by simp [Hid, Wp.mayM, Wp.headB, Wp.kindB, hF2, hT2, hG2, hz2, hb, hS]
            go_enter Try.func110, Try.ntmps110
            go_wp2_with (first | (with_reducible refine NF.out.mono ?_; rintro e w' ⟨rfl, rfl⟩) | (with_reducible refine NT.out.mono ?_; rintro e w' ⟨rfl, rfl⟩) | (with_reducible refine NG.out.mono ?_; rintro e w' ⟨rfl, rfl⟩) | (with_reducible refine NB.out.mono ?_; rintro e w' ⟨rfl, rfl⟩) | (with_reducible refine NS.out.mono ?_; rintro e w' ⟨rfl, rfl⟩))
            go_ret
            rw [HE.out]
            exact ⟨rfl, (Below.refl _ _).alloc (Nat.le_refl _) _⟩
          | true =>
            have NS := Lib.hid (rslot_yes s (w.alloc (.cells #[.int .i64 f, .int .i64 t, .int .u8 3, .int .i64 g, .int .i64 s, .int .i64 b, .int .i64 p, .string u, .int .i64 i, .int .i64 tm] 25)) hS)
            cases hZ : zeroB s b p i tm L.isEmpty true true false true false false with
            | false =>
              have HZ := Lib.hid hZ
              have hZ2 := hZ
              simp [zeroB] at hZ2
              clear hZ
              have HE : Hid (Wp.mayM ⟨f, t, 3, g, s, b, p, L, i, tm⟩ = false) := by simp [Hid, Wp.mayM, Wp.headB, Wp.kindB, hF2, hT2, hG2, hz2, hb, hS] <;> exact hZ2
              clear hZ2
              go_enter Try.func110, Try.ntmps110
              go_wp2_with (first | (with_reducible refine NF.out.mono ?_; rintro e w' ⟨rfl, rfl⟩) | (with_reducible refine NT.out.mono ?_; rintro e w' ⟨rfl, rfl⟩) | (with_reducible refine NG.out.mono ?_; rintro e w' ⟨rfl, rfl⟩) | (with_reducible refine NB.out.mono ?_; rintro e w' ⟨rfl, rfl⟩) | (with_reducible refine NS.out.mono ?_; rintro e w' ⟨rfl, rfl⟩) | fail)
              refine (rzero_TTFTFF f t 3 g s b p u i tm _ _ HEM.out).mono ?_
              rw [HZ.out]
              rintro e w1 ⟨rfl, hb⟩
              have HB := Lib.hid (BW hb)
              clear hb
              go_wp2
              go_ret
              rw [HE.out]
              exact ⟨rfl, HB.out⟩
            | true =>
              have HZ := Lib.hid hZ
              have hZ2 := hZ
              simp [zeroB] at hZ2
              clear hZ
              have HE : Hid (Wp.mayM ⟨f, t, 3, g, s, b, p, L, i, tm⟩ = true) := by simp [Hid, Wp.mayM, Wp.headB, Wp.kindB, hF2, hT2, hG2, hz2, hb, hS, hZ2]
              clear hZ2
              go_enter Try.func110, Try.ntmps110
              go_wp2_with (first | (with_reducible refine NF.out.mono ?_; rintro e w' ⟨rfl, rfl⟩) | (with_reducible refine NT.out.mono ?_; rintro e w' ⟨rfl, rfl⟩) | (with_reducible refine NG.out.mono ?_; rintro e w' ⟨rfl, rfl⟩) | (with_reducible refine NB.out.mono ?_; rintro e w' ⟨rfl, rfl⟩) | (with_reducible refine NS.out.mono ?_; rintro e w' ⟨rfl, rfl⟩) | fail)
              refine (rzero_TTFTFF f t 3 g s b p u i tm _ _ HEM.out).mono ?_
              rw [HZ.out]
              rintro e w1 ⟨rfl, hb⟩
              have HB := Lib.hid (BW hb)
              clear hb
              go_wp2
              go_ret
              rw [HE.out]
              exact ⟨rfl, HB.out⟩
theorem rmay23_7 (f t g s b p : Int) (u : ByteArray) (i tm : Int) (w : World) (hu : u.size ≤ 9223372036854775807) :
    Calls Try.prog 110 #[.agg #[.int .i64 f, .int .i64 t, .int .u8 7, .int .i64 g, .int .i64 s, .int .i64 b, .int .i64 p, .string u, .int .i64 i, .int .i64 tm]] w fun e w' => e = .returned (.bool (Wp.mayM ⟨f, t, 7, g, s, b, p, u.data.toList, i, tm⟩)) ∧ Below w.heap.size w w' := by
  obtain ⟨L, hL⟩ : ∃ L, u.data.toList = L := ⟨_, rfl⟩
  have hem : u.toList.isEmpty = L.isEmpty := by rw [toList_of, hL]
  have HEM := Lib.hid hem
  have hsz := size_data u
  rw [hL] at hsz ⊢
  have HSZ := Lib.hid hsz
  have BW : ∀ {w w1 : World} {o : Obj}, Below (w.alloc o).heap.size (w.alloc o) w1 → Below w.heap.size w w1 := fun h => below_of_alloc (h.mono (by simp)) (Nat.le_refl _)
  clear hem hsz hL
  cases hF : nodeB f with
  | false =>
    have hF2 := of_decide_eq_false hF
    have NF := Lib.hid (rnode_no f (w.alloc (.cells #[.int .i64 f, .int .i64 t, .int .u8 7, .int .i64 g, .int .i64 s, .int .i64 b, .int .i64 p, .string u, .int .i64 i, .int .i64 tm] 25)) hF)
    have HE : Hid (Wp.mayM ⟨f, t, 7, g, s, b, p, L, i, tm⟩ = false) := by simp [Hid, Wp.mayM, Wp.headB, Wp.kindB, hF2]
    go_enter Try.func110, Try.ntmps110
    go_wp2_with (first | (with_reducible refine NF.out.mono ?_; rintro e w' ⟨rfl, rfl⟩))
    go_ret
    rw [HE.out]
    exact ⟨rfl, (Below.refl _ _).alloc (Nat.le_refl _) _⟩
  | true =>
    have hF2 := of_decide_eq_true hF
    have NF := Lib.hid (rnode_yes f (w.alloc (.cells #[.int .i64 f, .int .i64 t, .int .u8 7, .int .i64 g, .int .i64 s, .int .i64 b, .int .i64 p, .string u, .int .i64 i, .int .i64 tm] 25)) hF)
    cases hT : nodeB t with
    | false =>
      have hT2 := of_decide_eq_false hT
      have NT := Lib.hid (rnode_no t (w.alloc (.cells #[.int .i64 f, .int .i64 t, .int .u8 7, .int .i64 g, .int .i64 s, .int .i64 b, .int .i64 p, .string u, .int .i64 i, .int .i64 tm] 25)) hT)
      have HE : Hid (Wp.mayM ⟨f, t, 7, g, s, b, p, L, i, tm⟩ = false) := by simp [Hid, Wp.mayM, Wp.headB, Wp.kindB, hF2, hT2]
      go_enter Try.func110, Try.ntmps110
      go_wp2_with (first | (with_reducible refine NF.out.mono ?_; rintro e w' ⟨rfl, rfl⟩) | (with_reducible refine NT.out.mono ?_; rintro e w' ⟨rfl, rfl⟩))
      go_ret
      rw [HE.out]
      exact ⟨rfl, (Below.refl _ _).alloc (Nat.le_refl _) _⟩
    | true =>
      have hT2 := of_decide_eq_true hT
      have NT := Lib.hid (rnode_yes t (w.alloc (.cells #[.int .i64 f, .int .i64 t, .int .u8 7, .int .i64 g, .int .i64 s, .int .i64 b, .int .i64 p, .string u, .int .i64 i, .int .i64 tm] 25)) hT)
      by_cases hG : (0 : Int) ≤ g ∧ g < 4
      rotate_left
      · have hG2 : ¬ (0 ≤ g ∧ g ≤ 3) := by omega
        have NG := Lib.hid (rin_no12 g 0 4 (w.alloc (.cells #[.int .i64 f, .int .i64 t, .int .u8 7, .int .i64 g, .int .i64 s, .int .i64 b, .int .i64 p, .string u, .int .i64 i, .int .i64 tm] 25)) hG)
        have HE : Hid (Wp.mayM ⟨f, t, 7, g, s, b, p, L, i, tm⟩ = false) := by simp [Hid, Wp.mayM, Wp.headB, Wp.kindB, hF2, hT2, hG2]
        go_enter Try.func110, Try.ntmps110
        go_wp2_with (first | (with_reducible refine NF.out.mono ?_; rintro e w' ⟨rfl, rfl⟩) | (with_reducible refine NT.out.mono ?_; rintro e w' ⟨rfl, rfl⟩) | (with_reducible refine NG.out.mono ?_; rintro e w' ⟨rfl, rfl⟩))
        go_ret
        rw [HE.out]
        exact ⟨rfl, (Below.refl _ _).alloc (Nat.le_refl _) _⟩
      have hG2 : 0 ≤ g ∧ g ≤ 3 := by omega
      have NG := Lib.hid (rin_yes12 g 0 4 (w.alloc (.cells #[.int .i64 f, .int .i64 t, .int .u8 7, .int .i64 g, .int .i64 s, .int .i64 b, .int .i64 p, .string u, .int .i64 i, .int .i64 tm] 25)) hG)
      cases hz : decide ((1024 : Int) < (u.size : Int)) with
      | true =>
        have hz2 : ¬ L.length ≤ 1024 := by have := of_decide_eq_true hz; have := HSZ.out; omega
        have HE : Hid (Wp.mayM ⟨f, t, 7, g, s, b, p, L, i, tm⟩ = false) := by simp [Hid, Wp.mayM, Wp.headB, Wp.kindB, hF2, hT2, hG2, hz2]
        go_enter Try.func110, Try.ntmps110
        go_wp2_with (first | (with_reducible refine NF.out.mono ?_; rintro e w' ⟨rfl, rfl⟩) | (with_reducible refine NT.out.mono ?_; rintro e w' ⟨rfl, rfl⟩) | (with_reducible refine NG.out.mono ?_; rintro e w' ⟨rfl, rfl⟩))
        go_ret
        rw [HE.out]
        exact ⟨rfl, (Below.refl _ _).alloc (Nat.le_refl _) _⟩
      | false =>
        have hz2 : L.length ≤ 1024 := by have := of_decide_eq_false hz; have := HSZ.out; omega
        cases hb : may b with
        | false =>
          have NB := Lib.hid (rmay_no (w.alloc (.cells #[.int .i64 f, .int .i64 t, .int .u8 7, .int .i64 g, .int .i64 s, .int .i64 b, .int .i64 p, .string u, .int .i64 i, .int .i64 tm] 25)) b hb)
          cases hS : Wp.slotB s with
          | false =>
            have NS := Lib.hid (rslot_no s (w.alloc (.cells #[.int .i64 f, .int .i64 t, .int .u8 7, .int .i64 g, .int .i64 s, .int .i64 b, .int .i64 p, .string u, .int .i64 i, .int .i64 tm] 25)) hS)
            cases h201 : (s == 201) with
            | false =>
              have HE : Hid (Wp.mayM ⟨f, t, 7, g, s, b, p, L, i, tm⟩ = false) := by simp [Hid, Wp.mayM, Wp.headB, Wp.kindB, hF2, hT2, hG2, hz2, hb, hS, h201]
              go_enter Try.func110, Try.ntmps110
              go_wp2_with (first | (with_reducible refine NF.out.mono ?_; rintro e w' ⟨rfl, rfl⟩) | (with_reducible refine NT.out.mono ?_; rintro e w' ⟨rfl, rfl⟩) | (with_reducible refine NG.out.mono ?_; rintro e w' ⟨rfl, rfl⟩) | (with_reducible refine NB.out.mono ?_; rintro e w' ⟨rfl, rfl⟩) | (with_reducible refine NS.out.mono ?_; rintro e w' ⟨rfl, rfl⟩))
              go_ret
              rw [HE.out]
              exact ⟨rfl, (Below.refl _ _).alloc (Nat.le_refl _) _⟩
            | true =>
              cases hZ : zeroB s b p i tm L.isEmpty true false false false false false with
              | false =>
                have HZ := Lib.hid hZ
                have hZ2 := hZ
                simp [zeroB] at hZ2
                clear hZ
                have HE : Hid (Wp.mayM ⟨f, t, 7, g, s, b, p, L, i, tm⟩ = false) := by simp [Hid, Wp.mayM, Wp.headB, Wp.kindB, hF2, hT2, hG2, hz2, hb, hS, h201] <;> exact hZ2
                clear hZ2
                go_enter Try.func110, Try.ntmps110
                go_wp2_with (first | (with_reducible refine NF.out.mono ?_; rintro e w' ⟨rfl, rfl⟩) | (with_reducible refine NT.out.mono ?_; rintro e w' ⟨rfl, rfl⟩) | (with_reducible refine NG.out.mono ?_; rintro e w' ⟨rfl, rfl⟩) | (with_reducible refine NB.out.mono ?_; rintro e w' ⟨rfl, rfl⟩) | (with_reducible refine NS.out.mono ?_; rintro e w' ⟨rfl, rfl⟩) | fail)
                refine (rzero_TFFFFF f t 7 g s b p u i tm _ _ HEM.out).mono ?_
                rw [HZ.out]
                rintro e w1 ⟨rfl, hb⟩
                have HB := Lib.hid (BW hb)
                clear hb
                go_wp2
                go_ret
                rw [HE.out]
                exact ⟨rfl, HB.out⟩
              | true =>
                have HZ := Lib.hid hZ
                have hZ2 := hZ
                simp [zeroB] at hZ2
                clear hZ
                have HE : Hid (Wp.mayM ⟨f, t, 7, g, s, b, p, L, i, tm⟩ = true) := by simp [Hid, Wp.mayM, Wp.headB, Wp.kindB, hF2, hT2, hG2, hz2, hb, hS, h201, hZ2]
                clear hZ2
                go_enter Try.func110, Try.ntmps110
                go_wp2_with (first | (with_reducible refine NF.out.mono ?_; rintro e w' ⟨rfl, rfl⟩) | (with_reducible refine NT.out.mono ?_; rintro e w' ⟨rfl, rfl⟩) | (with_reducible refine NG.out.mono ?_; rintro e w' ⟨rfl, rfl⟩) | (with_reducible refine NB.out.mono ?_; rintro e w' ⟨rfl, rfl⟩) | (with_reducible refine NS.out.mono ?_; rintro e w' ⟨rfl, rfl⟩) | fail)
                refine (rzero_TFFFFF f t 7 g s b p u i tm _ _ HEM.out).mono ?_
                rw [HZ.out]
                rintro e w1 ⟨rfl, hb⟩
                have HB := Lib.hid (BW hb)
                clear hb
                go_wp2
                go_ret
                rw [HE.out]
                exact ⟨rfl, HB.out⟩
          | true =>
            have NS := Lib.hid (rslot_yes s (w.alloc (.cells #[.int .i64 f, .int .i64 t, .int .u8 7, .int .i64 g, .int .i64 s, .int .i64 b, .int .i64 p, .string u, .int .i64 i, .int .i64 tm] 25)) hS)
            cases hZ : zeroB s b p i tm L.isEmpty true false false false false false with
            | false =>
              have HZ := Lib.hid hZ
              have hZ2 := hZ
              simp [zeroB] at hZ2
              clear hZ
              have HE : Hid (Wp.mayM ⟨f, t, 7, g, s, b, p, L, i, tm⟩ = false) := by simp [Hid, Wp.mayM, Wp.headB, Wp.kindB, hF2, hT2, hG2, hz2, hb, hS] <;> exact hZ2
              clear hZ2
              go_enter Try.func110, Try.ntmps110
              go_wp2_with (first | (with_reducible refine NF.out.mono ?_; rintro e w' ⟨rfl, rfl⟩) | (with_reducible refine NT.out.mono ?_; rintro e w' ⟨rfl, rfl⟩) | (with_reducible refine NG.out.mono ?_; rintro e w' ⟨rfl, rfl⟩) | (with_reducible refine NB.out.mono ?_; rintro e w' ⟨rfl, rfl⟩) | (with_reducible refine NS.out.mono ?_; rintro e w' ⟨rfl, rfl⟩) | fail)
              refine (rzero_TFFFFF f t 7 g s b p u i tm _ _ HEM.out).mono ?_
              rw [HZ.out]
              rintro e w1 ⟨rfl, hb⟩
              have HB := Lib.hid (BW hb)
              clear hb
              go_wp2
              go_ret
              rw [HE.out]
              exact ⟨rfl, HB.out⟩
            | true =>
              have HZ := Lib.hid hZ
              have hZ2 := hZ
              simp [zeroB] at hZ2
              clear hZ
              have HE : Hid (Wp.mayM ⟨f, t, 7, g, s, b, p, L, i, tm⟩ = true) := by simp [Hid, Wp.mayM, Wp.headB, Wp.kindB, hF2, hT2, hG2, hz2, hb, hS, hZ2]
              clear hZ2
              go_enter Try.func110, Try.ntmps110
              go_wp2_with (first | (with_reducible refine NF.out.mono ?_; rintro e w' ⟨rfl, rfl⟩) | (with_reducible refine NT.out.mono ?_; rintro e w' ⟨rfl, rfl⟩) | (with_reducible refine NG.out.mono ?_; rintro e w' ⟨rfl, rfl⟩) | (with_reducible refine NB.out.mono ?_; rintro e w' ⟨rfl, rfl⟩) | (with_reducible refine NS.out.mono ?_; rintro e w' ⟨rfl, rfl⟩) | fail)
              refine (rzero_TFFFFF f t 7 g s b p u i tm _ _ HEM.out).mono ?_
              rw [HZ.out]
              rintro e w1 ⟨rfl, hb⟩
              have HB := Lib.hid (BW hb)
              clear hb
              go_wp2
              go_ret
              rw [HE.out]
              exact ⟨rfl, HB.out⟩
        | true =>
          have NB := Lib.hid (rmay_yes (w.alloc (.cells #[.int .i64 f, .int .i64 t, .int .u8 7, .int .i64 g, .int .i64 s, .int .i64 b, .int .i64 p, .string u, .int .i64 i, .int .i64 tm] 25)) b hb)
          cases hS : Wp.slotB s with
          | false =>
            have NS := Lib.hid (rslot_no s (w.alloc (.cells #[.int .i64 f, .int .i64 t, .int .u8 7, .int .i64 g, .int .i64 s, .int .i64 b, .int .i64 p, .string u, .int .i64 i, .int .i64 tm] 25)) hS)
            cases h201 : (s == 201) with
            | false =>
              have HE : Hid (Wp.mayM ⟨f, t, 7, g, s, b, p, L, i, tm⟩ = false) := by simp [Hid, Wp.mayM, Wp.headB, Wp.kindB, hF2, hT2, hG2, hz2, hb, hS, h201]
              go_enter Try.func110, Try.ntmps110
              go_wp2_with (first | (with_reducible refine NF.out.mono ?_; rintro e w' ⟨rfl, rfl⟩) | (with_reducible refine NT.out.mono ?_; rintro e w' ⟨rfl, rfl⟩) | (with_reducible refine NG.out.mono ?_; rintro e w' ⟨rfl, rfl⟩) | (with_reducible refine NB.out.mono ?_; rintro e w' ⟨rfl, rfl⟩) | (with_reducible refine NS.out.mono ?_; rintro e w' ⟨rfl, rfl⟩))
              go_ret
              rw [HE.out]
              exact ⟨rfl, (Below.refl _ _).alloc (Nat.le_refl _) _⟩
            | true =>
              cases hZ : zeroB s b p i tm L.isEmpty true false false false false false with
              | false =>
                have HZ := Lib.hid hZ
                have hZ2 := hZ
                simp [zeroB] at hZ2
                clear hZ
                have HE : Hid (Wp.mayM ⟨f, t, 7, g, s, b, p, L, i, tm⟩ = false) := by simp [Hid, Wp.mayM, Wp.headB, Wp.kindB, hF2, hT2, hG2, hz2, hb, hS, h201] <;> exact hZ2
                clear hZ2
                go_enter Try.func110, Try.ntmps110
                go_wp2_with (first | (with_reducible refine NF.out.mono ?_; rintro e w' ⟨rfl, rfl⟩) | (with_reducible refine NT.out.mono ?_; rintro e w' ⟨rfl, rfl⟩) | (with_reducible refine NG.out.mono ?_; rintro e w' ⟨rfl, rfl⟩) | (with_reducible refine NB.out.mono ?_; rintro e w' ⟨rfl, rfl⟩) | (with_reducible refine NS.out.mono ?_; rintro e w' ⟨rfl, rfl⟩) | fail)
                refine (rzero_TFFFFF f t 7 g s b p u i tm _ _ HEM.out).mono ?_
                rw [HZ.out]
                rintro e w1 ⟨rfl, hb⟩
                have HB := Lib.hid (BW hb)
                clear hb
                go_wp2
                go_ret
                rw [HE.out]
                exact ⟨rfl, HB.out⟩
              | true =>
                have HZ := Lib.hid hZ
                have hZ2 := hZ
                simp [zeroB] at hZ2
                clear hZ
                have HE : Hid (Wp.mayM ⟨f, t, 7, g, s, b, p, L, i, tm⟩ = true) := by simp [Hid, Wp.mayM, Wp.headB, Wp.kindB, hF2, hT2, hG2, hz2, hb, hS, h201, hZ2]
                clear hZ2
                go_enter Try.func110, Try.ntmps110
                go_wp2_with (first | (with_reducible refine NF.out.mono ?_; rintro e w' ⟨rfl, rfl⟩) | (with_reducible refine NT.out.mono ?_; rintro e w' ⟨rfl, rfl⟩) | (with_reducible refine NG.out.mono ?_; rintro e w' ⟨rfl, rfl⟩) | (with_reducible refine NB.out.mono ?_; rintro e w' ⟨rfl, rfl⟩) | (with_reducible refine NS.out.mono ?_; rintro e w' ⟨rfl, rfl⟩) | fail)
                refine (rzero_TFFFFF f t 7 g s b p u i tm _ _ HEM.out).mono ?_
                rw [HZ.out]
                rintro e w1 ⟨rfl, hb⟩
                have HB := Lib.hid (BW hb)
                clear hb
                go_wp2
                go_ret
                rw [HE.out]
                exact ⟨rfl, HB.out⟩
          | true =>
            have NS := Lib.hid (rslot_yes s (w.alloc (.cells #[.int .i64 f, .int .i64 t, .int .u8 7, .int .i64 g, .int .i64 s, .int .i64 b, .int .i64 p, .string u, .int .i64 i, .int .i64 tm] 25)) hS)
            cases hZ : zeroB s b p i tm L.isEmpty true false false false false false with
            | false =>
              have HZ := Lib.hid hZ
              have hZ2 := hZ
              simp [zeroB] at hZ2
              clear hZ
              have HE : Hid (Wp.mayM ⟨f, t, 7, g, s, b, p, L, i, tm⟩ = false) := by simp [Hid, Wp.mayM, Wp.headB, Wp.kindB, hF2, hT2, hG2, hz2, hb, hS] <;> exact hZ2
              clear hZ2
              go_enter Try.func110, Try.ntmps110
              go_wp2_with (first | (with_reducible refine NF.out.mono ?_; rintro e w' ⟨rfl, rfl⟩) | (with_reducible refine NT.out.mono ?_; rintro e w' ⟨rfl, rfl⟩) | (with_reducible refine NG.out.mono ?_; rintro e w' ⟨rfl, rfl⟩) | (with_reducible refine NB.out.mono ?_; rintro e w' ⟨rfl, rfl⟩) | (with_reducible refine NS.out.mono ?_; rintro e w' ⟨rfl, rfl⟩) | fail)
              refine (rzero_TFFFFF f t 7 g s b p u i tm _ _ HEM.out).mono ?_
              rw [HZ.out]
              rintro e w1 ⟨rfl, hb⟩
              have HB := Lib.hid (BW hb)
              clear hb
              go_wp2
              go_ret
              rw [HE.out]
              exact ⟨rfl, HB.out⟩
            | true =>
              have HZ := Lib.hid hZ
              have hZ2 := hZ
              simp [zeroB] at hZ2
              clear hZ
              have HE : Hid (Wp.mayM ⟨f, t, 7, g, s, b, p, L, i, tm⟩ = true) := by simp [Hid, Wp.mayM, Wp.headB, Wp.kindB, hF2, hT2, hG2, hz2, hb, hS, hZ2]
              clear hZ2
              go_enter Try.func110, Try.ntmps110
              go_wp2_with (first | (with_reducible refine NF.out.mono ?_; rintro e w' ⟨rfl, rfl⟩) | (with_reducible refine NT.out.mono ?_; rintro e w' ⟨rfl, rfl⟩) | (with_reducible refine NG.out.mono ?_; rintro e w' ⟨rfl, rfl⟩) | (with_reducible refine NB.out.mono ?_; rintro e w' ⟨rfl, rfl⟩) | (with_reducible refine NS.out.mono ?_; rintro e w' ⟨rfl, rfl⟩) | fail)
              refine (rzero_TFFFFF f t 7 g s b p u i tm _ _ HEM.out).mono ?_
              rw [HZ.out]
              rintro e w1 ⟨rfl, hb⟩
              have HB := Lib.hid (BW hb)
              clear hb
              go_wp2
              go_ret
              rw [HE.out]
              exact ⟨rfl, HB.out⟩
end Go.Proofs.Ytmchnjnknnolmaa
