/-
  The reference of layer 23: which mail may be, any.
-/
import Derived.Test.YtmchnjnknnolmaaWireRefM1
import Derived.Test.YtmchnjnknnolmaaWireRefM2
import Derived.Test.YtmchnjnknnolmaaWireRefM3
import Derived.Test.YtmchnjnknnolmaaWireRefM4
import Derived.Test.YtmchnjnknnolmaaWireRefM5
namespace Go.Proofs.Ytmchnjnknnolmaa
open Go.RowKit Bal
set_option maxHeartbeats 8000000
set_option maxRecDepth 100000
set_option linter.unusedVariables false
set_option linter.unusedSimpArgs false

theorem rmay23_other (f t k g s b p : Int) (u : ByteArray) (i tm : Int) (w : World) (hu : u.size ≤ 9223372036854775807) (k1 : ¬ k = 1) (k2 : ¬ k = 2) (k3 : ¬ k = 3) (k4 : ¬ k = 4) (k5 : ¬ k = 5) (k6 : ¬ k = 6) (k7 : ¬ k = 7) (k8 : ¬ k = 8) (k9 : ¬ k = 9) :
    Calls Try.prog 110 #[.agg #[.int .i64 f, .int .i64 t, .int .u8 k, .int .i64 g, .int .i64 s, .int .i64 b, .int .i64 p, .string u, .int .i64 i, .int .i64 tm]] w fun e w' => e = .returned (.bool (Wp.mayM ⟨f, t, k, g, s, b, p, u.data.toList, i, tm⟩)) ∧ Below w.heap.size w w' := by
  obtain ⟨L, hL⟩ : ∃ L, u.data.toList = L := ⟨_, rfl⟩
  have hem : u.toList.isEmpty = L.isEmpty := by rw [toList_of, hL]
  have HEM := Lib.hid hem
  have hsz := size_data u
  rw [hL] at hsz ⊢
  have HSZ := Lib.hid hsz
  have BW : ∀ {w w1 : World} {o : Obj}, Below (w.alloc o).heap.size (w.alloc o) w1 → Below w.heap.size w w1 := fun h => below_of_alloc (h.mono (by simp)) (Nat.le_refl _)
  clear hem hsz hL
  have q1 : (k == 1) = false := by simpa using k1
  have q2 : (k == 2) = false := by simpa using k2
  have q3 : (k == 3) = false := by simpa using k3
  have q4 : (k == 4) = false := by simpa using k4
  have q5 : (k == 5) = false := by simpa using k5
  have q6 : (k == 6) = false := by simpa using k6
  have q7 : (k == 7) = false := by simpa using k7
  have q8 : (k == 8) = false := by simpa using k8
  have q9 : (k == 9) = false := by simpa using k9
  cases hF : nodeB f with
  | false =>
    have hF2 := of_decide_eq_false hF
    have NF := Lib.hid (rnode_no f (w.alloc (.cells #[.int .i64 f, .int .i64 t, .int .u8 k, .int .i64 g, .int .i64 s, .int .i64 b, .int .i64 p, .string u, .int .i64 i, .int .i64 tm] 25)) hF)
    have HE : Hid (Wp.mayM ⟨f, t, k, g, s, b, p, L, i, tm⟩ = false) := by simp [Hid, Wp.mayM, Wp.headB, Wp.kindB, hF2]
    go_enter Try.func110, Try.ntmps110
    go_wp2_with (first | (with_reducible refine NF.out.mono ?_; rintro e w' ⟨rfl, rfl⟩))
    go_ret
    rw [HE.out]
    exact ⟨rfl, (Below.refl _ _).alloc (Nat.le_refl _) _⟩
  | true =>
    have hF2 := of_decide_eq_true hF
    have NF := Lib.hid (rnode_yes f (w.alloc (.cells #[.int .i64 f, .int .i64 t, .int .u8 k, .int .i64 g, .int .i64 s, .int .i64 b, .int .i64 p, .string u, .int .i64 i, .int .i64 tm] 25)) hF)
    cases hT : nodeB t with
    | false =>
      have hT2 := of_decide_eq_false hT
      have NT := Lib.hid (rnode_no t (w.alloc (.cells #[.int .i64 f, .int .i64 t, .int .u8 k, .int .i64 g, .int .i64 s, .int .i64 b, .int .i64 p, .string u, .int .i64 i, .int .i64 tm] 25)) hT)
      have HE : Hid (Wp.mayM ⟨f, t, k, g, s, b, p, L, i, tm⟩ = false) := by simp [Hid, Wp.mayM, Wp.headB, Wp.kindB, hF2, hT2]
      go_enter Try.func110, Try.ntmps110
      go_wp2_with (first | (with_reducible refine NF.out.mono ?_; rintro e w' ⟨rfl, rfl⟩) | (with_reducible refine NT.out.mono ?_; rintro e w' ⟨rfl, rfl⟩))
      go_ret
      rw [HE.out]
      exact ⟨rfl, (Below.refl _ _).alloc (Nat.le_refl _) _⟩
    | true =>
      have hT2 := of_decide_eq_true hT
      have NT := Lib.hid (rnode_yes t (w.alloc (.cells #[.int .i64 f, .int .i64 t, .int .u8 k, .int .i64 g, .int .i64 s, .int .i64 b, .int .i64 p, .string u, .int .i64 i, .int .i64 tm] 25)) hT)
      by_cases hG : (0 : Int) ≤ g ∧ g < 4
      rotate_left
      · have hG2 : ¬ (0 ≤ g ∧ g ≤ 3) := by omega
        have NG := Lib.hid (rin_no12 g 0 4 (w.alloc (.cells #[.int .i64 f, .int .i64 t, .int .u8 k, .int .i64 g, .int .i64 s, .int .i64 b, .int .i64 p, .string u, .int .i64 i, .int .i64 tm] 25)) hG)
        have HE : Hid (Wp.mayM ⟨f, t, k, g, s, b, p, L, i, tm⟩ = false) := by simp [Hid, Wp.mayM, Wp.headB, Wp.kindB, hF2, hT2, hG2]
        go_enter Try.func110, Try.ntmps110
        go_wp2_with (first | (with_reducible refine NF.out.mono ?_; rintro e w' ⟨rfl, rfl⟩) | (with_reducible refine NT.out.mono ?_; rintro e w' ⟨rfl, rfl⟩) | (with_reducible refine NG.out.mono ?_; rintro e w' ⟨rfl, rfl⟩))
        go_ret
        rw [HE.out]
        exact ⟨rfl, (Below.refl _ _).alloc (Nat.le_refl _) _⟩
      have hG2 : 0 ≤ g ∧ g ≤ 3 := by omega
      have NG := Lib.hid (rin_yes12 g 0 4 (w.alloc (.cells #[.int .i64 f, .int .i64 t, .int .u8 k, .int .i64 g, .int .i64 s, .int .i64 b, .int .i64 p, .string u, .int .i64 i, .int .i64 tm] 25)) hG)
      cases hz : decide ((1024 : Int) < (u.size : Int)) with
      | true =>
        have hz2 : ¬ L.length ≤ 1024 := by have := of_decide_eq_true hz; have := HSZ.out; omega
        have HE : Hid (Wp.mayM ⟨f, t, k, g, s, b, p, L, i, tm⟩ = false) := by simp [Hid, Wp.mayM, Wp.headB, Wp.kindB, hF2, hT2, hG2, hz2]
        go_enter Try.func110, Try.ntmps110
        go_wp2_with (first | (with_reducible refine NF.out.mono ?_; rintro e w' ⟨rfl, rfl⟩) | (with_reducible refine NT.out.mono ?_; rintro e w' ⟨rfl, rfl⟩) | (with_reducible refine NG.out.mono ?_; rintro e w' ⟨rfl, rfl⟩))
        go_ret
        rw [HE.out]
        exact ⟨rfl, (Below.refl _ _).alloc (Nat.le_refl _) _⟩
      | false =>
        have hz2 : L.length ≤ 1024 := by have := of_decide_eq_false hz; have := HSZ.out; omega
        cases hb : may b with
        | false =>
          have NB := Lib.hid (rmay_no (w.alloc (.cells #[.int .i64 f, .int .i64 t, .int .u8 k, .int .i64 g, .int .i64 s, .int .i64 b, .int .i64 p, .string u, .int .i64 i, .int .i64 tm] 25)) b hb)
          have HE : Hid (Wp.mayM ⟨f, t, k, g, s, b, p, L, i, tm⟩ = false) := by simp [Hid, Wp.mayM, Wp.headB, Wp.kindB, hF2, hT2, hG2, hz2, hb, k1, k2, k3, k4, k5, k6, k7, k8, k9]
          go_enter Try.func110, Try.ntmps110
          go_wp2_with (first | (with_reducible refine NF.out.mono ?_; rintro e w' ⟨rfl, rfl⟩) | (with_reducible refine NT.out.mono ?_; rintro e w' ⟨rfl, rfl⟩) | (with_reducible refine NG.out.mono ?_; rintro e w' ⟨rfl, rfl⟩) | (with_reducible refine NB.out.mono ?_; rintro e w' ⟨rfl, rfl⟩))
          go_ret
          rw [HE.out]
          exact ⟨rfl, (Below.refl _ _).alloc (Nat.le_refl _) _⟩
        | true =>
          have NB := Lib.hid (rmay_yes (w.alloc (.cells #[.int .i64 f, .int .i64 t, .int .u8 k, .int .i64 g, .int .i64 s, .int .i64 b, .int .i64 p, .string u, .int .i64 i, .int .i64 tm] 25)) b hb)
          have HE : Hid (Wp.mayM ⟨f, t, k, g, s, b, p, L, i, tm⟩ = false) := by simp [Hid, Wp.mayM, Wp.headB, Wp.kindB, hF2, hT2, hG2, hz2, hb, k1, k2, k3, k4, k5, k6, k7, k8, k9]
          go_enter Try.func110, Try.ntmps110
          go_wp2_with (first | (with_reducible refine NF.out.mono ?_; rintro e w' ⟨rfl, rfl⟩) | (with_reducible refine NT.out.mono ?_; rintro e w' ⟨rfl, rfl⟩) | (with_reducible refine NG.out.mono ?_; rintro e w' ⟨rfl, rfl⟩) | (with_reducible refine NB.out.mono ?_; rintro e w' ⟨rfl, rfl⟩))
          go_ret
          rw [HE.out]
          exact ⟨rfl, (Below.refl _ _).alloc (Nat.le_refl _) _⟩
theorem rmay23_any (f t k g s b p : Int) (u : ByteArray) (i tm : Int) (w : World) (hu : u.size ≤ 9223372036854775807) :
    Calls Try.prog 110 #[.agg #[.int .i64 f, .int .i64 t, .int .u8 k, .int .i64 g, .int .i64 s, .int .i64 b, .int .i64 p, .string u, .int .i64 i, .int .i64 tm]] w fun e w' => e = .returned (.bool (Wp.mayM ⟨f, t, k, g, s, b, p, u.data.toList, i, tm⟩)) ∧ Below w.heap.size w w' := by
  by_cases k1 : k = 1
  · subst k1
    exact rmay23_1 f t g s b p u i tm w hu
  by_cases k2 : k = 2
  · subst k2
    exact rmay23_2 f t g s b p u i tm w hu
  by_cases k3 : k = 3
  · subst k3
    exact rmay23_3 f t g s b p u i tm w hu
  by_cases k4 : k = 4
  · subst k4
    exact rmay23_4 f t g s b p u i tm w hu
  by_cases k5 : k = 5
  · subst k5
    exact rmay23_5 f t g s b p u i tm w hu
  by_cases k6 : k = 6
  · subst k6
    exact rmay23_6 f t g s b p u i tm w hu
  by_cases k7 : k = 7
  · subst k7
    exact rmay23_7 f t g s b p u i tm w hu
  by_cases k8 : k = 8
  · subst k8
    exact rmay23_8 f t g s b p u i tm w hu
  by_cases k9 : k = 9
  · subst k9
    exact rmay23_9 f t g s b p u i tm w hu
  exact rmay23_other f t k g s b p u i tm w hu k1 k2 k3 k4 k5 k6 k7 k8 k9
end Go.Proofs.Ytmchnjnknnolmaa
