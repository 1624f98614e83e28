/-
  Lists of numbers compared: slices.Equal and the reference's SameInts, for any two lists.
-/
import Derived.Test.YtaoekfgeggopbaaBase
namespace Go.Proofs.Ytaoekfgeggopbaa
open Go.RowKit
set_option maxHeartbeats 400000
set_option maxRecDepth 100000
set_option linter.unusedVariables false

theorem eqInts_any (A : Option Addr) (n c : Nat) (A' : Option Addr) (n' c' B B' : Nat) (l l' : List Int) (w : World) (hr : Reads w B 1 A n (ci l)) (hr' : Reads w B' 1 A' n' (ci l')) (hn : n ≤ 9223372036854775807) (hn' : n' ≤ 9223372036854775807) (b : Bool) (hb : decide (l = l') = b) :
    Calls Try.prog 54 #[.slice A n c, .slice A' n' c'] w fun e w' => e = .returned (.bool b) ∧ ∃ q, w' = w.drewN q := by
  have hl := hr.len_i
  have hl' := hr'.len_i
  by_cases hnn : n = n'
  rotate_left
  · obtain rfl : b = false := by rw [← hb]; exact decide_eq_false (fun h => hnn (by rw [← hl, ← hl', h]))
    have hne : decide ((n : Int) = (n' : Int)) = false := decide_eq_false (by omega)
    clear hr hr' hl hl' hb
    go_enter Try.func54, Try.ntmps54
    go_wp2
    go_ret
    exact ⟨rfl, 0, rfl⟩
  subst hnn
  have HB := Lib.hid hb
  have HL := Lib.hid hl
  have HL' := Lib.hid hl'
  clear hl' hb hl
  go_enter Try.func54, Try.ntmps54
  go_wp2
  go_loopw [13] (fun y wr => ∃ k : Nat, y = .int .i64 (k : Int) ∧ k ≤ n ∧ l.take k = l'.take k ∧ ∃ q, wr = w.drewN q) (fun y _ => n - (intOf y).toNat)
  case atStart => exact ⟨0, rfl, by omega, rfl, 0, rfl⟩
  case round =>
    obtain ⟨k, rfl, hk, hpre, q, rfl⟩ := hrel
    have HP := Lib.hid hpre
    clear hpre
    by_cases hlt : k < n
    · obtain ⟨ad, u, rfl, hbl, hu, hc⟩ := hr.at_ hlt
      obtain ⟨ad', u', rfl, hbl', hu', hc'⟩ := hr'.at_ hlt
      have hg : l[k]? = some (l[k]'(by have := HL.out; omega)) := List.getElem?_eq_getElem _
      have hg' : l'[k]? = some (l'[k]'(by have := HL'.out; omega)) := List.getElem?_eq_getElem _
      rw [ci_get, hg] at hu
      rw [ci_get, hg'] at hu'
      simp only [Option.map_some, Option.some.injEq] at hu hu'
      subst hu
      subst hu'
      have HG := Lib.hid hg
      have HG' := Lib.hid hg'
      clear hg hg' hr hr'
      obtain ⟨z, hz⟩ : ∃ z, l[k]'(by have := HL.out; omega) = z := ⟨_, rfl⟩
      obtain ⟨z', hz'⟩ : ∃ z, l'[k]'(by have := HL'.out; omega) = z := ⟨_, rfl⟩
      rw [hz] at hc HG
      rw [hz'] at hc' HG'
      clear hz hz'
      by_cases he : z = z'
      · subst he
        go_wp2_with fail
        go_quiet (fail)
        go_wp2
        go_roundw
        case rel => exact ⟨k + 1, by go_num, by omega, by rw [List.take_add_one, List.take_add_one, HP.out, HG.out, HG'.out], _, rfl⟩
        case measure => simp [intOf]; omega
      · have hzz := Lib.hid he
        have hf : Hid (b = false) := by
          rw [Hid, ← HB.out]
          refine decide_eq_false fun h => hzz.out ?_
          have h1 := HG.out
          rw [h, HG'.out] at h1
          injection h1 with h1
          exact h1.symm
        go_wp2_with fail
        go_quiet (fail)
        go_wp2
        go_ret
        rw [hf.out]
        exact ⟨rfl, _, World.drewN_drewN _ _ _⟩
    · have hf : Hid (b = true) := by
        rw [Hid, ← HB.out]
        refine decide_eq_true ?_
        have h1 := HP.out
        have h2 := HL.out
        have h3 := HL'.out
        rwa [List.take_of_length_le (by omega), List.take_of_length_le (by omega)] at h1
      clear hr hr'
      go_wp2
      go_ret
      rw [hf.out]
      exact ⟨rfl, q, rfl⟩
theorem rsameInts_any (A : Option Addr) (n c : Nat) (A' : Option Addr) (n' c' B B' : Nat) (l l' : List Int) (w : World) (hr : Reads w B 1 A n (ci l)) (hr' : Reads w B' 1 A' n' (ci l')) (hn : n ≤ 9223372036854775807) (hn' : n' ≤ 9223372036854775807) (b : Bool) (hb : decide (l = l') = b) :
    Calls Try.prog 37 #[.slice A n c, .slice A' n' c'] w fun e w' => e = .returned (.bool b) ∧ ∃ q, w' = w.drewN q := by
  have hl := hr.len_i
  have hl' := hr'.len_i
  by_cases hnn : n = n'
  rotate_left
  · obtain rfl : b = false := by rw [← hb]; exact decide_eq_false (fun h => hnn (by rw [← hl, ← hl', h]))
    have hne : decide ((n : Int) = (n' : Int)) = false := decide_eq_false (by omega)
    clear hr hr' hl hl' hb
    go_enter Try.func37, Try.ntmps37
    go_wp2
    go_ret
    exact ⟨rfl, 0, rfl⟩
  subst hnn
  have HB := Lib.hid hb
  have HL := Lib.hid hl
  have HL' := Lib.hid hl'
  clear hl' hb hl
  go_enter Try.func37, Try.ntmps37
  go_wp2
  go_loopw [5] (fun y wr => ∃ k : Nat, y = .int .i64 (k : Int) ∧ k ≤ n ∧ l.take k = l'.take k ∧ ∃ q, wr = w.drewN q) (fun y _ => n - (intOf y).toNat)
  case atStart => exact ⟨0, rfl, by omega, rfl, 0, rfl⟩
  case round =>
    obtain ⟨k, rfl, hk, hpre, q, rfl⟩ := hrel
    have HP := Lib.hid hpre
    clear hpre
    by_cases hlt : k < n
    · obtain ⟨ad, u, rfl, hbl, hu, hc⟩ := hr.at_ hlt
      obtain ⟨ad', u', rfl, hbl', hu', hc'⟩ := hr'.at_ hlt
      have hg : l[k]? = some (l[k]'(by have := HL.out; omega)) := List.getElem?_eq_getElem _
      have hg' : l'[k]? = some (l'[k]'(by have := HL'.out; omega)) := List.getElem?_eq_getElem _
      rw [ci_get, hg] at hu
      rw [ci_get, hg'] at hu'
      simp only [Option.map_some, Option.some.injEq] at hu hu'
      subst hu
      subst hu'
      have HG := Lib.hid hg
      have HG' := Lib.hid hg'
      clear hg hg' hr hr'
      obtain ⟨z, hz⟩ : ∃ z, l[k]'(by have := HL.out; omega) = z := ⟨_, rfl⟩
      obtain ⟨z', hz'⟩ : ∃ z, l'[k]'(by have := HL'.out; omega) = z := ⟨_, rfl⟩
      rw [hz] at hc HG
      rw [hz'] at hc' HG'
      clear hz hz'
      by_cases he : z = z'
      · subst he
        go_wp2_with fail
        go_quiet (fail)
        go_wp2
        go_roundw
        case rel => exact ⟨k + 1, by go_num, by omega, by rw [List.take_add_one, List.take_add_one, HP.out, HG.out, HG'.out], _, rfl⟩
        case measure => simp [intOf]; omega
      · have hzz := Lib.hid he
        have hf : Hid (b = false) := by
          rw [Hid, ← HB.out]
          refine decide_eq_false fun h => hzz.out ?_
          have h1 := HG.out
          rw [h, HG'.out] at h1
          injection h1 with h1
          exact h1.symm
        go_wp2_with fail
        go_quiet (fail)
        go_wp2
        go_ret
        rw [hf.out]
        exact ⟨rfl, _, World.drewN_drewN _ _ _⟩
    · have hf : Hid (b = true) := by
        rw [Hid, ← HB.out]
        refine decide_eq_true ?_
        have h1 := HP.out
        have h2 := HL.out
        have h3 := HL'.out
        rwa [List.take_of_length_le (by omega), List.take_of_length_le (by omega)] at h1
      clear hr hr'
      go_wp2
      go_ret
      rw [hf.out]
      exact ⟨rfl, q, rfl⟩
end Go.Proofs.Ytaoekfgeggopbaa
