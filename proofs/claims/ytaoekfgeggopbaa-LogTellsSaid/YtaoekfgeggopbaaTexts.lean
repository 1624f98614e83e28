/-
  The contracts of the reference's SameTexts (two equal lists are the same) and Great.
-/
import Derived.Test.YtaoekfgeggopbaaBase
namespace Go.Proofs.Ytaoekfgeggopbaa
open Go.RowKit
set_option maxHeartbeats 400000
set_option maxRecDepth 100000
set_option linter.unusedVariables false

theorem sameTexts_yes (A : Option Addr) (n c : Nat) (A' : Option Addr) (n' c' B B' : Nat) (l l' : List ByteArray) (w : World) (hr : Reads w B 1 A n (ct l)) (hr' : Reads w B' 1 A' n' (ct l')) (hn : n ≤ 1000000000000) (he : l = l') :
    Calls Try.prog 40 #[.slice A n c, .slice A' n' c'] w fun e w' => e = .returned (.bool true) ∧ ∃ q, w' = w.drewN q := by
  subst he
  have hl := hr.len_t
  have hl' := hr'.len_t
  have hnn : n = n' := by omega
  subst hnn
  clear hl'
  go_enter Try.func40, Try.ntmps40
  go_wp2
  go_loopw [5] (fun y wr => ∃ k : Nat, y = .int .i64 (k : Int) ∧ k ≤ n ∧ ∃ q, wr = w.drewN q) (fun y _ => n - (intOf y).toNat)
  case atStart => exact ⟨0, rfl, by omega, 0, rfl⟩
  case round =>
    obtain ⟨k, rfl, hk, q, rfl⟩ := hrel
    by_cases hlt : k < n
    · obtain ⟨ad, u, rfl, hbl, hu, hc⟩ := hr.at_ hlt
      obtain ⟨ad', u', rfl, hbl', hu', hc'⟩ := hr'.at_ hlt
      rw [hu] at hu'
      injection hu' with hu'
      subst hu'
      have hg : l[k]? = some (l[k]'(by omega)) := List.getElem?_eq_getElem (by omega)
      rw [ct_get, hg] at hu
      simp only [Option.map_some, Option.some.injEq] at hu
      subst hu
      clear hg hr hr'
      obtain ⟨z, hz⟩ : ∃ z, l[k]'(by omega) = z := ⟨_, rfl⟩
      rw [hz] at hc hc'
      clear hz
      go_wp2_with fail
      go_quiet (fail)
      go_wp2
      go_roundw
      case rel => exact ⟨k + 1, by go_num, by omega, _, rfl⟩
      case measure => simp [intOf]; omega
    · clear hr hr'
      go_wp2
      go_ret
      exact ⟨rfl, q, rfl⟩

def GreatPost (n : Nat) (e : Ending) : Prop := ∃ r, e = .returned (.bool r) ∧ (r = false → n ≤ 1000)
theorem great_any (A : Option Addr) (n c B : Nat) (l : List ByteArray) (w : World) (hr : Reads w B 1 A n (ct l)) (hn : n ≤ 9223372036854775807) :
    Calls Try.prog 29 #[.slice A n c] w fun e w' => GreatPost n e ∧ w = w' := by
  have hl := hr.len_t
  have HR := Lib.hid hr
  clear hr
  go_enter Try.func29, Try.ntmps29
  go_wp2
  go_loopw [3, 4] (fun x y wr => ∃ k s : Nat, y = .int .i64 (k : Int) ∧ x = .int .i64 (s : Int) ∧ k ≤ n ∧ k ≤ 2000 ∧ s ≤ k * 100000 ∧ wr = w) (fun _ y _ => n - (intOf y).toNat)
  case atStart => exact ⟨0, 0, rfl, rfl, by omega, by omega, by omega, rfl⟩
  case round =>
    obtain ⟨k, s, rfl, rfl, hk, hk2, hs, rfl⟩ := hrel
    by_cases hlt : k < n
    · by_cases hlt2 : k < 2000
      · obtain ⟨ad, u, rfl, hbl, hu, hc⟩ := HR.out.at_ hlt
        have hg : l[k]? = some (l[k]'(by omega)) := List.getElem?_eq_getElem (by omega)
        rw [ct_get, hg] at hu
        simp only [Option.map_some, Option.some.injEq] at hu
        subst hu
        clear hg
        obtain ⟨z, hz⟩ : ∃ z, l[k]'(by omega) = z := ⟨_, rfl⟩
        rw [hz] at hc
        clear hz
        by_cases hz : z.size ≤ 100000
        · have hm : min (z.size : Int) 100000 = (z.size : Int) := by omega
          go_wp2
          go_roundw
          case rel => exact ⟨k + 1, s + z.size, by go_num, by go_num, by omega, by omega, by omega, by trivial⟩
          case measure => simp [intOf]; omega
        · have hm : min (z.size : Int) 100000 = 100000 := by omega
          go_wp2
          go_roundw
          case rel => exact ⟨k + 1, s + 100000, by go_num, by go_num, by omega, by omega, by omega, by trivial⟩
          case measure => simp [intOf]; omega
      · by_cases hb : (1000 : Int) < (n : Int)
        · go_wp2
          all_goals (go_ret; exact ⟨⟨true, rfl, by intro h; cases h⟩, rfl⟩)
        · exfalso; omega
    · by_cases hb : (1000 : Int) < (n : Int)
      · go_wp2
        all_goals (go_ret; exact ⟨⟨true, rfl, by intro h; cases h⟩, rfl⟩)
      · go_wp2
        all_goals (go_ret; exact ⟨⟨_, rfl, by intro h; omega⟩, rfl⟩)
end Go.Proofs.Ytaoekfgeggopbaa
