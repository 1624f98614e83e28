/-
  The contract of the reference's SameInts: two equal lists are the same.
-/
import Derived.Test.YtmchnjnknnolmaaBase
namespace Go.Proofs.Ytmchnjnknnolmaa
open Go.RowKit
set_option maxHeartbeats 400000
set_option maxRecDepth 100000
set_option linter.unusedVariables false

theorem sameInts_yes (A : Option Addr) (n c : Nat) (A' : Option Addr) (n' c' B B' : Nat) (l l' : List Int) (w : World) (hr : Reads w B 1 A n (ci l)) (hr' : Reads w B' 1 A' n' (ci l')) (hn : n ≤ 1000000000000) (he : l = l') :
    Calls Try.prog 42 #[.slice A n c, .slice A' n' c'] w fun e w' => e = .returned (.bool true) ∧ ∃ q, w' = w.drewN q := by
  subst he
  have hl := hr.len_i
  have hl' := hr'.len_i
  have hnn : n = n' := by omega
  subst hnn
  clear hl'
  go_enter Try.func42, Try.ntmps42
  go_wp2
  go_loopw [5] (fun y wr => ∃ k : Nat, y = .int .i64 (k : Int) ∧ k ≤ n ∧ ∃ q, wr = w.drewN q) (fun y _ => n - (intOf y).toNat)
  case atStart => exact ⟨0, rfl, by omega, 0, rfl⟩
  case round =>
    obtain ⟨k, rfl, hk, q, rfl⟩ := hrel
    by_cases hlt : k < n
    · obtain ⟨ad, u, rfl, hbl, hu, hc⟩ := hr.at_ hlt
      obtain ⟨ad', u', rfl, hbl', hu', hc'⟩ := hr'.at_ hlt
      rw [hu] at hu'
      injection hu' with hu'
      subst hu'
      have hg : l[k]? = some (l[k]'(by omega)) := List.getElem?_eq_getElem (by omega)
      rw [ci_get, hg] at hu
      simp only [Option.map_some, Option.some.injEq] at hu
      subst hu
      clear hg hr hr'
      obtain ⟨z, hz⟩ : ∃ z, l[k]'(by omega) = z := ⟨_, rfl⟩
      rw [hz] at hc hc'
      clear hz
      go_wp2_with fail
      go_quiet (fail)
      go_wp2
      go_roundw
      case rel => exact ⟨k + 1, by go_num, by omega, _, rfl⟩
      case measure => simp [intOf]; omega
    · clear hr hr'
      go_wp2
      go_ret
      exact ⟨rfl, q, rfl⟩
end Go.Proofs.Ytmchnjnknnolmaa
