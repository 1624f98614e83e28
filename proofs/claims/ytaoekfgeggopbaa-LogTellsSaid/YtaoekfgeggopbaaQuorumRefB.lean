/-
  Contracts of the reference's chapter 6: Need, Counts, Most, Within.
-/
import Derived.Test.YtaoekfgeggopbaaQuorumRef
namespace Go.Proofs.Ytaoekfgeggopbaa
open Go.RowKit
set_option maxHeartbeats 1000000
set_option maxRecDepth 100000
set_option linter.unusedVariables false

theorem among_next {l nodes : List Int} {k : Nat} {z : Int} (h : l[k]? = some z) : Qm.among (l.take (k + 1)) nodes = Qm.among (l.take k) nodes + (if z ∈ nodes then 1 else 0) := by
  unfold Qm.among
  rw [List.take_add_one, h, List.countP_append]
  simp
theorem rwithin_any (A : Option Addr) (n c B : Nat) (l : List Int) (A' : Option Addr) (n' c' B' : Nat) (l' : List Int) (w : World) (hr : Reads w B 1 A n (ci l)) (hr' : Reads w B' 1 A' n' (ci l')) (hn : n ≤ 1000000) (hn' : n' ≤ 1000000) :
    Calls Try.prog 91 #[.slice A n c, .slice A' n' c'] w fun e w' => e = .returned (.bool (within l l')) ∧ w = w' := by
  have hl := hr.len_i
  have HL := Lib.hid hl
  have HR := Lib.hid hr
  have HR' := Lib.hid hr'
  clear hr hr'
  go_enter Try.func91, Try.ntmps91
  go_wp2
  go_loopw [5] (fun y wr => (∃ k : Nat, y = .int .i64 (k : Int) ∧ k ≤ n ∧ ∀ x ∈ l.take k, x ∈ l') ∧ wr = w) (fun y _ => n - (intOf y).toNat)
  case atStart => exact ⟨⟨0, rfl, by omega, by simp⟩, rfl⟩
  case round =>
    obtain ⟨⟨k, rfl, hk, he⟩, rfl⟩ := hrel
    have HE := Lib.hid he
    clear he
    by_cases hlt : k < n
    · obtain ⟨ad, u, rfl, hbl, hu, hc⟩ := HR.out.at_ hlt
      have hkl : k < l.length := by omega
      have hg : l[k]? = some (l[k]'hkl) := List.getElem?_eq_getElem hkl
      rw [ci_get, hg] at hu
      simp only [Option.map_some, Option.some.injEq] at hu
      subst hu
      have ht : l.take (k + 1) = l.take k ++ [l[k]'hkl] := by rw [List.take_add_one, hg]; rfl
      have hm : l[k]'hkl ∈ l := List.getElem_mem hkl
      obtain ⟨z, hz⟩ : ∃ z, l[k]'hkl = z := ⟨_, rfl⟩
      rw [hz] at hc ht hm
      have HT := Lib.hid ht
      have HM := Lib.hid hm
      have H1 := Lib.hid (rhas_any A' n' c' _ l' z _ HR'.out (by omega))
      clear hz hg hl ht hm
      by_cases h0 : z ∈ l'
      · rw [decide_eq_true h0] at H1
        have H0 := Lib.hid h0
        clear h0
        go_wp2_with (first | (with_reducible refine H1.out.mono ?_; rintro e w' ⟨rfl, rfl⟩))
        go_roundw
        case rel =>
          refine ⟨⟨k + 1, by go_num, by omega, ?_⟩, by trivial⟩
          rw [HT.out]
          intro x hx
          rcases List.mem_append.1 hx with hx | hx
          · exact HE.out x hx
          · rw [List.mem_singleton.1 hx]
            exact H0.out
        case measure => simp [intOf]; omega
      · rw [decide_eq_false h0] at H1
        have H0 : Hid (¬ within l l' = true) := Lib.hid (by
          unfold within
          rw [List.all_eq_true]
          intro h
          have := h z HM.out
          exact h0 (of_decide_eq_true this))
        clear h0
        go_wp2_with (first | (with_reducible refine H1.out.mono ?_; rintro e w' ⟨rfl, rfl⟩))
        go_ret
        rw [Bool.eq_false_iff.2 H0.out]
        exact ⟨rfl, by trivial⟩
    · have H0 : Hid (within l l' = true) := Lib.hid (by
        have h1 := HE.out
        rw [List.take_of_length_le (by omega)] at h1
        unfold within
        rw [List.all_eq_true]
        intro x hx
        exact decide_eq_true (h1 x hx))
      go_wp2
      go_ret
      rw [H0.out]
      exact ⟨rfl, by trivial⟩
end Go.Proofs.Ytaoekfgeggopbaa
