/-
  Contracts of the reference's chapter 6: Need, Counts, Most, Within.
-/
import Derived.Test.YtaajfilecmgcnaaQuorumRef
namespace Go.Proofs.Ytaajfilecmgcnaa
open Go.RowKit
set_option maxHeartbeats 1000000
set_option maxRecDepth 100000
set_option linter.unusedVariables false

theorem rneed_ok (A : Option Addr) (n c B : Nat) (l : List Int) (w : World) (hr : Reads w B 1 A n (ci l)) (h : Qm.check l = 0) :
    Calls Try.prog 39 #[.slice A n c] w fun e w' => e = .returned (.tuple #[.int .i64 ((n / 2 + 1 : Nat) : Int), .int .i64 0]) ∧ ∃ q, w' = w.drewN q := by
  have hl := hr.len_i
  have h6 := (check_zero h).2
  have H := Lib.hid (rcheck_any A n c B l w hr (by omega))
  rw [h] at H
  clear hr h
  go_enter Try.func39, Try.ntmps39
  go_wp2_with fail
  refine H.out.mono ?_
  rintro e w' ⟨rfl, q, rfl⟩
  go_wp2
  go_ret2
  exact ⟨by congr 3, q, rfl⟩
theorem rneed_bad (A : Option Addr) (n c B : Nat) (l : List Int) (v : Int) (w : World) (hr : Reads w B 1 A n (ci l)) (hn : n ≤ 9223372036854775807) (h : Qm.check l = v) (hv : v ≠ 0) :
    Calls Try.prog 39 #[.slice A n c] w fun e w' => e = .returned (.tuple #[.int .i64 0, .int .i64 v]) ∧ ∃ q, w' = w.drewN q := by
  have H := Lib.hid (rcheck_any A n c B l w hr hn)
  rw [h] at H
  clear hr h
  go_enter Try.func39, Try.ntmps39
  go_wp2_with fail
  refine H.out.mono ?_
  rintro e w' ⟨rfl, q, rfl⟩
  go_wp2
  go_ret2
  exact ⟨rfl, q, rfl⟩

theorem among_next {l nodes : List Int} {k : Nat} {z : Int} (h : l[k]? = some z) : Qm.among (l.take (k + 1)) nodes = Qm.among (l.take k) nodes + (if z ∈ nodes then 1 else 0) := by
  unfold Qm.among
  rw [List.take_add_one, h, List.countP_append]
  simp
theorem rcounts_any (A : Option Addr) (n c B : Nat) (l : List Int) (A' : Option Addr) (n' c' B' : Nat) (l' : List Int) (w : World) (hr : Reads w B 1 A n (ci l)) (hr' : Reads w B' 1 A' n' (ci l')) (hn : n ≤ 1000000) (hn' : n' ≤ 1000000) :
    Calls Try.prog 56 #[.slice A n c, .slice A' n' c'] w fun e w' => e = .returned (.bool (decide (n / 2 + 1 ≤ Qm.among l l'))) ∧ w = w' := by
  have hl := hr.len_i
  have HL := Lib.hid hl
  have HR := Lib.hid hr
  have HR' := Lib.hid hr'
  clear hr hr'
  go_enter Try.func56, Try.ntmps56
  go_wp2
  go_loopw [5, 6] (fun x y wr => (∃ k s : Nat, x = .int .i64 (s : Int) ∧ y = .int .i64 (k : Int) ∧ k ≤ n ∧ s ≤ k ∧ Qm.among (l.take k) l' = s) ∧ wr = w) (fun _ y _ => n - (intOf y).toNat)
  case atStart => exact ⟨⟨0, 0, rfl, rfl, by omega, by omega, rfl⟩, rfl⟩
  case round =>
    obtain ⟨⟨k, s, rfl, rfl, hk, hs, he⟩, rfl⟩ := hrel
    have HE := Lib.hid he
    clear he
    by_cases hlt : k < n
    · obtain ⟨ad, u, rfl, hbl, hu, hc⟩ := HR.out.at_ hlt
      have hkl : k < l.length := by omega
      have hg : l[k]? = some (l[k]'hkl) := List.getElem?_eq_getElem hkl
      rw [ci_get, hg] at hu
      simp only [Option.map_some, Option.some.injEq] at hu
      subst hu
      obtain ⟨z, hz⟩ : ∃ z, l[k]'hkl = z := ⟨_, rfl⟩
      rw [hz] at hc hg
      have HN := Lib.hid (among_next (nodes := l') hg)
      have H1 := Lib.hid (rhas_any A' n' c' _ l' z _ HR'.out (by omega))
      clear hz hg hl
      by_cases h0 : z ∈ l'
      · rw [decide_eq_true h0] at H1
        rw [if_pos h0] at HN
        clear h0
        go_wp2_with (first | (with_reducible refine H1.out.mono ?_; rintro e w' ⟨rfl, rfl⟩))
        go_roundw
        case rel => exact ⟨⟨k + 1, s + 1, by go_num, by go_num, by omega, by omega, by rw [HN.out, HE.out]⟩, by trivial⟩
        case measure => simp [intOf]; omega
      · rw [decide_eq_false h0] at H1
        rw [if_neg h0] at HN
        clear h0
        go_wp2_with (first | (with_reducible refine H1.out.mono ?_; rintro e w' ⟨rfl, rfl⟩))
        go_roundw
        case rel => exact ⟨⟨k + 1, s, rfl, by go_num, by omega, by omega, by rw [HN.out, HE.out]; rfl⟩, by trivial⟩
        case measure => simp [intOf]; omega
    · have h1 := HE.out
      rw [List.take_of_length_le (by omega)] at h1
      have H1 := Lib.hid h1
      clear h1
      go_wp2
      go_ret
      rw [H1.out]
      refine ⟨?_, by trivial⟩
      simp
      omega
theorem rmost_ok (A : Option Addr) (n c B : Nat) (l : List Int) (A' : Option Addr) (n' c' B' : Nat) (l' : List Int) (w : World) (hr : Reads w B 1 A n (ci l)) (hr' : Reads w B' 1 A' n' (ci l')) (h : Qm.check l = 0) (hn : n' ≤ 1000) :
    Calls Try.prog 40 #[.slice A n c, .slice A' n' c'] w fun e w' => e = .returned (.tuple #[.bool (decide (n / 2 + 1 ≤ Qm.among l l')), .int .i64 0]) ∧ ∃ q, w' = w.drewN q := by
  have hl := hr.len_i
  have h6 := (check_zero h).2
  have H := Lib.hid (rcheck_any A n c B l w hr (by omega))
  rw [h] at H
  have H2 := Lib.hid (fun q => rcounts_any A n c B l A' n' c' B' l' (w.drewN q) (hr.drewN q) (hr'.drewN q) (by omega) (by omega))
  generalize decide (n / 2 + 1 ≤ Qm.among l l') = r at *
  clear hr hr' h
  go_enter Try.func40, Try.ntmps40
  go_wp2_with fail
  refine H.out.mono ?_
  rintro e w' ⟨rfl, q, rfl⟩
  go_wp2_with fail
  refine (H2.out q).mono ?_
  rintro e w' ⟨rfl, rfl⟩
  go_wp2
  go_ret2
  exact ⟨rfl, q, rfl⟩
theorem rmost_many (A : Option Addr) (n c B : Nat) (l : List Int) (A' : Option Addr) (n' c' : Nat) (w : World) (hr : Reads w B 1 A n (ci l)) (h : Qm.check l = 0) (hn : 1000 < n') (hn' : n' ≤ 9223372036854775807) :
    Calls Try.prog 40 #[.slice A n c, .slice A' n' c'] w fun e w' => e = .returned (.tuple #[.bool false, .int .i64 4]) ∧ ∃ q, w' = w.drewN q := by
  have hl := hr.len_i
  have h6 := (check_zero h).2
  have H := Lib.hid (rcheck_any A n c B l w hr (by omega))
  rw [h] at H
  clear hr h
  go_enter Try.func40, Try.ntmps40
  go_wp2_with fail
  refine H.out.mono ?_
  rintro e w' ⟨rfl, q, rfl⟩
  go_wp2
  go_ret2
  exact ⟨rfl, q, rfl⟩
theorem rmost_bad (A : Option Addr) (n c B : Nat) (l : List Int) (A' : Option Addr) (n' c' : Nat) (v : Int) (w : World) (hr : Reads w B 1 A n (ci l)) (hn : n ≤ 9223372036854775807) (h : Qm.check l = v) (hv : v ≠ 0) :
    Calls Try.prog 40 #[.slice A n c, .slice A' n' c'] w fun e w' => e = .returned (.tuple #[.bool false, .int .i64 v]) ∧ ∃ q, w' = w.drewN q := by
  have H := Lib.hid (rcheck_any A n c B l w hr hn)
  rw [h] at H
  clear hr h
  go_enter Try.func40, Try.ntmps40
  go_wp2_with fail
  refine H.out.mono ?_
  rintro e w' ⟨rfl, q, rfl⟩
  go_wp2
  go_ret2
  exact ⟨rfl, q, rfl⟩

theorem rwithin_any (A : Option Addr) (n c B : Nat) (l : List Int) (A' : Option Addr) (n' c' B' : Nat) (l' : List Int) (w : World) (hr : Reads w B 1 A n (ci l)) (hr' : Reads w B' 1 A' n' (ci l')) (hn : n ≤ 1000000) (hn' : n' ≤ 1000000) :
    Calls Try.prog 67 #[.slice A n c, .slice A' n' c'] w fun e w' => e = .returned (.bool (within l l')) ∧ w = w' := by
  have hl := hr.len_i
  have HL := Lib.hid hl
  have HR := Lib.hid hr
  have HR' := Lib.hid hr'
  clear hr hr'
  go_enter Try.func67, Try.ntmps67
  go_wp2
  go_loopw [5] (fun y wr => (∃ k : Nat, y = .int .i64 (k : Int) ∧ k ≤ n ∧ ∀ x ∈ l.take k, x ∈ l') ∧ wr = w) (fun y _ => n - (intOf y).toNat)
  case atStart => exact ⟨⟨0, rfl, by omega, by simp⟩, rfl⟩
  case round =>
    obtain ⟨⟨k, rfl, hk, he⟩, rfl⟩ := hrel
    have HE := Lib.hid he
    clear he
    by_cases hlt : k < n
    · obtain ⟨ad, u, rfl, hbl, hu, hc⟩ := HR.out.at_ hlt
      have hkl : k < l.length := by omega
      have hg : l[k]? = some (l[k]'hkl) := List.getElem?_eq_getElem hkl
      rw [ci_get, hg] at hu
      simp only [Option.map_some, Option.some.injEq] at hu
      subst hu
      have ht : l.take (k + 1) = l.take k ++ [l[k]'hkl] := by rw [List.take_add_one, hg]; rfl
      have hm : l[k]'hkl ∈ l := List.getElem_mem hkl
      obtain ⟨z, hz⟩ : ∃ z, l[k]'hkl = z := ⟨_, rfl⟩
      rw [hz] at hc ht hm
      have HT := Lib.hid ht
      have HM := Lib.hid hm
      have H1 := Lib.hid (rhas_any A' n' c' _ l' z _ HR'.out (by omega))
      clear hz hg hl ht hm
      by_cases h0 : z ∈ l'
      · rw [decide_eq_true h0] at H1
        have H0 := Lib.hid h0
        clear h0
        go_wp2_with (first | (with_reducible refine H1.out.mono ?_; rintro e w' ⟨rfl, rfl⟩))
        go_roundw
        case rel =>
          refine ⟨⟨k + 1, by go_num, by omega, ?_⟩, by trivial⟩
          rw [HT.out]
          intro x hx
          rcases List.mem_append.1 hx with hx | hx
          · exact HE.out x hx
          · rw [List.mem_singleton.1 hx]
            exact H0.out
        case measure => simp [intOf]; omega
      · rw [decide_eq_false h0] at H1
        have H0 : Hid (¬ within l l' = true) := Lib.hid (by
          unfold within
          rw [List.all_eq_true]
          intro h
          have := h z HM.out
          exact h0 (of_decide_eq_true this))
        clear h0
        go_wp2_with (first | (with_reducible refine H1.out.mono ?_; rintro e w' ⟨rfl, rfl⟩))
        go_ret
        rw [Bool.eq_false_iff.2 H0.out]
        exact ⟨rfl, by trivial⟩
    · have H0 : Hid (within l l' = true) := Lib.hid (by
        have h1 := HE.out
        rw [List.take_of_length_le (by omega)] at h1
        unfold within
        rw [List.all_eq_true]
        intro x hx
        exact decide_eq_true (h1 x hx))
      go_wp2
      go_ret
      rw [H0.out]
      exact ⟨rfl, by trivial⟩
end Go.Proofs.Ytaajfilecmgcnaa
