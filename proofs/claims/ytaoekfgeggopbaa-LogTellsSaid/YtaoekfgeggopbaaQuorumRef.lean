/-
  Contracts of the reference's chapter 6: Has, May, Check, Need, Counts, Most.
-/
import Derived.Test.YtaoekfgeggopbaaQuorumGroup
namespace Go.Proofs.Ytaoekfgeggopbaa
open Go.RowKit
set_option maxHeartbeats 1000000
set_option maxRecDepth 100000
set_option linter.unusedVariables false

theorem rhas_any (A : Option Addr) (n c B : Nat) (l : List Int) (x : Int) (w : World) (hr : Reads w B 1 A n (ci l)) (hn : n ≤ 1000000000000) :
    Calls Try.prog 103 #[.slice A n c, .int .i64 x] w fun e w' => e = .returned (.bool (decide (x ∈ l))) ∧ w = w' := by
  have hl := hr.len_i
  have HL := Lib.hid hl
  have HR := Lib.hid hr
  clear hr
  go_enter Try.func103, Try.ntmps103
  go_wp2
  go_loopw [5] (fun y wr => (∃ k : Nat, y = .int .i64 (k : Int) ∧ k ≤ n ∧ x ∉ l.take k) ∧ wr = w) (fun y _ => n - (intOf y).toNat)
  case atStart => exact ⟨⟨0, rfl, by omega, by simp⟩, rfl⟩
  case round =>
    obtain ⟨⟨k, rfl, hk, he⟩, rfl⟩ := hrel
    have HE := Lib.hid he
    clear he
    by_cases hlt : k < n
    · obtain ⟨ad, u, rfl, hbl, hu, hc⟩ := HR.out.at_ hlt
      have hkl : k < l.length := by omega
      have hg : l[k]? = some (l[k]'hkl) := List.getElem?_eq_getElem hkl
      rw [ci_get, hg] at hu
      simp only [Option.map_some, Option.some.injEq] at hu
      subst hu
      have ht : l.take (k + 1) = l.take k ++ [l[k]'hkl] := by rw [List.take_add_one, hg]; rfl
      have hm : l[k]'hkl ∈ l := List.getElem_mem hkl
      obtain ⟨z, hz⟩ : ∃ z, l[k]'hkl = z := ⟨_, rfl⟩
      rw [hz] at hc ht hm
      have HT := Lib.hid ht
      have HM := Lib.hid hm
      clear hz ht hm hg hl
      by_cases h0 : z = x
      · go_wp2
        go_ret
        refine ⟨?_, by trivial⟩
        rw [decide_eq_true (by rw [← h0]; exact HM.out)]
        rfl
      · go_wp2
        go_roundw
        case rel =>
          refine ⟨⟨k + 1, by go_num, by omega, ?_⟩, by trivial⟩
          rw [HT.out]
          intro h
          rcases List.mem_append.1 h with h | h
          · exact HE.out h
          · exact h0 (List.mem_singleton.1 h).symm
        case measure => simp [intOf]; omega
    · go_wp2
      go_ret
      have h1 := HE.out
      rw [List.take_of_length_le (by omega)] at h1
      refine ⟨?_, by trivial⟩
      rw [decide_eq_false h1]
      rfl

def MayRel (n : Nat) (l : List Int) (x : Value) : Prop := ∃ (k : Nat) (last : Int), x = .int .i64 (k : Int) ∧ k ≤ n ∧ -1 ≤ last ∧ (k = 0 → last = -1) ∧ (∀ j, k = j + 1 → l[j]? = some last) ∧ Qm.incr last (l.drop k) = Qm.incr (-1) l
set_option maxHeartbeats 1000000 in
theorem rmay_any (A : Option Addr) (n c B : Nat) (l : List Int) (w : World) (hr : Reads w B 1 A n (ci l)) (hn : n ≤ 6) :
    Calls Try.prog 95 #[.slice A n c] w fun e w' => e = .returned (.bool (Qm.may l)) ∧ ∃ q, w' = w.drewN q := by
  have hl := hr.len_i
  have HL := Lib.hid hl
  have HR := Lib.hid hr
  clear hr
  go_enter Try.func95, Try.ntmps95
  go_wp2
  go_loopw [3] (fun x wr => MayRel n l x ∧ ∃ q, wr = w.drewN q) (fun x _ => n - (intOf x).toNat)
  case atStart => exact ⟨⟨0, -1, rfl, by omega, by omega, fun _ => rfl, fun j h => by omega, rfl⟩, 0, rfl⟩
  case round =>
    obtain ⟨⟨k, last, rfl, hk, hs, hz0, hj, he⟩, q, rfl⟩ := hrel
    have HE := Lib.hid he
    have HZ := Lib.hid hz0
    have HJ := Lib.hid hj
    clear he hz0 hj
    by_cases hlt : k < n
    · obtain ⟨ad, u, rfl, hbl, hu, hc⟩ := HR.out.at_ hlt
      have hkl : k < l.length := by omega
      have hg : l[k]? = some (l[k]'hkl) := List.getElem?_eq_getElem hkl
      rw [ci_get, hg] at hu
      simp only [Option.map_some, Option.some.injEq] at hu
      subst hu
      have hd := List.drop_eq_getElem_cons hkl
      obtain ⟨z, hz⟩ : ∃ z, l[k]'hkl = z := ⟨_, rfl⟩
      rw [hz] at hc hd hg
      have he := HE.out
      rw [hd, Qm.incr_cons] at he
      have HE2 := Lib.hid he
      have HG := Lib.hid hg
      clear hz hd he hl hg
      have out : (¬ last < z ∨ ¬ z < 6) → Qm.may l = false := by
        intro h
        unfold Qm.may
        rw [← HE2.out]
        rcases h with h | h
        · simp [h]
        · simp [h]
      have OUT := Lib.hid out
      have rel : last < z → z < 6 → MayRel n l (.int .i64 ((k : Int) + 1)) := by
        intro h1 h2
        have h3 := HE2.out
        simp only [h1, h2, decide_true, Bool.true_and] at h3
        refine ⟨k + 1, z, by go_num, by omega, by omega, by omega, ?_, h3⟩
        intro j hj
        obtain rfl : k = j := by omega
        exact HG.out
      have REL := Lib.hid rel
      clear out rel
      by_cases hk0 : k = 0
      · have hla := HZ.out hk0
        subst hla
        have hp : ¬ (0 : Int) < (k : Int) := by omega
        clear hk0
        by_cases h0 : z < 0
        · have d0 := decide_eq_true h0
          go_wp2_with fail
          go_quiet (fail)
          go_wp2
          go_ret
          rw [OUT.out (Or.inl (by omega))]
          exact ⟨rfl, _, World.drewN_drewN _ _ _⟩
        · have d0 := decide_eq_false h0
          by_cases h6 : 6 ≤ z
          · have d6 := decide_eq_true h6
            go_wp2_with fail
            go_quiet (fail)
            go_wp2
            go_ret
            rw [OUT.out (Or.inr (by omega))]
            exact ⟨rfl, _, World.drewN_drewN _ _ _⟩
          · have d6 := decide_eq_false h6
            have dp := decide_eq_false hp
            have dpn : decide (0 < k) = false := decide_eq_false (by omega)
            go_wp2_with fail
            go_quiet (fail)
            go_wp2
            go_roundw
            case rel => exact ⟨REL.out (by omega) (by omega), _, rfl⟩
            case measure => simp [intOf]; omega
      · obtain ⟨j, hjk⟩ : ∃ j, k = j + 1 := ⟨k - 1, by omega⟩
        have hjn : j < n := by omega
        obtain ⟨ad', u', e1, hbl', hu', hc'⟩ := HR.out.at_ (k := j) hjn
        injection e1 with e1
        subst e1
        rw [ci_get, HJ.out j hjk] at hu'
        simp only [Option.map_some, Option.some.injEq] at hu'
        subst hu'
        have ej : (k : Int) - 1 = (j : Int) := by omega
        have ew : wrap64 ((k : Int) - 1) = (j : Int) := by rw [ej]; exact IntWalk.wrap64_in _ ⟨by omega, by omega⟩
        have hp : (0 : Int) < (k : Int) := by omega
        clear hjk hk0
        by_cases h0 : z < 0
        · have d0 := decide_eq_true h0
          go_wp2_with fail
          go_quiet (fail)
          go_wp2
          go_ret
          rw [OUT.out (Or.inl (by omega))]
          exact ⟨rfl, _, World.drewN_drewN _ _ _⟩
        · have d0 := decide_eq_false h0
          by_cases h6 : 6 ≤ z
          · have d6 := decide_eq_true h6
            go_wp2_with fail
            go_quiet (fail)
            go_wp2
            go_ret
            rw [OUT.out (Or.inr (by omega))]
            exact ⟨rfl, _, World.drewN_drewN _ _ _⟩
          · have d6 := decide_eq_false h6
            have dp := decide_eq_true hp
            have dpn : decide (0 < k) = true := decide_eq_true (by omega)
            by_cases hle : z ≤ last
            · have dl := decide_eq_true hle
              go_wp2_with fail
              go_quiet (fail)
              go_wp2
              go_ret
              rw [OUT.out (Or.inl (by omega))]
              exact ⟨rfl, _, World.drewN_drewN _ _ _⟩
            · have dl := decide_eq_false hle
              go_wp2_with fail
              go_quiet (fail)
              go_wp2
              go_roundw
              case rel => exact ⟨REL.out (by omega) (by omega), _, rfl⟩
              case measure => simp [intOf]; omega
    · have h1 := HE.out
      rw [List.drop_eq_nil_of_le (by omega), Qm.incr_nil] at h1
      have H1 := Lib.hid h1
      clear h1 hl
      by_cases h0 : n = 0
      · have hl2 : l = [] := List.eq_nil_of_length_eq_zero (by rw [HL.out]; exact h0)
        have hmay : Qm.may l = false := by rw [hl2]; rfl
        have HMAY := Lib.hid hmay
        clear hl2 hmay
        go_wp2
        go_ret
        rw [HMAY.out]
        refine ⟨?_, _, rfl⟩
        simp <;> omega
      · have hl2 : l.isEmpty = false := by
          cases l with
          | nil => have := HL.out; simp at this; omega
          | cons _ _ => rfl
        have hmay : Qm.may l = true := by unfold Qm.may; rw [hl2, ← H1.out]; rfl
        have HMAY := Lib.hid hmay
        clear hl2 hmay
        go_wp2
        go_ret
        rw [HMAY.out]
        refine ⟨?_, _, rfl⟩
        simp <;> omega
theorem rcheck_any (A : Option Addr) (n c B : Nat) (l : List Int) (w : World) (hr : Reads w B 1 A n (ci l)) (hn : n ≤ 9223372036854775807) :
    Calls Try.prog 77 #[.slice A n c] w fun e w' => e = .returned (.int .i64 (Qm.check l)) ∧ ∃ q, w' = w.drewN q := by
  have hl := hr.len_i
  by_cases hbig : 6 < n
  · have hc : Qm.check l = 4 := by unfold Qm.check; rw [if_pos (by omega)]
    rw [hc]
    clear hc hr
    go_enter Try.func77, Try.ntmps77
    go_wp2
    go_ret
    exact ⟨rfl, 0, rfl⟩
  · have H := Lib.hid (rmay_any A n c B l w hr (by omega))
    cases hm : Qm.may l with
    | true =>
      have hc : Qm.check l = 0 := by unfold Qm.check; rw [if_neg (by omega), if_pos hm]
      rw [hc]
      rw [hm] at H
      clear hc hr hm
      go_enter Try.func77, Try.ntmps77
      go_wp2_with fail
      refine H.out.mono ?_
      rintro e w' ⟨rfl, q, rfl⟩
      go_wp2
      go_ret
      exact ⟨rfl, q, rfl⟩
    | false =>
      have hc : Qm.check l = 60 := by unfold Qm.check; rw [if_neg (by omega), if_neg (by rw [hm]; decide)]
      rw [hc]
      rw [hm] at H
      clear hc hr hm
      go_enter Try.func77, Try.ntmps77
      go_wp2_with fail
      refine H.out.mono ?_
      rintro e w' ⟨rfl, q, rfl⟩
      go_wp2
      go_ret
      exact ⟨rfl, q, rfl⟩
end Go.Proofs.Ytaoekfgeggopbaa
