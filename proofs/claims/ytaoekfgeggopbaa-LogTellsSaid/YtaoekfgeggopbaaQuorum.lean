/-
  Contracts of package quorum: set, Check, Need, Has, Most.
-/
import Derived.Test.YtaoekfgeggopbaaQuorumPlain
namespace Go.Proofs.Ytaoekfgeggopbaa
open Go.RowKit
set_option maxHeartbeats 1000000
set_option maxRecDepth 100000
set_option linter.unusedVariables false

theorem shl_one (k : Fin 6) (s : Fin 64) : bits .or .u64 (s.val : Int) (IntKind.u64.wrap (2 ^ k.val)) = ((s.val ||| 2 ^ k.val : Nat) : Int) := by revert k s; decide +kernel

theorem qset_any (A : Option Addr) (n c B : Nat) (l : List Int) (w : World) (hr : Reads w B 1 A n (ci l)) (hn : n ≤ 1000000000000) :
    Calls Try.prog 87 #[.slice A n c] w fun e w' => e = .returned (.int .u64 (Qm.bitsN 0 l : Nat)) ∧ w = w' := by
  have hl := hr.len_i
  have HL := Lib.hid hl
  have HR := Lib.hid hr
  clear hr
  go_enter Try.func87, Try.ntmps87
  go_wp2
  go_loopw [2, 7] (fun x y wr => ∃ k s : Nat, x = .int .u64 (s : Int) ∧ y = .int .i64 (k : Int) ∧ k ≤ n ∧ s < 64 ∧ Qm.bitsN s (l.drop k) = Qm.bitsN 0 l ∧ wr = w) (fun _ y _ => n - (intOf y).toNat)
  case atStart => exact ⟨0, 0, rfl, rfl, by omega, by omega, rfl, rfl⟩
  case round =>
    obtain ⟨k, s, rfl, rfl, hk, hs, he, rfl⟩ := hrel
    have HE := Lib.hid he
    clear he
    by_cases hlt : k < n
    · obtain ⟨ad, u, rfl, hbl, hu, hc⟩ := HR.out.at_ hlt
      have hkl : k < l.length := by omega
      have hg : l[k]? = some (l[k]'hkl) := List.getElem?_eq_getElem hkl
      rw [ci_get, hg] at hu
      simp only [Option.map_some, Option.some.injEq] at hu
      subst hu
      clear hg
      have hd := List.drop_eq_getElem_cons hkl
      obtain ⟨z, hz⟩ : ∃ z, l[k]'hkl = z := ⟨_, rfl⟩
      rw [hz] at hc hd
      have he := HE.out
      rw [hd, Qm.bitsN_cons] at he
      have HE2 := Lib.hid he
      clear hz hd he hl
      by_cases h0 : 0 ≤ z
      · by_cases h6 : z < 6
        · obtain ⟨x, rfl⟩ : ∃ x : Fin 6, z = (x.val : Int) := ⟨⟨z.toNat, by omega⟩, by simp; omega⟩
          have hor := shl_one x ⟨s, hs⟩
          simp only at hor
          go_wp2
          go_roundw
          case rel =>
            rw [if_pos (by omega)] at HE2
            have h2 := HE2.out
            simp only [Int.toNat_natCast] at h2
            exact ⟨k + 1, s ||| 2 ^ x.val, rfl, by go_num, by omega, Qm.or_lt hs (Qm.pow_lt (n := (x.val : Int)) (by omega)), h2, by trivial⟩
          case measure => simp [intOf]; omega
        · go_wp2
          go_roundw
          case rel =>
            rw [if_neg (by omega)] at HE2
            exact ⟨k + 1, s, rfl, by go_num, by omega, hs, HE2.out, by trivial⟩
          case measure => simp [intOf]; omega
      · go_wp2
        go_roundw
        case rel =>
            rw [if_neg (by omega)] at HE2
            exact ⟨k + 1, s, rfl, by go_num, by omega, hs, HE2.out, by trivial⟩
        case measure => simp [intOf]; omega
    · go_wp2
      go_ret
      have h1 := HE.out
      rw [List.drop_eq_nil_of_le (by omega)] at h1
      rw [Qm.bitsN_nil] at h1
      rw [← h1]
      exact ⟨rfl, by trivial⟩
def CheckRel (n : Nat) (l : List Int) (x y : Value) : Prop := ∃ (k : Nat) (last : Int), x = .int .i64 last ∧ y = .int .i64 (k : Int) ∧ k ≤ n ∧ -1 ≤ last ∧ last < 6 ∧ (last < 0 ↔ k = 0) ∧ Qm.incr last (l.drop k) = Qm.incr (-1) l
theorem qcheck_any (A : Option Addr) (n c B : Nat) (l : List Int) (w : World) (hr : Reads w B 1 A n (ci l)) (hn : n ≤ 9223372036854775807) :
    Calls Try.prog 44 #[.slice A n c] w fun e w' => e = .returned (.int .i64 (Qm.check l)) ∧ w = w' := by
  have hl := hr.len_i
  have HL := Lib.hid hl
  have HR := Lib.hid hr
  clear hr
  by_cases hbig : 6 < n
  · have hc : Qm.check l = 4 := by unfold Qm.check; rw [if_pos (by omega)]
    rw [hc]
    clear hc
    go_enter Try.func44, Try.ntmps44
    go_wp2
    go_ret
    exact ⟨rfl, rfl⟩
  · have HC : Hid (Qm.check l = if (!l.isEmpty && Qm.incr (-1) l) = true then 0 else 60) := Lib.hid (by unfold Qm.check Qm.may; rw [if_neg (by omega)])
    go_enter Try.func44, Try.ntmps44
    go_wp2
    go_loopw [3, 11] (fun x y wr => CheckRel n l x y ∧ wr = w) (fun _ y _ => n - (intOf y).toNat)
    case atStart => exact ⟨⟨0, -1, rfl, rfl, by omega, by omega, by omega, by simp, rfl⟩, rfl⟩
    case round =>
      obtain ⟨⟨k, last, rfl, rfl, hk, hs, hs6, hl0, he⟩, rfl⟩ := hrel
      have HE := Lib.hid he
      clear he
      by_cases hlt : k < n
      · obtain ⟨ad, u, rfl, hbl, hu, hc⟩ := HR.out.at_ hlt
        have hkl : k < l.length := by omega
        have hg : l[k]? = some (l[k]'hkl) := List.getElem?_eq_getElem hkl
        rw [ci_get, hg] at hu
        simp only [Option.map_some, Option.some.injEq] at hu
        subst hu
        clear hg
        have hd := List.drop_eq_getElem_cons hkl
        obtain ⟨z, hz⟩ : ∃ z, l[k]'hkl = z := ⟨_, rfl⟩
        rw [hz] at hc hd
        have he := HE.out
        rw [hd, Qm.incr_cons] at he
        have HE2 := Lib.hid he
        clear hz hd he hl hl0
        by_cases h0 : z ≤ last
        · go_wp2
          go_ret
          have h1 := HE2.out
          simp only [show ¬ last < z by omega, decide_false, Bool.false_and] at h1
          rw [HC.out, ← h1]
          simp
        · by_cases h6 : 6 ≤ z
          · go_wp2
            go_ret
            have h1 := HE2.out
            simp only [show ¬ z < 6 by omega, decide_false, Bool.false_and, Bool.and_false] at h1
            rw [HC.out, ← h1]
            simp
          · go_wp2
            go_roundw
            case rel =>
              have h1 := HE2.out
              simp only [show last < z by omega, show z < 6 by omega, decide_true, Bool.true_and] at h1
              exact ⟨⟨k + 1, z, rfl, by go_num, by omega, by omega, by omega, by omega, h1⟩, by trivial⟩
            case measure => simp [intOf]; omega
      · have h1 := HE.out
        rw [List.drop_eq_nil_of_le (by omega)] at h1
        rw [Qm.incr_nil] at h1
        have H1 := Lib.hid h1
        clear h1
        by_cases hneg : last < 0
        · have hk0 := hl0.1 hneg
          have hl2 : l = [] := List.eq_nil_of_length_eq_zero (by omega)
          clear hl0
          go_wp2
          go_ret
          rw [HC.out, hl2]
          simp
        · have hk0 : k ≠ 0 := fun h => hneg (hl0.2 h)
          have hl2 : l.isEmpty = false := by
            cases l with
            | nil => simp at hl; omega
            | cons _ _ => rfl
          have H2 := Lib.hid hl2
          clear hl0 hl2
          go_wp2
          go_ret
          rw [HC.out, H2.out, ← H1.out]
          simp

theorem check_zero {l : List Int} (h : Qm.check l = 0) : Qm.may l = true ∧ l.length ≤ 6 := by
  unfold Qm.check at h
  split at h
  · omega
  · split at h
    · exact ⟨by assumption, by omega⟩
    · omega
theorem qindex_any (A : Option Addr) (n c B : Nat) (l : List Int) (x : Int) (w : World) (hr : Reads w B 1 A n (ci l)) (hn : n ≤ 1000000000000) :
    Calls Try.prog 92 #[.slice A n c, .int .i64 x] w fun e w' => (∃ r : Int, e = .returned (.int .i64 r) ∧ (0 ≤ r ↔ x ∈ l)) ∧ w = w' := by
  have hl := hr.len_i
  have HL := Lib.hid hl
  have HR := Lib.hid hr
  clear hr
  go_enter Try.func92, Try.ntmps92
  go_wp2
  go_loopw [8] (fun y wr => (∃ k : Nat, y = .int .i64 (k : Int) ∧ k ≤ n ∧ x ∉ l.take k) ∧ wr = w) (fun y _ => n - (intOf y).toNat)
  case atStart => exact ⟨⟨0, rfl, by omega, by simp⟩, rfl⟩
  case round =>
    obtain ⟨⟨k, rfl, hk, he⟩, rfl⟩ := hrel
    have HE := Lib.hid he
    clear he
    by_cases hlt : k < n
    · obtain ⟨ad, u, rfl, hbl, hu, hc⟩ := HR.out.at_ hlt
      have hkl : k < l.length := by omega
      have hg : l[k]? = some (l[k]'hkl) := List.getElem?_eq_getElem hkl
      rw [ci_get, hg] at hu
      simp only [Option.map_some, Option.some.injEq] at hu
      subst hu
      have ht : l.take (k + 1) = l.take k ++ [l[k]'hkl] := by rw [List.take_add_one, hg]; rfl
      have hm : l[k]'hkl ∈ l := List.getElem_mem hkl
      obtain ⟨z, hz⟩ : ∃ z, l[k]'hkl = z := ⟨_, rfl⟩
      rw [hz] at hc ht hm
      have HT := Lib.hid ht
      have HM := Lib.hid hm
      clear hz ht hm hg hl
      by_cases h0 : x = z
      · go_wp2
        go_ret
        exact ⟨⟨(k : Int), rfl, by constructor <;> intro _ <;> first | (rw [h0]; exact HM.out) | omega⟩, by trivial⟩
      · go_wp2
        go_roundw
        case rel =>
          refine ⟨⟨k + 1, by go_num, by omega, ?_⟩, by trivial⟩
          rw [HT.out]
          intro h
          rcases List.mem_append.1 h with h | h
          · exact HE.out h
          · exact h0 (List.mem_singleton.1 h)
        case measure => simp [intOf]; omega
    · go_wp2
      go_ret
      have h1 := HE.out
      rw [List.take_of_length_le (by omega)] at h1
      exact ⟨⟨-1, rfl, by constructor <;> intro h <;> first | exact absurd h h1 | omega⟩, by trivial⟩
theorem qcontains_any (A : Option Addr) (n c B : Nat) (l : List Int) (x : Int) (w : World) (hr : Reads w B 1 A n (ci l)) (hn : n ≤ 1000000000000) :
    Calls Try.prog 68 #[.slice A n c, .int .i64 x] w fun e w' => e = .returned (.bool (decide (x ∈ l))) ∧ w = w' := by
  have HR := Lib.hid hr
  clear hr
  go_enter Try.func68, Try.ntmps68
  go_wp2_with fail
  refine (qindex_any A n c B l x w HR.out hn).mono ?_
  rintro e w' ⟨⟨r, rfl, h⟩, rfl⟩
  have h2 : decide (x ∈ l) = decide (0 ≤ r) := by rw [decide_eq_decide]; exact h.symm
  have H2 := Lib.hid h2
  clear h h2
  go_wp2
  go_ret
  rw [H2.out]
  exact ⟨rfl, rfl⟩
theorem qhas_any (A : Option Addr) (n c B : Nat) (l : List Int) (x : Int) (w : World) (hr : Reads w B 1 A n (ci l)) (hn : n ≤ 1000000000000) :
    Calls Try.prog 43 #[.slice A n c, .int .i64 x] w fun e w' => e = .returned (.bool (decide (x ∈ l))) ∧ w = w' := by
  have H := Lib.hid (qcontains_any A n c B l x w hr hn)
  clear hr
  go_enter Try.func43, Try.ntmps43
  go_wp2_with (first | (with_reducible refine H.out.mono ?_; rintro e w' ⟨rfl, rfl⟩))
  go_ret
  exact ⟨rfl, rfl⟩

theorem and_u64 (a b : Fin 64) : bits .and .u64 (a.val : Int) (b.val : Int) = ((a.val &&& b.val : Nat) : Int) := by revert a b; decide +kernel
end Go.Proofs.Ytaoekfgeggopbaa
