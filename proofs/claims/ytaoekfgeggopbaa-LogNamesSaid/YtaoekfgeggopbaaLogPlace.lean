/-
  Plain laws of places.
-/
import Derived.Test.YtaoekfgeggopbaaLogPl
namespace Go.Proofs.Ytaoekfgeggopbaa
open Go.RowKit
set_option maxHeartbeats 4000000
set_option linter.unusedVariables false
set_option linter.unusedSimpArgs false

namespace Lg
theorem place_none (v : ByteArray) : ∀ (ls : List ByteArray) (k : Nat), place v k ls = -1 → ∀ s ∈ ls, s ≠ v
  | [], k, _, s, hs => by simp at hs
  | a :: r, k, h, s, hs => by
    rw [place] at h
    split at h
    · omega
    · rename_i hne
      rcases List.mem_cons.1 hs with rfl | hs
      · exact hne
      · exact place_none v r (k + 1) h s hs
theorem place_some (v : ByteArray) : ∀ (ls : List ByteArray) (k : Nat), 0 ≤ place v k ls → ∃ i : Nat, place v k ls = (k : Int) + (i : Int) ∧ i < ls.length ∧ ls[i]? = some v ∧ ∀ j, j < i → ∀ s, ls[j]? = some s → s ≠ v
  | [], k, h => by rw [place] at h; omega
  | a :: r, k, h => by
    rw [place] at h ⊢
    by_cases he : a = v
    · rw [if_pos he]
      refine ⟨0, by omega, by simp, by simp [he], fun j hj => by omega⟩
    · rw [if_neg he] at h ⊢
      obtain ⟨i, h1, h2, h3, h4⟩ := place_some v r (k + 1) h
      refine ⟨i + 1, by rw [h1]; omega, by simp; omega, by simpa using h3, fun j hj s hs => ?_⟩
      cases j with
      | zero => simp at hs; subst hs; exact he
      | succ j => exact h4 j (by omega) s (by simpa using hs)
theorem place_append (v : ByteArray) (more : List ByteArray) : ∀ (ls : List ByteArray) (k : Nat), 0 ≤ place v k ls → place v k (ls ++ more) = place v k ls
  | [], k, h => by rw [place] at h; omega
  | a :: r, k, h => by
    rw [List.cons_append, place, place]
    rw [place] at h
    by_cases he : a = v
    · rw [if_pos he, if_pos he]
    · rw [if_neg he, if_neg he]
      rw [if_neg he] at h
      exact place_append v more r (k + 1) h
theorem cmdsX_bad {ls : List (List UInt8)} {l : List Cp.Cmd} {x : Int} (h : cmdsX ls = (l, x)) (hx : x ≠ 0) : l = [] := by
  by_cases hb : 200 < ls.length
  · rw [cmdsX_long hb] at h
    injection h with h _
    exact h.symm
  · cases ha : all ls with
    | none =>
      rw [cmdsX_none hb ha] at h
      injection h with h _
      exact h.symm
    | some q =>
      rw [cmdsX_some hb ha] at h
      injection h with _ h
      exact absurd h.symm hx
end Lg
/-- What Commands reads is written as it was. -/
theorem cmds_back {ls : List ByteArray} {ds : List HC} (h : (ds.map HC.cmd, (0 : Int)) = Lg.cmdsX (tx ls)) : ds.length = ls.length ∧ ∀ (i : Nat) (D : HC) (s : ByteArray), ds[i]? = some D → ls[i]? = some s → Cp.mayC D.cmd = true ∧ S (Cp.bytesC D.cmd) = s := by
  have h1 := Lg.cmdsX_ok h.symm
  have h2 := Lg.all_back h1.2
  have hl := Lg.cmdsX_len h.symm
  rw [List.length_map, tx_len] at hl
  refine ⟨hl, fun i D s hD hs => ⟨Lg.all_may h1.2 D.cmd (List.mem_map.2 ⟨D, List.mem_of_getElem? hD, rfl⟩), ?_⟩⟩
  have h3 : ((ds.map HC.cmd).map Cp.bytesC)[i]? = (tx ls)[i]? := by rw [h2]
  simp only [List.getElem?_map, hD, tx, hs, Option.map_some, Option.some.injEq] at h3
  rw [h3, S_of]
end Go.Proofs.Ytaoekfgeggopbaa
