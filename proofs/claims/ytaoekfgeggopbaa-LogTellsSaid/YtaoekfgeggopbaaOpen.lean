/-
  What a field of a struct that came in holds: numbers, texts, bytes in slices: read off the cell's own reading.
-/
import Derived.Test.YtaoekfgeggopbaaBase
namespace Go.Proofs.Ytaoekfgeggopbaa
open Go.RowKit Go.ChangeShapes Go.WideShapes
variable {H : Type} {enc : TypeId × Value → H} {P : Program} {w : World} {base : Nat} {spare : Nat → Bool} {held : Bool}

theorem bytes_trod {fuel : Nat} {t e : TypeId} {v : Value} {y : DataW H × List MemPlace} (ht : P.underlying t = some (.slice e)) (he : P.underlying e = some (.int .u8)) (hc : P.cellsOf e = 1)
    (hf : DataW.trod enc P w base spare held fuel t [v] = some y) : ∃ (a : Option Addr) (len cap : Nat) (l : List UInt8), v = .slice a len cap ∧ IsBytes w a len cap l := by
  rcases open_ints ht he hc hf with ⟨hcs, _⟩ | ⟨x, len, cap, zs, hcs, _, hl, hm, hz, _, hcell, hwz⟩
  · obtain rfl : v = .slice none 0 0 := by simpa using hcs
    exact ⟨none, 0, 0, [], rfl, Reads.none_, Nat.le_refl _, Nat.zero_le _⟩
  · obtain rfl : v = .slice (some x) len cap := by simpa using hcs
    have hzl : len ≤ zs.length := by rw [hz]; split <;> omega
    refine ⟨some x, len, cap, (zs.take len).map fun z => UInt8.ofNat z.toNat, rfl, row_reads (by simp [cb]; omega) ?_, hl, hm⟩
    intro i u hu
    simp only [cb_get, List.getElem?_map, List.getElem?_take] at hu
    split at hu
    · rename_i hi
      rw [hcell i (by omega)]
      have hg : zs[i]? = some (zs[i]'(by omega)) := List.getElem?_eq_getElem (by omega)
      rw [hg] at hu
      simp only [Option.map_some, Option.some.injEq] at hu
      subst hu
      have hb := bounds_u8 (hwz (zs[i]'(by omega)) (List.getElem_mem _))
      have e1 : ((UInt8.ofNat (zs[i]'(by omega)).toNat).toNat : Int) = zs[i]'(by omega) := by
        rw [UInt8.toNat_ofNat']
        have : (zs[i]'(by omega)).toNat % 2 ^ 8 = (zs[i]'(by omega)).toNat := Nat.mod_eq_of_lt (by omega)
        rw [this]
        omega
      rw [e1]
      simp [List.getD, hg]
    · simp at hu

theorem ints_trod {fuel : Nat} {t e : TypeId} {v : Value} {y : DataW H × List MemPlace} (ht : P.underlying t = some (.slice e)) (he : P.underlying e = some (.int .i64)) (hc : P.cellsOf e = 1)
    (hf : DataW.trod enc P w base spare held fuel t [v] = some y) : ∃ (a : Option Addr) (len cap : Nat) (l : List Int), v = .slice a len cap ∧ IsInts w a len cap l := by
  rcases open_ints ht he hc hf with ⟨hcs, _⟩ | ⟨x, len, cap, zs, hcs, _, hl, hm, hz, _, hcell, hwz⟩
  · obtain rfl : v = .slice none 0 0 := by simpa using hcs
    exact ⟨none, 0, 0, [], rfl, Reads.none_, Nat.le_refl _, Nat.zero_le _, by simp⟩
  · obtain rfl : v = .slice (some x) len cap := by simpa using hcs
    have hzl : len ≤ zs.length := by rw [hz]; split <;> omega
    refine ⟨some x, len, cap, zs.take len, rfl, row_reads (by simp [ci]; omega) ?_, hl, hm, fun n hn => bounds_i64 (hwz n (List.mem_of_mem_take hn))⟩
    intro i u hu
    simp only [ci_get, List.getElem?_take] at hu
    split at hu
    · rename_i hi
      rw [hcell i (by omega)]
      have hg : zs[i]? = some (zs[i]'(by omega)) := List.getElem?_eq_getElem (by omega)
      rw [hg] at hu
      simp only [Option.map_some, Option.some.injEq] at hu
      subst hu
      simp [List.getD, hg]
    · simp at hu
end Go.Proofs.Ytaoekfgeggopbaa
