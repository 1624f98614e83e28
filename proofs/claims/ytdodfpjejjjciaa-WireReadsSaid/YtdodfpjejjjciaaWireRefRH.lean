/-
  The reference of layer 23: Read: what its walk wants; where the first numbers are none, or no kind.
-/
import Derived.Test.YtdodfpjejjjciaaWireRefNums
import Derived.Test.YtdodfpjejjjciaaWireRefM
import Derived.Test.YtdodfpjejjjciaaWireReadW
namespace Go.Proofs.Ytdodfpjejjjciaa
open Go.RowKit Bal Go.Sort Go.BigFrame
set_option maxHeartbeats 8000000
set_option maxRecDepth 100000
set_option linter.unusedVariables false
set_option linter.unusedSimpArgs false

namespace Wp
section
variable {f t k g : Int} {rest left : List UInt8} {xs : List Int}
theorem rread2_none (h : numsN (cnt k) rest = none) : rread2 f t k g rest = none := by unfold rread2; rw [h]
theorem rread2_plain (h : numsN (cnt k) rest = some (xs, left)) (hv : valuedB k = false) : rread2 f t k g rest = fin (ofNums f t k g xs []) left := by
  unfold rread2; rw [h]; simp only [hv]; rfl
theorem rread2_noval (h : numsN (cnt k) rest = some (xs, left)) (hv : valuedB k = true) (hg : Nm.getText left = none) : rread2 f t k g rest = none := by
  unfold rread2; rw [h]; simp only [hv, hg]; rfl
theorem rread2_val {v : List UInt8} {j : Nat} (h : numsN (cnt k) rest = some (xs, left)) (hv : valuedB k = true) (hg : Nm.getText left = some (v, j)) : rread2 f t k g rest = fin (ofNums f t k g xs v) (left.drop j) := by
  unfold rread2; rw [h]; simp only [hv, hg]; rfl
theorem fin_no1 {m : Mail} (h : left ≠ []) : fin m left = none := by unfold fin; rw [if_neg (fun x => h x.1)]
theorem fin_no2 {m : Mail} (h : mayM m = false) : fin m left = none := by unfold fin; rw [if_neg (fun x => by rw [h] at x; cases x.2)]
theorem fin_yes {m : Mail} (h : left = []) (h2 : mayM m = true) : fin m left = some m := by unfold fin; rw [if_pos ⟨h, h2⟩]
end
end Wp
theorem set_g {w W : World} {g : Nat} (h : Below w.heap.size w W) (hg : w.heap.size ≤ g) (i : Nat) (u : Value) : Below w.heap.size w (W.setCell ⟨g, i, none⟩ u) := h.setCell hg u
theorem set_0 {w W : World} (h : Below w.heap.size w W) (i : Nat) (u : Value) : Below w.heap.size w (W.setCell ⟨w.heap.size, i, none⟩ u) := h.setCell (Nat.le_refl _) u
theorem four_cells {w : World} {B : Nat} {A : Option Addr} {a b c d : Int} (h : Reads w B 1 A 4 (ci [a, b, c, d])) : ∃ g off, A = some ⟨g, off, none⟩ ∧ g < B ∧ w.cell? ⟨g, off, none⟩ = some (.int .i64 a) ∧ w.cell? ⟨g, off + 1, none⟩ = some (.int .i64 b) ∧ w.cell? ⟨g, off + 2, none⟩ = some (.int .i64 c) ∧ w.cell? ⟨g, off + 3, none⟩ = some (.int .i64 d) := by
  obtain ⟨ad, rfl, hb, hc⟩ := h.2 (by omega)
  obtain ⟨g, off, rfl, h0⟩ := addr_zero (hc 0 _ rfl)
  exact ⟨g, off, rfl, hb, h0, addr_more (hc 1 _ rfl), addr_more (hc 2 _ rfl), addr_more (hc 3 _ rfl)⟩
theorem cells_1 {w : World} {B base : Nat} {A : Option Addr} {a : Int} (h : Reads w B 1 A 1 (ci [a])) : ∃ g off, A = some ⟨g, off, none⟩ ∧ g < B ∧ w.cell? ⟨g, off, none⟩ = some (.int .i64 a) := by
  obtain ⟨ad, rfl, hb, hc⟩ := h.2 (by omega)
  obtain ⟨g, off, rfl, h0⟩ := addr_zero (hc 0 _ rfl)
  exact ⟨g, off, rfl, hb, h0⟩
theorem cells_2 {w : World} {B base : Nat} {A : Option Addr} {a b : Int} (h : Reads w B 1 A 2 (ci [a, b])) : ∃ g off, A = some ⟨g, off, none⟩ ∧ g < B ∧ w.cell? ⟨g, off, none⟩ = some (.int .i64 a) ∧ w.cell? ⟨g, off + 1, none⟩ = some (.int .i64 b) := by
  obtain ⟨ad, rfl, hb, hc⟩ := h.2 (by omega)
  obtain ⟨g, off, rfl, h0⟩ := addr_zero (hc 0 _ rfl)
  exact ⟨g, off, rfl, hb, h0, addr_more (hc 1 _ rfl)⟩
theorem cells_3 {w : World} {B base : Nat} {A : Option Addr} {a b c : Int} (h : Reads w B 1 A 3 (ci [a, b, c])) : ∃ g off, A = some ⟨g, off, none⟩ ∧ g < B ∧ w.cell? ⟨g, off, none⟩ = some (.int .i64 a) ∧ w.cell? ⟨g, off + 1, none⟩ = some (.int .i64 b) ∧ w.cell? ⟨g, off + 2, none⟩ = some (.int .i64 c) := by
  obtain ⟨ad, rfl, hb, hc⟩ := h.2 (by omega)
  obtain ⟨g, off, rfl, h0⟩ := addr_zero (hc 0 _ rfl)
  exact ⟨g, off, rfl, hb, h0, addr_more (hc 1 _ rfl), addr_more (hc 2 _ rfl)⟩
theorem own_new {w : World} {base : Nat} {e : TypeId} {n c g off : Nat} {xs : List Value} (h : w.ownsRow base e 1 (.slice (some ⟨g, off, none⟩) n c) n xs) : base ≤ g := by
  rcases h.2 with ⟨h2, _⟩ | ⟨g', cap, cur, h2, h3, _⟩
  · cases h2
  · injection h2 with h2
    injection h2 with h2
    injection h2 with h2
    omega
theorem rread23_big (A : Option Addr) (n c : Nat) (w : World) (hn : 4096 < n) (hn2 : n ≤ 9223372036854775807) :
    Calls Try.prog 24 #[.slice A n c] w fun e w' => e = .returned (.tuple #[.agg #[.int .i64 0, .int .i64 0, .int .u8 0, .int .i64 0, .int .i64 0, .int .i64 0, .int .i64 0, .string ⟨#[]⟩, .int .i64 0, .int .i64 0], .int .i64 3]) ∧ Below w.heap.size w w' := by
  have hz : w.heap.size < w.heap.size + 1 := by omega
  go_enter Try.func24, Try.ntmps24
  go_wp2
  exact bodyPost_ret (v := .tuple #[.agg #[.int .i64 0, .int .i64 0, .int .u8 0, .int .i64 0, .int .i64 0, .int .i64 0, .int .i64 0, .string ⟨#[]⟩, .int .i64 0, .int .i64 0], .int .i64 3]) (by simp [results, Try.results24, go_sem]) rfl ⟨rfl, by repeat (first | with_reducible exact ((Below.refl _ _).alloc (Nat.le_refl _) _) | with_reducible refine set_0 ?_ _ _)⟩
theorem rread23_none (A : Option Addr) (n c : Nat) (l : List UInt8) (w : World) (hr : Reads w w.heap.size 1 A n (cb l)) (hnc : n ≤ c) (hc : c ≤ 9223372036854775807) (hn : n ≤ 4096) (h : Wp.numsN 4 l = none) :
    Calls Try.prog 24 #[.slice A n c] w fun e w' => e = .returned (mailV none) ∧ Below w.heap.size w w' := by
  have hgm : w.heap.size < w.heap.size + 1 := by omega
  have HC := Lib.hid (rnumbers12_any A n c 4 l (w.alloc (.cells #[.int .i64 0, .int .i64 0, .int .u8 0, .int .i64 0, .int .i64 0, .int .i64 0, .int .i64 0, .string ⟨#[]⟩, .int .i64 0, .int .i64 0] 23)) none h w.heap.size (by simp) (hr.alloc (Nat.le_refl _) _) hnc hc (by omega) (by omega))
  clear h hr
  go_enter Try.func24, Try.ntmps24
  go_wp2_with fail
  refine HC.out.mono ?_
  rintro e w1 ⟨rfl, hb⟩
  have KG := Lib.hid (Blk.below (Blk.new w 23 #[.int .i64 0, .int .i64 0, .int .u8 0, .int .i64 0, .int .i64 0, .int .i64 0, .int .i64 0, .string ⟨#[]⟩, .int .i64 0, .int .i64 0]) hb (by simp))
  have B1 := Lib.hid (below_of_alloc (hb.mono (B' := w.heap.size) (by simp)) (Nat.le_refl _))
  clear hb HC
  have z0 : w1.cell? ⟨w.heap.size, 0, none⟩ = some (.int .i64 0) := KG.out.cell 0
  have fz0 := KG.out.frozen 0
  have z1 : w1.cell? ⟨w.heap.size, 1, none⟩ = some (.int .i64 0) := KG.out.cell 1
  have fz1 := KG.out.frozen 1
  have z2 : w1.cell? ⟨w.heap.size, 2, none⟩ = some (.int .u8 0) := KG.out.cell 2
  have fz2 := KG.out.frozen 2
  have z3 : w1.cell? ⟨w.heap.size, 3, none⟩ = some (.int .i64 0) := KG.out.cell 3
  have fz3 := KG.out.frozen 3
  have z4 : w1.cell? ⟨w.heap.size, 4, none⟩ = some (.int .i64 0) := KG.out.cell 4
  have fz4 := KG.out.frozen 4
  have z5 : w1.cell? ⟨w.heap.size, 5, none⟩ = some (.int .i64 0) := KG.out.cell 5
  have fz5 := KG.out.frozen 5
  have z6 : w1.cell? ⟨w.heap.size, 6, none⟩ = some (.int .i64 0) := KG.out.cell 6
  have fz6 := KG.out.frozen 6
  have z7 : w1.cell? ⟨w.heap.size, 7, none⟩ = some (.string ⟨#[]⟩) := KG.out.cell 7
  have fz7 := KG.out.frozen 7
  have z8 : w1.cell? ⟨w.heap.size, 8, none⟩ = some (.int .i64 0) := KG.out.cell 8
  have fz8 := KG.out.frozen 8
  have z9 : w1.cell? ⟨w.heap.size, 9, none⟩ = some (.int .i64 0) := KG.out.cell 9
  have fz9 := KG.out.frozen 9
  go_wp2
  exact bodyPost_ret (v := .tuple #[.agg #[.int .i64 0, .int .i64 0, .int .u8 0, .int .i64 0, .int .i64 0, .int .i64 0, .int .i64 0, .string ⟨#[]⟩, .int .i64 0, .int .i64 0], .int .i64 8]) (by simp [results, Try.results24, go_sem, z0, z1, z2, z3, z4, z5, z6, z7, z8, z9]) rfl ⟨rfl, by repeat (first | with_reducible exact B1.out | with_reducible refine set_0 ?_ _ _)⟩
theorem rread23_kind (A : Option Addr) (n c : Nat) (l rest : List UInt8) (f t k g : Int) (w : World) (hr : Reads w w.heap.size 1 A n (cb l)) (hnc : n ≤ c) (hc : c ≤ 9223372036854775807) (hn : n ≤ 4096) (h : Wp.numsN 4 l = some ([f, t, k, g], rest)) (hk : ¬ (1 ≤ k ∧ k ≤ 9)) :
    Calls Try.prog 24 #[.slice A n c] w fun e w' => e = .returned (mailV none) ∧ Below w.heap.size w w' := by
  have hgm : w.heap.size < w.heap.size + 1 := by omega
  have HC := Lib.hid (rnumbers12_any A n c 4 l (w.alloc (.cells #[.int .i64 0, .int .i64 0, .int .u8 0, .int .i64 0, .int .i64 0, .int .i64 0, .int .i64 0, .string ⟨#[]⟩, .int .i64 0, .int .i64 0] 23)) _ h w.heap.size (by simp) (hr.alloc (Nat.le_refl _) _) hnc hc (by omega) (by omega))
  clear h hr
  by_cases k1 : k < 1
  all_goals (try have k2 : 9 < k := by omega)
  all_goals clear hk
  all_goals (
    go_enter Try.func24, Try.ntmps24
    go_wp2_with fail
    refine HC.out.mono ?_
    rintro e w1 ⟨A1, c1, A2, n2, c2, rfl, ho, -, -, -, -, hb⟩
    have KG := Lib.hid (Blk.below (Blk.new w 23 #[.int .i64 0, .int .i64 0, .int .u8 0, .int .i64 0, .int .i64 0, .int .i64 0, .int .i64 0, .string ⟨#[]⟩, .int .i64 0, .int .i64 0]) hb (by simp))
    have B1 := Lib.hid (below_of_alloc (hb.mono (B' := w.heap.size) (by simp)) (Nat.le_refl _))
    obtain ⟨g1, o1, rfl, -, q0, q1, q2, q3⟩ := four_cells (Reads.of_own ho)
    clear hb HC ho
    have z0 : w1.cell? ⟨w.heap.size, 0, none⟩ = some (.int .i64 0) := KG.out.cell 0
    have fz0 := KG.out.frozen 0
    have z1 : w1.cell? ⟨w.heap.size, 1, none⟩ = some (.int .i64 0) := KG.out.cell 1
    have fz1 := KG.out.frozen 1
    have z2 : w1.cell? ⟨w.heap.size, 2, none⟩ = some (.int .u8 0) := KG.out.cell 2
    have fz2 := KG.out.frozen 2
    have z3 : w1.cell? ⟨w.heap.size, 3, none⟩ = some (.int .i64 0) := KG.out.cell 3
    have fz3 := KG.out.frozen 3
    have z4 : w1.cell? ⟨w.heap.size, 4, none⟩ = some (.int .i64 0) := KG.out.cell 4
    have fz4 := KG.out.frozen 4
    have z5 : w1.cell? ⟨w.heap.size, 5, none⟩ = some (.int .i64 0) := KG.out.cell 5
    have fz5 := KG.out.frozen 5
    have z6 : w1.cell? ⟨w.heap.size, 6, none⟩ = some (.int .i64 0) := KG.out.cell 6
    have fz6 := KG.out.frozen 6
    have z7 : w1.cell? ⟨w.heap.size, 7, none⟩ = some (.string ⟨#[]⟩) := KG.out.cell 7
    have fz7 := KG.out.frozen 7
    have z8 : w1.cell? ⟨w.heap.size, 8, none⟩ = some (.int .i64 0) := KG.out.cell 8
    have fz8 := KG.out.frozen 8
    have z9 : w1.cell? ⟨w.heap.size, 9, none⟩ = some (.int .i64 0) := KG.out.cell 9
    have fz9 := KG.out.frozen 9
    go_wp2
    exact bodyPost_ret (v := .tuple #[.agg #[.int .i64 0, .int .i64 0, .int .u8 0, .int .i64 0, .int .i64 0, .int .i64 0, .int .i64 0, .string ⟨#[]⟩, .int .i64 0, .int .i64 0], .int .i64 8]) (by simp [results, Try.results24, go_sem, z0, z1, z2, z3, z4, z5, z6, z7, z8, z9]) rfl ⟨rfl, by repeat (first | with_reducible exact B1.out | with_reducible refine set_0 ?_ _ _)⟩)
end Go.Proofs.Ytdodfpjejjjciaa
