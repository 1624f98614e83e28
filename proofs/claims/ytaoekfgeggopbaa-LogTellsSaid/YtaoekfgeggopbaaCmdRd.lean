/-
  command's reader: take, number, text, ints.
-/
import Derived.Test.YtaoekfgeggopbaaCmdPlain
import Derived.Test.YtaoekfgeggopbaaHeld2
import Derived.Test.YtaoekfgeggopbaaNumIntsW
import Derived.Test.YtaoekfgeggopbaaConv
namespace Go.Proofs.Ytaoekfgeggopbaa
open Go.RowKit
set_option maxHeartbeats 8000000
set_option maxRecDepth 100000
set_option linter.unusedVariables false
set_option linter.unusedSimpArgs false

/-- What is left to be read, and whether something was wrong. -/
def RSt (B gr : Nat) (l : List UInt8) (bad : Bool) (w : World) : Prop :=
  ∃ (A : Option Addr) (n c : Nat), Blk w gr 88 #[.slice A n c, .bool !bad] ∧ Reads w B 1 A n (cb l) ∧ n ≤ c ∧ c ≤ 9223372036854775807 ∧ n ≤ 4096 ∧ B ≤ gr
theorem RSt.below {B gr : Nat} {l : List UInt8} {bad : Bool} {w w' : World} (h : RSt B gr l bad w) (hb : Below w.heap.size w w') : RSt B gr l bad w' := by
  obtain ⟨A, n, c, h1, h2, h3, h4, h5, h6⟩ := h
  exact ⟨A, n, c, h1.below hb h1.lt, h2.below (hb.mono (by have := h1.lt; omega)), h3, h4, h5, h6⟩
theorem RSt.lt {B gr : Nat} {l : List UInt8} {bad : Bool} {w : World} (h : RSt B gr l bad w) : gr < w.heap.size := by
  obtain ⟨A, n, c, h1, _⟩ := h
  exact h1.lt
theorem RSt.far {B gr : Nat} {l : List UInt8} {bad : Bool} {w : World} (h : RSt B gr l bad w) {p : Addr} (hp : gr < p.block) (u : Value) : RSt B gr l bad (w.setCell p u) := by
  obtain ⟨A, n, c, h1, h2, h3, h4, h5, h6⟩ := h
  exact ⟨A, n, c, h1.far (by omega) u, h2.setCell (by omega) u, h3, h4, h5, h6⟩

theorem ctake_any (B gr : Nat) (l : List UInt8) (bad : Bool) (k : Nat) (x : Int) (w : World) (h : RSt B gr l bad w) (hk : k ≤ l.length) (b : Bool) (hb : (bad || !(x == 0)) = b) :
    Calls Try.prog 97 #[.pointer (some ⟨gr, 0, none⟩), .int .i64 (k : Int), .int .i64 x] w fun e w' => e = .returned (.tuple #[]) ∧ RSt B gr (l.drop k) b w' ∧ w.grownBy w' (some gr) := by
  obtain ⟨A, n, c, h1, h2, h3, h4, h5, h6⟩ := h
  have hl := h2.len_b
  have hkn : k ≤ n := by omega
  have K0 := Lib.hid h1
  have R0 := Lib.hid h2
  have HB := Lib.hid hb
  clear h1 h2 hb hl hk
  have hs := fun w => run_slice_from (P := Try.prog) Try.underlying46 A n c k hkn w u8_size
  have hmin : (if n < k then (n : Int) else (k : Int)) = (k : Int) := if_neg (by omega)
  have hnk : ¬ n < k := by omega
  have c0 := K0.out.cell 0
  have c1 := K0.out.cell 1
  have f1 := K0.out.frozen 1
  have f0 := K0.out.frozen 0
  go_enter Try.func97, Try.ntmps97
  cases bad with
  | true =>
    have G1 := Lib.hid (only_setCell (World.grownBy.refl w (some gr)) (p := ⟨gr, 1, none⟩) (Or.inl rfl) (.bool false))
    have K1 : Hid (Blk (w.setCell ⟨gr, 1, none⟩ (.bool false)) gr 88 #[.slice A n c, .bool false]) := K0.out.set_ 1 (.bool false)
    have R1 := Lib.hid (R0.out.setCell (p := ⟨gr, 1, none⟩) h6 (.bool false))
    have hbb : b = true := HB.out.symm
    subst hbb
    go_wp2_with fail
    generalize w.setCell ⟨gr, 1, none⟩ (.bool false) = W1 at *
    clear K0 R0 c0 c1 f0 f1
    have c0 := K1.out.cell 0
    have f0 := K1.out.frozen 0
    have HS : Hid ((fun w' => w'.cell? ⟨gr, 0, none⟩ = some (.slice A n c)) W1.drew) := c0
    refine T_region 14 (fun w' => w'.cell? ⟨gr, 0, none⟩ = some (.slice A n c)) (by kernel_rfl) (by kernel_rfl) ?_
    refine T_takeL (i := 0) (v := ?_) rfl (by kernel_rfl) (fun _ _ _ h => h) (Or.inl ⟨by rfl, ?_⟩) HS.out ?_
    rotate_left
    · ((intro w hSw; (try dsimp only at hSw); go_simp) <;> with_reducible rfl)
    try simp only [Act.put, List.setIfInBounds_toArray, List.set_cons_zero, List.set_cons_succ]
    refine T_takeL (i := 1) (v := ?_) rfl (by kernel_rfl) (fun _ _ _ h => h) (Or.inl ⟨by rfl, ?_⟩) HS.out ?_
    rotate_left
    · ((intro w hSw; (try dsimp only at hSw); go_simp) <;> with_reducible rfl)
    try simp only [Act.put, List.setIfInBounds_toArray, List.set_cons_zero, List.set_cons_succ]
    refine T_takeL (i := 2) (v := ?_) rfl (by kernel_rfl) (fun _ _ _ h => h) (Or.inl ⟨by rfl, ?_⟩) HS.out ?_
    rotate_left
    · ((intro w hSw; (try dsimp only at hSw); go_simp) <;> with_reducible rfl)
    try simp only [Act.put, List.setIfInBounds_toArray, List.set_cons_zero, List.set_cons_succ]
    refine T_takeL (i := 3) (v := ?_) rfl (by kernel_rfl) (fun _ _ _ h => h) (Or.inl ⟨by rfl, ?_⟩) HS.out ?_
    rotate_left
    · ((intro w hSw; (try dsimp only at hSw); go_simp) <;> with_reducible rfl)
    try simp only [Act.put, List.setIfInBounds_toArray, List.set_cons_zero, List.set_cons_succ]
    refine T_takeL (i := 4) (v := ?_) rfl (by kernel_rfl) (fun _ _ _ h => h) (Or.inl ⟨by rfl, ?_⟩) HS.out ?_
    rotate_left
    · ((intro w hSw; (try dsimp only at hSw); go_simp) <;> with_reducible rfl)
    try simp only [Act.put, List.setIfInBounds_toArray, List.set_cons_zero, List.set_cons_succ]
    refine T_takeL (i := 5) (v := ?_) rfl (by kernel_rfl) (fun _ _ _ h => h) (Or.inl ⟨by rfl, ?_⟩) HS.out ?_
    rotate_left
    · ((intro w hSw; (try dsimp only at hSw); go_simp) <;> with_reducible rfl)
    try simp only [Act.put, List.setIfInBounds_toArray, List.set_cons_zero, List.set_cons_succ]
    refine T_takeL (i := 6) (v := ?_) rfl (by kernel_rfl) (fun _ _ _ h => h) (Or.inl ⟨by rfl, ?_⟩) HS.out ?_
    rotate_left
    · ((intro w hSw; (try dsimp only at hSw); go_simp) <;> with_reducible rfl)
    try simp only [Act.put, List.setIfInBounds_toArray, List.set_cons_zero, List.set_cons_succ]
    refine T_takeL (i := 7) (v := ?_) rfl (by kernel_rfl) (fun _ _ _ h => h) (Or.inl ⟨by rfl, ?_⟩) HS.out ?_
    rotate_left
    · ((intro w hSw; (try dsimp only at hSw); go_simp) <;> with_reducible rfl)
    try simp only [Act.put, List.setIfInBounds_toArray, List.set_cons_zero, List.set_cons_succ]
    refine T_takeL (i := 8) (v := ?_) rfl (by kernel_rfl) (fun _ _ _ h => h) (Or.inl ⟨by rfl, ?_⟩) HS.out ?_
    rotate_left
    · ((intro w hSw; (try dsimp only at hSw); go_simp) <;> with_reducible rfl)
    try simp only [Act.put, List.setIfInBounds_toArray, List.set_cons_zero, List.set_cons_succ]
    refine T_takeL (i := 9) (v := ?_) rfl (by kernel_rfl) (fun _ _ _ h => h) (Or.inl ⟨by rfl, ?_⟩) HS.out ?_
    rotate_left
    · ((intro w hSw; (try dsimp only at hSw); go_simp) <;> with_reducible rfl)
    try simp only [Act.put, List.setIfInBounds_toArray, List.set_cons_zero, List.set_cons_succ]
    refine T_takeL (i := 10) (v := ?_) rfl (by kernel_rfl) (fun _ _ _ h => h) (Or.inl ⟨by rfl, ?_⟩) HS.out ?_
    rotate_left
    · ((intro w hSw; (try dsimp only at hSw); go_simp) <;> with_reducible rfl)
    try simp only [Act.put, List.setIfInBounds_toArray, List.set_cons_zero, List.set_cons_succ]
    refine T_takeL (i := 11) (v := ?_) rfl (by kernel_rfl) (fun _ _ _ h => h) (Or.inl ⟨by rfl, ?_⟩) HS.out ?_
    rotate_left
    · ((intro w hSw; (try dsimp only at hSw); go_simp) <;> with_reducible rfl)
    try simp only [Act.put, List.setIfInBounds_toArray, List.set_cons_zero, List.set_cons_succ]
    refine T_takeL (i := 12) (v := ?_) rfl (by kernel_rfl) (fun _ _ _ h => h) (Or.inl ⟨by rfl, ?_⟩) HS.out ?_
    rotate_left
    · ((intro w hSw; (try dsimp only at hSw); go_simp) <;> with_reducible rfl)
    try simp only [Act.put, List.setIfInBounds_toArray, List.set_cons_zero, List.set_cons_succ]
    refine T_takeL (i := 13) (v := ?_) rfl (by kernel_rfl) (fun _ _ _ h => h) (Or.inl ⟨by rfl, ?_⟩) HS.out ?_
    rotate_left
    · ((intro w hSw; (try dsimp only at hSw); go_simp) <;> with_reducible rfl)
    try simp only [Act.put, List.setIfInBounds_toArray, List.set_cons_zero, List.set_cons_succ]
    refine T_end (by kernel_rfl) ?_
    go_wp2
    go_end0
    refine ⟨rfl, ⟨cutA A c k, n - k, c - k, ?_, ?_, by omega, by omega, by omega, h6⟩, ?_⟩
    · exact K1.out.drew.set_ 0 (.slice (cutA A c k) (n - k) (c - k))
    · have := (R1.out.drew.rest (k := k) hkn h3).setCell (p := ⟨gr, 0, none⟩) h6 (.slice (cutA A c k) (n - k) (c - k))
      rw [cb_drop] at this
      exact this
    · exact only_setCell (only_drew G1.out) (Or.inl rfl) _
  | false =>
    cases hx : (x == 0) with
    | true =>
      rw [hx] at HB
      have G1 := Lib.hid (only_setCell (World.grownBy.refl w (some gr)) (p := ⟨gr, 1, none⟩) (Or.inl rfl) (.bool true))
      have K1 : Hid (Blk (w.setCell ⟨gr, 1, none⟩ (.bool true)) gr 88 #[.slice A n c, .bool true]) := K0.out.set_ 1 (.bool true)
      have R1 := Lib.hid (R0.out.setCell (p := ⟨gr, 1, none⟩) h6 (.bool true))
      have hbb : b = false := HB.out.symm
      subst hbb
      go_wp2_with fail
      generalize w.setCell ⟨gr, 1, none⟩ (.bool true) = W1 at *
      clear K0 R0 c0 c1 f0 f1
      have c0 := K1.out.cell 0
      have f0 := K1.out.frozen 0
      have HS : Hid ((fun w' => w'.cell? ⟨gr, 0, none⟩ = some (.slice A n c)) W1.drew) := c0
      refine T_region 14 (fun w' => w'.cell? ⟨gr, 0, none⟩ = some (.slice A n c)) (by kernel_rfl) (by kernel_rfl) ?_
      refine T_takeL (i := 0) (v := ?_) rfl (by kernel_rfl) (fun _ _ _ h => h) (Or.inl ⟨by rfl, ?_⟩) HS.out ?_
      rotate_left
      · ((intro w hSw; (try dsimp only at hSw); go_simp) <;> with_reducible rfl)
      try simp only [Act.put, List.setIfInBounds_toArray, List.set_cons_zero, List.set_cons_succ]
      refine T_takeL (i := 1) (v := ?_) rfl (by kernel_rfl) (fun _ _ _ h => h) (Or.inl ⟨by rfl, ?_⟩) HS.out ?_
      rotate_left
      · ((intro w hSw; (try dsimp only at hSw); go_simp) <;> with_reducible rfl)
      try simp only [Act.put, List.setIfInBounds_toArray, List.set_cons_zero, List.set_cons_succ]
      refine T_takeL (i := 2) (v := ?_) rfl (by kernel_rfl) (fun _ _ _ h => h) (Or.inl ⟨by rfl, ?_⟩) HS.out ?_
      rotate_left
      · ((intro w hSw; (try dsimp only at hSw); go_simp) <;> with_reducible rfl)
      try simp only [Act.put, List.setIfInBounds_toArray, List.set_cons_zero, List.set_cons_succ]
      refine T_takeL (i := 3) (v := ?_) rfl (by kernel_rfl) (fun _ _ _ h => h) (Or.inl ⟨by rfl, ?_⟩) HS.out ?_
      rotate_left
      · ((intro w hSw; (try dsimp only at hSw); go_simp) <;> with_reducible rfl)
      try simp only [Act.put, List.setIfInBounds_toArray, List.set_cons_zero, List.set_cons_succ]
      refine T_takeL (i := 4) (v := ?_) rfl (by kernel_rfl) (fun _ _ _ h => h) (Or.inl ⟨by rfl, ?_⟩) HS.out ?_
      rotate_left
      · ((intro w hSw; (try dsimp only at hSw); go_simp) <;> with_reducible rfl)
      try simp only [Act.put, List.setIfInBounds_toArray, List.set_cons_zero, List.set_cons_succ]
      refine T_takeL (i := 5) (v := ?_) rfl (by kernel_rfl) (fun _ _ _ h => h) (Or.inl ⟨by rfl, ?_⟩) HS.out ?_
      rotate_left
      · ((intro w hSw; (try dsimp only at hSw); go_simp) <;> with_reducible rfl)
      try simp only [Act.put, List.setIfInBounds_toArray, List.set_cons_zero, List.set_cons_succ]
      refine T_takeL (i := 6) (v := ?_) rfl (by kernel_rfl) (fun _ _ _ h => h) (Or.inl ⟨by rfl, ?_⟩) HS.out ?_
      rotate_left
      · ((intro w hSw; (try dsimp only at hSw); go_simp) <;> with_reducible rfl)
      try simp only [Act.put, List.setIfInBounds_toArray, List.set_cons_zero, List.set_cons_succ]
      refine T_takeL (i := 7) (v := ?_) rfl (by kernel_rfl) (fun _ _ _ h => h) (Or.inl ⟨by rfl, ?_⟩) HS.out ?_
      rotate_left
      · ((intro w hSw; (try dsimp only at hSw); go_simp) <;> with_reducible rfl)
      try simp only [Act.put, List.setIfInBounds_toArray, List.set_cons_zero, List.set_cons_succ]
      refine T_takeL (i := 8) (v := ?_) rfl (by kernel_rfl) (fun _ _ _ h => h) (Or.inl ⟨by rfl, ?_⟩) HS.out ?_
      rotate_left
      · ((intro w hSw; (try dsimp only at hSw); go_simp) <;> with_reducible rfl)
      try simp only [Act.put, List.setIfInBounds_toArray, List.set_cons_zero, List.set_cons_succ]
      refine T_takeL (i := 9) (v := ?_) rfl (by kernel_rfl) (fun _ _ _ h => h) (Or.inl ⟨by rfl, ?_⟩) HS.out ?_
      rotate_left
      · ((intro w hSw; (try dsimp only at hSw); go_simp) <;> with_reducible rfl)
      try simp only [Act.put, List.setIfInBounds_toArray, List.set_cons_zero, List.set_cons_succ]
      refine T_takeL (i := 10) (v := ?_) rfl (by kernel_rfl) (fun _ _ _ h => h) (Or.inl ⟨by rfl, ?_⟩) HS.out ?_
      rotate_left
      · ((intro w hSw; (try dsimp only at hSw); go_simp) <;> with_reducible rfl)
      try simp only [Act.put, List.setIfInBounds_toArray, List.set_cons_zero, List.set_cons_succ]
      refine T_takeL (i := 11) (v := ?_) rfl (by kernel_rfl) (fun _ _ _ h => h) (Or.inl ⟨by rfl, ?_⟩) HS.out ?_
      rotate_left
      · ((intro w hSw; (try dsimp only at hSw); go_simp) <;> with_reducible rfl)
      try simp only [Act.put, List.setIfInBounds_toArray, List.set_cons_zero, List.set_cons_succ]
      refine T_takeL (i := 12) (v := ?_) rfl (by kernel_rfl) (fun _ _ _ h => h) (Or.inl ⟨by rfl, ?_⟩) HS.out ?_
      rotate_left
      · ((intro w hSw; (try dsimp only at hSw); go_simp) <;> with_reducible rfl)
      try simp only [Act.put, List.setIfInBounds_toArray, List.set_cons_zero, List.set_cons_succ]
      refine T_takeL (i := 13) (v := ?_) rfl (by kernel_rfl) (fun _ _ _ h => h) (Or.inl ⟨by rfl, ?_⟩) HS.out ?_
      rotate_left
      · ((intro w hSw; (try dsimp only at hSw); go_simp) <;> with_reducible rfl)
      try simp only [Act.put, List.setIfInBounds_toArray, List.set_cons_zero, List.set_cons_succ]
      refine T_end (by kernel_rfl) ?_
      go_wp2
      go_end0
      refine ⟨rfl, ⟨cutA A c k, n - k, c - k, ?_, ?_, by omega, by omega, by omega, h6⟩, ?_⟩
      · exact K1.out.drew.set_ 0 (.slice (cutA A c k) (n - k) (c - k))
      · have := (R1.out.drew.rest (k := k) hkn h3).setCell (p := ⟨gr, 0, none⟩) h6 (.slice (cutA A c k) (n - k) (c - k))
        rw [cb_drop] at this
        exact this
      · exact only_setCell (only_drew G1.out) (Or.inl rfl) _
    | false =>
      rw [hx] at HB
      have G1 := Lib.hid (only_setCell (World.grownBy.refl w (some gr)) (p := ⟨gr, 1, none⟩) (Or.inl rfl) (.bool false))
      have K1 : Hid (Blk (w.setCell ⟨gr, 1, none⟩ (.bool false)) gr 88 #[.slice A n c, .bool false]) := K0.out.set_ 1 (.bool false)
      have R1 := Lib.hid (R0.out.setCell (p := ⟨gr, 1, none⟩) h6 (.bool false))
      have hbb : b = true := HB.out.symm
      subst hbb
      go_wp2_with fail
      generalize w.setCell ⟨gr, 1, none⟩ (.bool false) = W1 at *
      clear K0 R0 c0 c1 f0 f1
      have c0 := K1.out.cell 0
      have f0 := K1.out.frozen 0
      have HS : Hid ((fun w' => w'.cell? ⟨gr, 0, none⟩ = some (.slice A n c)) W1.drew) := c0
      refine T_region 14 (fun w' => w'.cell? ⟨gr, 0, none⟩ = some (.slice A n c)) (by kernel_rfl) (by kernel_rfl) ?_
      refine T_takeL (i := 0) (v := ?_) rfl (by kernel_rfl) (fun _ _ _ h => h) (Or.inl ⟨by rfl, ?_⟩) HS.out ?_
      rotate_left
      · ((intro w hSw; (try dsimp only at hSw); go_simp) <;> with_reducible rfl)
      try simp only [Act.put, List.setIfInBounds_toArray, List.set_cons_zero, List.set_cons_succ]
      refine T_takeL (i := 1) (v := ?_) rfl (by kernel_rfl) (fun _ _ _ h => h) (Or.inl ⟨by rfl, ?_⟩) HS.out ?_
      rotate_left
      · ((intro w hSw; (try dsimp only at hSw); go_simp) <;> with_reducible rfl)
      try simp only [Act.put, List.setIfInBounds_toArray, List.set_cons_zero, List.set_cons_succ]
      refine T_takeL (i := 2) (v := ?_) rfl (by kernel_rfl) (fun _ _ _ h => h) (Or.inl ⟨by rfl, ?_⟩) HS.out ?_
      rotate_left
      · ((intro w hSw; (try dsimp only at hSw); go_simp) <;> with_reducible rfl)
      try simp only [Act.put, List.setIfInBounds_toArray, List.set_cons_zero, List.set_cons_succ]
      refine T_takeL (i := 3) (v := ?_) rfl (by kernel_rfl) (fun _ _ _ h => h) (Or.inl ⟨by rfl, ?_⟩) HS.out ?_
      rotate_left
      · ((intro w hSw; (try dsimp only at hSw); go_simp) <;> with_reducible rfl)
      try simp only [Act.put, List.setIfInBounds_toArray, List.set_cons_zero, List.set_cons_succ]
      refine T_takeL (i := 4) (v := ?_) rfl (by kernel_rfl) (fun _ _ _ h => h) (Or.inl ⟨by rfl, ?_⟩) HS.out ?_
      rotate_left
      · ((intro w hSw; (try dsimp only at hSw); go_simp) <;> with_reducible rfl)
      try simp only [Act.put, List.setIfInBounds_toArray, List.set_cons_zero, List.set_cons_succ]
      refine T_takeL (i := 5) (v := ?_) rfl (by kernel_rfl) (fun _ _ _ h => h) (Or.inl ⟨by rfl, ?_⟩) HS.out ?_
      rotate_left
      · ((intro w hSw; (try dsimp only at hSw); go_simp) <;> with_reducible rfl)
      try simp only [Act.put, List.setIfInBounds_toArray, List.set_cons_zero, List.set_cons_succ]
      refine T_takeL (i := 6) (v := ?_) rfl (by kernel_rfl) (fun _ _ _ h => h) (Or.inl ⟨by rfl, ?_⟩) HS.out ?_
      rotate_left
      · ((intro w hSw; (try dsimp only at hSw); go_simp) <;> with_reducible rfl)
      try simp only [Act.put, List.setIfInBounds_toArray, List.set_cons_zero, List.set_cons_succ]
      refine T_takeL (i := 7) (v := ?_) rfl (by kernel_rfl) (fun _ _ _ h => h) (Or.inl ⟨by rfl, ?_⟩) HS.out ?_
      rotate_left
      · ((intro w hSw; (try dsimp only at hSw); go_simp) <;> with_reducible rfl)
      try simp only [Act.put, List.setIfInBounds_toArray, List.set_cons_zero, List.set_cons_succ]
      refine T_takeL (i := 8) (v := ?_) rfl (by kernel_rfl) (fun _ _ _ h => h) (Or.inl ⟨by rfl, ?_⟩) HS.out ?_
      rotate_left
      · ((intro w hSw; (try dsimp only at hSw); go_simp) <;> with_reducible rfl)
      try simp only [Act.put, List.setIfInBounds_toArray, List.set_cons_zero, List.set_cons_succ]
      refine T_takeL (i := 9) (v := ?_) rfl (by kernel_rfl) (fun _ _ _ h => h) (Or.inl ⟨by rfl, ?_⟩) HS.out ?_
      rotate_left
      · ((intro w hSw; (try dsimp only at hSw); go_simp) <;> with_reducible rfl)
      try simp only [Act.put, List.setIfInBounds_toArray, List.set_cons_zero, List.set_cons_succ]
      refine T_takeL (i := 10) (v := ?_) rfl (by kernel_rfl) (fun _ _ _ h => h) (Or.inl ⟨by rfl, ?_⟩) HS.out ?_
      rotate_left
      · ((intro w hSw; (try dsimp only at hSw); go_simp) <;> with_reducible rfl)
      try simp only [Act.put, List.setIfInBounds_toArray, List.set_cons_zero, List.set_cons_succ]
      refine T_takeL (i := 11) (v := ?_) rfl (by kernel_rfl) (fun _ _ _ h => h) (Or.inl ⟨by rfl, ?_⟩) HS.out ?_
      rotate_left
      · ((intro w hSw; (try dsimp only at hSw); go_simp) <;> with_reducible rfl)
      try simp only [Act.put, List.setIfInBounds_toArray, List.set_cons_zero, List.set_cons_succ]
      refine T_takeL (i := 12) (v := ?_) rfl (by kernel_rfl) (fun _ _ _ h => h) (Or.inl ⟨by rfl, ?_⟩) HS.out ?_
      rotate_left
      · ((intro w hSw; (try dsimp only at hSw); go_simp) <;> with_reducible rfl)
      try simp only [Act.put, List.setIfInBounds_toArray, List.set_cons_zero, List.set_cons_succ]
      refine T_takeL (i := 13) (v := ?_) rfl (by kernel_rfl) (fun _ _ _ h => h) (Or.inl ⟨by rfl, ?_⟩) HS.out ?_
      rotate_left
      · ((intro w hSw; (try dsimp only at hSw); go_simp) <;> with_reducible rfl)
      try simp only [Act.put, List.setIfInBounds_toArray, List.set_cons_zero, List.set_cons_succ]
      refine T_end (by kernel_rfl) ?_
      go_wp2
      go_end0
      refine ⟨rfl, ⟨cutA A c k, n - k, c - k, ?_, ?_, by omega, by omega, by omega, h6⟩, ?_⟩
      · exact K1.out.drew.set_ 0 (.slice (cutA A c k) (n - k) (c - k))
      · have := (R1.out.drew.rest (k := k) hkn h3).setCell (p := ⟨gr, 0, none⟩) h6 (.slice (cutA A c k) (n - k) (c - k))
        rw [cb_drop] at this
        exact this
      · exact only_setCell (only_drew G1.out) (Or.inl rfl) _

theorem grown_below {w w1 w2 : World} {row : Option Nat} (h : Below w.heap.size w w1) (k : w1.grownBy w2 row) : w.grownBy w2 row :=
  ⟨k.os.trans h.os, k.tape.trans h.tape, k.output.trans h.output, Nat.le_trans h.size k.size, fun i hi hne => (k.block i (Nat.lt_of_lt_of_le hi h.size) hne).trans (h.block i hi)⟩
def nkR (l : List UInt8) : Nat := match Nm.get l with | some (_, k) => k | none => 0
theorem cnum_any (B gr : Nat) (l : List UInt8) (bad : Bool) (w : World) (h : RSt B gr l bad w) (m : Nat) (l' : List UInt8) (bad' : Bool) (hx : Rp.next (l, bad) = (m, (l', bad'))) :
    Calls Try.prog 81 #[.pointer (some ⟨gr, 0, none⟩)] w fun e w' => e = .returned (.int .i64 (m : Int)) ∧ RSt B gr l' bad' w' ∧ w.grownBy w' (some gr) := by
  have H := Lib.hid h
  obtain ⟨A, n, c, h1, h2, h3, h4, h5, h6⟩ := h
  have c0 := h1.cell 0
  have HG := Lib.hid (get_any A n c B l w h2 (by omega))
  have hl := h2.len_b
  clear h1 h2 h3 h4 h6
  unfold Rp.next at hx
  cases hg : Nm.get l with
  | none =>
    rw [hg] at hx HG
    simp only [Prod.mk.injEq] at hx
    obtain ⟨rfl, rfl, rfl⟩ := hx
    have HT := Lib.hid (ctake_any B gr l bad 0 8 w H.out (Nat.zero_le _) true (by simp))
    clear hg
    go_enter Try.func81, Try.ntmps81
    go_wp2_with fail
    refine HG.out.mono ?_
    rintro e w' ⟨rfl, rfl⟩
    simp only [getV]
    go_wp2_with fail
    refine HT.out.mono ?_
    rintro e w2 ⟨rfl, hs, hgr⟩
    have HS2 := Lib.hid hs
    have HGR := Lib.hid hgr
    clear hs hgr c0
    go_wp2
    go_ret
    exact ⟨rfl, HS2.out, HGR.out⟩
  | some p =>
    obtain ⟨v, k⟩ := p
    rw [hg] at hx HG
    simp only [Prod.mk.injEq] at hx
    obtain ⟨rfl, rfl, rfl⟩ := hx
    have hkl := (Nm.get_back hg).2.2.1
    have HT := Lib.hid (ctake_any B gr l bad k 0 w H.out hkl bad (by simp))
    clear hg
    go_enter Try.func81, Try.ntmps81
    go_wp2_with fail
    refine HG.out.mono ?_
    rintro e w' ⟨rfl, rfl⟩
    simp only [getV]
    go_wp2_with fail
    refine HT.out.mono ?_
    rintro e w2 ⟨rfl, hs, hgr⟩
    have HS2 := Lib.hid hs
    have HGR := Lib.hid hgr
    clear hs hgr c0
    go_wp2
    go_ret
    exact ⟨rfl, HS2.out, HGR.out⟩
end Go.Proofs.Ytaoekfgeggopbaa
