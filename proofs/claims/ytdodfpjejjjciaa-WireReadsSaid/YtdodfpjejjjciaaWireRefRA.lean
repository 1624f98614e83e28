/-
  The reference of layer 23: Read, kind by kind.
-/
import Derived.Test.YtdodfpjejjjciaaWireRefRH
import Derived.Test.YtdodfpjejjjciaaWireRefN
namespace Go.Proofs.Ytdodfpjejjjciaa
open Go.RowKit Bal Go.Sort Go.BigFrame
set_option maxHeartbeats 8000000
set_option maxRecDepth 100000
set_option linter.unusedVariables false
set_option linter.unusedSimpArgs false

theorem rread23_1 (A : Option Addr) (n c : Nat) (l rest : List UInt8) (f t g : Int) (w : World) (hr : Reads w w.heap.size 1 A n (cb l)) (hnc : n ≤ c) (hc : c ≤ 9223372036854775807) (hn : n ≤ 4096) (h : Wp.numsN 4 l = some ([f, t, 1, g], rest)) :
    Calls Try.prog 24 #[.slice A n c] w fun e w' => e = .returned (mailV (Wp.rread2 f t 1 g rest)) ∧ Below w.heap.size w w' := by
  have hgm : w.heap.size < w.heap.size + 1 := by omega
  have HC := Lib.hid (rnumbers12_any A n c 4 l (w.alloc (.cells #[.int .i64 0, .int .i64 0, .int .u8 0, .int .i64 0, .int .i64 0, .int .i64 0, .int .i64 0, .string ⟨#[]⟩, .int .i64 0, .int .i64 0] 23)) _ h w.heap.size (by simp) (hr.alloc (Nat.le_refl _) _) hnc hc (by omega) (by omega))
  clear h hr
  obtain ⟨F2, hF2⟩ : ∃ F, Wp.numsN 2 rest = F := ⟨_, rfl⟩
  have HF2 := Lib.hid hF2
  clear hF2
  obtain ⟨R, hR⟩ : ∃ R, Wp.rread2 f t 1 g rest = R := ⟨_, rfl⟩
  rw [hR]
  have HR := Lib.hid hR
  clear hR
  go_enter Try.func24, Try.ntmps24
  go_wp2_with fail
  refine HC.out.mono ?_
  rintro e w1 ⟨A1, c1, A2, n2, c2, rfl, ho, hr2, hnc2, hc2, hn2, hb⟩
  have KG := Lib.hid (Blk.below (Blk.new w 23 #[.int .i64 0, .int .i64 0, .int .u8 0, .int .i64 0, .int .i64 0, .int .i64 0, .int .i64 0, .string ⟨#[]⟩, .int .i64 0, .int .i64 0]) hb (by simp))
  have B1 := Lib.hid (below_of_alloc (hb.mono (B' := w.heap.size) (by simp)) (Nat.le_refl _))
  obtain ⟨g1, o1, rfl, hg1, q0, q1, q2, q3⟩ := four_cells (Reads.of_own ho)
  have hg1b := own_new ho
  have HR2 := Lib.hid hr2
  clear hb HC ho hr2
  go_upto_region 6 with fail
  go_region
  go_wp2_with fail
  have Q2 : Hid ((w1.alloc (.cells #[.int .i64 f, .int .i64 t, .int .u8 1, .int .i64 g, .int .i64 0, .int .i64 0, .int .i64 0, .string ⟨#[]⟩, .int .i64 0, .int .i64 0] 23)).drew.cell? ⟨g1, o1 + 2, none⟩ = some (.int .i64 1)) := (World.cell?_alloc_lt w1 (.cells #[.int .i64 f, .int .i64 t, .int .u8 1, .int .i64 g, .int .i64 0, .int .i64 0, .int .i64 0, .string ⟨#[]⟩, .int .i64 0, .int .i64 0] 23) ⟨g1, o1 + 2, none⟩ hg1).trans q2
  have K2 := Lib.hid (Blk.drew (Blk.new w1 23 #[.int .i64 f, .int .i64 t, .int .u8 1, .int .i64 g, .int .i64 0, .int .i64 0, .int .i64 0, .string ⟨#[]⟩, .int .i64 0, .int .i64 0]))
  have KG2 := Lib.hid ((KG.out.alloc (.cells #[.int .i64 f, .int .i64 t, .int .u8 1, .int .i64 g, .int .i64 0, .int .i64 0, .int .i64 0, .string ⟨#[]⟩, .int .i64 0, .int .i64 0] 23)).drew)
  have B2 := Lib.hid ((B1.out.alloc B1.out.size (.cells #[.int .i64 f, .int .i64 t, .int .u8 1, .int .i64 g, .int .i64 0, .int .i64 0, .int .i64 0, .string ⟨#[]⟩, .int .i64 0, .int .i64 0] 23)).drew)
  have HRa := Lib.hid ((HR2.out.alloc B1.out.size (.cells #[.int .i64 f, .int .i64 t, .int .u8 1, .int .i64 g, .int .i64 0, .int .i64 0, .int .i64 0, .string ⟨#[]⟩, .int .i64 0, .int .i64 0] 23)).drew)
  have hzG : w.heap.size < w1.heap.size := KG.out.lt
  clear q0 q1 q2 q3 KG B1 HR2
  generalize (w1.alloc (.cells #[.int .i64 f, .int .i64 t, .int .u8 1, .int .i64 g, .int .i64 0, .int .i64 0, .int .i64 0, .string ⟨#[]⟩, .int .i64 0, .int .i64 0] 23)).drew = W2 at *
  obtain ⟨gm, hgm2⟩ : ∃ x, w1.heap.size = x := ⟨_, rfl⟩
  rw [hgm2] at hzG hg1 K2
  rw [hgm2]
  clear hgm2
  have ngm : gm ≠ g1 := by omega
  have nmg := Ne.symm ngm
  have ngr : gm ≠ w.heap.size := by omega
  have nrg := Ne.symm ngr
  have nr1 : w.heap.size ≠ g1 := by simp only [World.size_alloc] at hg1b; omega
  have n1r := Ne.symm nr1
  refine (rnumbers_1 f t g 0 0 0 ⟨#[]⟩ 0 0 W2).mono ?_
  rintro e w3 ⟨A3, c3, rfl, ho3, hb⟩
  have K3 := Lib.hid (K2.out.below hb K2.out.lt)
  have KG3 := Lib.hid (KG2.out.below hb KG2.out.lt)
  have B3 := Lib.hid (B2.out.trans (hb.mono B2.out.size))
  have HR3 := Lib.hid (HRa.out.below (hb.mono B2.out.size))
  have Q3 : Hid (w3.cell? ⟨g1, o1 + 2, none⟩ = some (.int .i64 1)) := (hb.cell (p := ⟨g1, o1 + 2, none⟩) (by have := K2.out.lt; show g1 < _; omega)).trans Q2.out
  clear hb K2 KG2 B2 HRa Q2 ho3
  go_wp2_with fail
  have CN := rnumbers12_any A2 n2 c2 2 rest w3 F2 HF2.out w.heap.size B3.out.size HR3.out hnc2 hc2 hn2 (by omega)
  rw [show ((2 : Nat) : Int) = 2 from rfl] at CN
  refine CN.mono ?_
  clear CN
  cases F2 with
  | none =>
    rintro e w4 ⟨rfl, hb⟩
    have KG4 := Lib.hid (KG3.out.below hb KG3.out.lt)
    have BF := Lib.hid (B3.out.trans (hb.mono B3.out.size))
    have HE : Hid (R = none) := by rw [Hid, ← HR.out]; exact Wp.rread2_none HF2.out
    clear hb
    have z0 : w4.cell? ⟨w.heap.size, 0, none⟩ = some (.int .i64 0) := KG4.out.cell 0
    have fz0 := KG4.out.frozen 0
    have z1 : w4.cell? ⟨w.heap.size, 1, none⟩ = some (.int .i64 0) := KG4.out.cell 1
    have fz1 := KG4.out.frozen 1
    have z2 : w4.cell? ⟨w.heap.size, 2, none⟩ = some (.int .u8 0) := KG4.out.cell 2
    have fz2 := KG4.out.frozen 2
    have z3 : w4.cell? ⟨w.heap.size, 3, none⟩ = some (.int .i64 0) := KG4.out.cell 3
    have fz3 := KG4.out.frozen 3
    have z4 : w4.cell? ⟨w.heap.size, 4, none⟩ = some (.int .i64 0) := KG4.out.cell 4
    have fz4 := KG4.out.frozen 4
    have z5 : w4.cell? ⟨w.heap.size, 5, none⟩ = some (.int .i64 0) := KG4.out.cell 5
    have fz5 := KG4.out.frozen 5
    have z6 : w4.cell? ⟨w.heap.size, 6, none⟩ = some (.int .i64 0) := KG4.out.cell 6
    have fz6 := KG4.out.frozen 6
    have z7 : w4.cell? ⟨w.heap.size, 7, none⟩ = some (.string ⟨#[]⟩) := KG4.out.cell 7
    have fz7 := KG4.out.frozen 7
    have z8 : w4.cell? ⟨w.heap.size, 8, none⟩ = some (.int .i64 0) := KG4.out.cell 8
    have fz8 := KG4.out.frozen 8
    have z9 : w4.cell? ⟨w.heap.size, 9, none⟩ = some (.int .i64 0) := KG4.out.cell 9
    have fz9 := KG4.out.frozen 9
    go_wp2
    exact bodyPost_ret (v := .tuple #[.agg #[.int .i64 0, .int .i64 0, .int .u8 0, .int .i64 0, .int .i64 0, .int .i64 0, .int .i64 0, .string ⟨#[]⟩, .int .i64 0, .int .i64 0], .int .i64 8]) (by simp [results, Try.results24, go_sem, z0, z1, z2, z3, z4, z5, z6, z7, z8, z9]) rfl ⟨by rw [HE.out]; rfl, by repeat (first | with_reducible exact BF.out | with_reducible refine set_0 ?_ _ _)⟩
  | some p =>
    obtain ⟨xs, left⟩ := p
    have hxl := (Wp.numsN_back _ _ _ _ HF2.out).1
    rintro e w4 ⟨A4, c4, A5, n5, c5, rfl, ho4, hr5, hnc5, hc5, hn5, hb⟩
    have K4 := Lib.hid (K3.out.below hb K3.out.lt)
    have KG4 := Lib.hid (KG3.out.below hb KG3.out.lt)
    have B4 := Lib.hid (B3.out.trans (hb.mono B3.out.size))

    obtain ⟨a0, a1, rfl⟩ : ∃ a0 a1, xs = [a0, a1] := by
      match xs, hxl with | [a0, a1], _ => exact ⟨a0, a1, rfl⟩
    clear hxl
    obtain ⟨gx, ox, rfl, -, x0, x1⟩ := cells_2 (base := 0) (Reads.of_own ho4)
    have ngx : gm ≠ gx := by have := own_new ho4; have := K3.out.lt; omega
    have nxg := Ne.symm ngx
    have nrx : w.heap.size ≠ gx := by have := own_new ho4; have := KG3.out.lt; omega
    have nxr := Ne.symm nrx
    have q2 : w4.cell? ⟨g1, o1 + 2, none⟩ = some (.int .i64 1) := (hb.cell (p := ⟨g1, o1 + 2, none⟩) (by have := K3.out.lt; show g1 < _; omega)).trans Q3.out
    have y0 : w4.cell? ⟨gm, 0, none⟩ = some (.int .i64 f) := K4.out.cell 0
    have fy0 := K4.out.frozen 0
    have y1 : w4.cell? ⟨gm, 1, none⟩ = some (.int .i64 t) := K4.out.cell 1
    have fy1 := K4.out.frozen 1
    have y2 : w4.cell? ⟨gm, 2, none⟩ = some (.int .u8 1) := K4.out.cell 2
    have fy2 := K4.out.frozen 2
    have y3 : w4.cell? ⟨gm, 3, none⟩ = some (.int .i64 g) := K4.out.cell 3
    have fy3 := K4.out.frozen 3
    have y4 : w4.cell? ⟨gm, 4, none⟩ = some (.int .i64 0) := K4.out.cell 4
    have fy4 := K4.out.frozen 4
    have y5 : w4.cell? ⟨gm, 5, none⟩ = some (.int .i64 0) := K4.out.cell 5
    have fy5 := K4.out.frozen 5
    have y6 : w4.cell? ⟨gm, 6, none⟩ = some (.int .i64 0) := K4.out.cell 6
    have fy6 := K4.out.frozen 6
    have y7 : w4.cell? ⟨gm, 7, none⟩ = some (.string ⟨#[]⟩) := K4.out.cell 7
    have fy7 := K4.out.frozen 7
    have y8 : w4.cell? ⟨gm, 8, none⟩ = some (.int .i64 0) := K4.out.cell 8
    have fy8 := K4.out.frozen 8
    have y9 : w4.cell? ⟨gm, 9, none⟩ = some (.int .i64 0) := K4.out.cell 9
    have fy9 := K4.out.frozen 9
    go_wp2_with fail
    clear hb ho4 y0 fy0 y1 fy1 y2 fy2 y3 fy3 y4 fy4 y5 fy5 y6 fy6 y7 fy7 y8 fy8 y9 fy9
    have K5 : Hid (Blk ((w4.setCell ⟨gm, 4, none⟩ (.int .i64 a0)).setCell ⟨gm, 5, none⟩ (.int .i64 a1)) gm 23 #[.int .i64 f, .int .i64 t, .int .u8 1, .int .i64 g, .int .i64 a0, .int .i64 a1, .int .i64 0, .string ⟨#[]⟩, .int .i64 0, .int .i64 0]) := ((K4.out.set_ 4 (.int .i64 a0)).set_ 5 (.int .i64 a1))
    have KG5 : Hid (Blk ((w4.setCell ⟨gm, 4, none⟩ (.int .i64 a0)).setCell ⟨gm, 5, none⟩ (.int .i64 a1)) w.heap.size 23 #[.int .i64 0, .int .i64 0, .int .u8 0, .int .i64 0, .int .i64 0, .int .i64 0, .int .i64 0, .string ⟨#[]⟩, .int .i64 0, .int .i64 0]) := ((KG4.out.far (p := ⟨gm, 4, none⟩) nrg (.int .i64 a0)).far (p := ⟨gm, 5, none⟩) nrg (.int .i64 a1))
    have B5 : Hid (Below w.heap.size w ((w4.setCell ⟨gm, 4, none⟩ (.int .i64 a0)).setCell ⟨gm, 5, none⟩ (.int .i64 a1))) := ((B4.out.setCell (p := ⟨gm, 4, none⟩) (Nat.le_of_lt hzG) (.int .i64 a0)).setCell (p := ⟨gm, 5, none⟩) (Nat.le_of_lt hzG) (.int .i64 a1))
    have HR5 : Hid (Reads ((w4.setCell ⟨gm, 4, none⟩ (.int .i64 a0)).setCell ⟨gm, 5, none⟩ (.int .i64 a1)) w.heap.size 1 A5 n5 (cb left)) := ((hr5.setCell (p := ⟨gm, 4, none⟩) (Nat.le_of_lt hzG) (.int .i64 a0)).setCell (p := ⟨gm, 5, none⟩) (Nat.le_of_lt hzG) (.int .i64 a1))
    clear hr5 q2 x0 x1
    generalize ((w4.setCell ⟨gm, 4, none⟩ (.int .i64 a0)).setCell ⟨gm, 5, none⟩ (.int .i64 a1)) = W5 at *
    refine (rvalued_any 1 W5 (by omega) (by omega)).mono ?_
    rw [show Wp.valuedB 1 = false from rfl]
    rintro e w' ⟨rfl, rfl⟩
    have hln := HR5.out.len_b
    by_cases zn : n5 = 0
    rotate_left
    · have zz : (0 : Int) < (n5 : Int) := by omega
      have HE : Hid (R = none) := by rw [Hid, ← HR.out, Wp.rread2_plain (f := f) (t := t) (k := 1) (g := g) HF2.out rfl]; exact Wp.fin_no1 (fun e => by rw [e] at hln; simp at hln; omega)
      clear hln
      have BF := Lib.hid B5.out
      have z0 : W5.cell? ⟨w.heap.size, 0, none⟩ = some (.int .i64 0) := KG5.out.cell 0
      have fz0 := KG5.out.frozen 0
      have z1 : W5.cell? ⟨w.heap.size, 1, none⟩ = some (.int .i64 0) := KG5.out.cell 1
      have fz1 := KG5.out.frozen 1
      have z2 : W5.cell? ⟨w.heap.size, 2, none⟩ = some (.int .u8 0) := KG5.out.cell 2
      have fz2 := KG5.out.frozen 2
      have z3 : W5.cell? ⟨w.heap.size, 3, none⟩ = some (.int .i64 0) := KG5.out.cell 3
      have fz3 := KG5.out.frozen 3
      have z4 : W5.cell? ⟨w.heap.size, 4, none⟩ = some (.int .i64 0) := KG5.out.cell 4
      have fz4 := KG5.out.frozen 4
      have z5 : W5.cell? ⟨w.heap.size, 5, none⟩ = some (.int .i64 0) := KG5.out.cell 5
      have fz5 := KG5.out.frozen 5
      have z6 : W5.cell? ⟨w.heap.size, 6, none⟩ = some (.int .i64 0) := KG5.out.cell 6
      have fz6 := KG5.out.frozen 6
      have z7 : W5.cell? ⟨w.heap.size, 7, none⟩ = some (.string ⟨#[]⟩) := KG5.out.cell 7
      have fz7 := KG5.out.frozen 7
      have z8 : W5.cell? ⟨w.heap.size, 8, none⟩ = some (.int .i64 0) := KG5.out.cell 8
      have fz8 := KG5.out.frozen 8
      have z9 : W5.cell? ⟨w.heap.size, 9, none⟩ = some (.int .i64 0) := KG5.out.cell 9
      have fz9 := KG5.out.frozen 9
      go_wp2
      exact bodyPost_ret (v := .tuple #[.agg #[.int .i64 0, .int .i64 0, .int .u8 0, .int .i64 0, .int .i64 0, .int .i64 0, .int .i64 0, .string ⟨#[]⟩, .int .i64 0, .int .i64 0], .int .i64 8]) (by simp [results, Try.results24, go_sem, z0, z1, z2, z3, z4, z5, z6, z7, z8, z9]) rfl ⟨by rw [HE.out]; rfl, by repeat (first | with_reducible exact BF.out | with_reducible refine set_0 ?_ _ _)⟩
    · have HL0 : Hid (left = []) := List.eq_nil_of_length_eq_zero (by rw [hln]; exact zn)
      have zz : ¬ (0 : Int) < (n5 : Int) := by omega
      clear hln
      have CM := rmay23_any f t 1 g a0 a1 0 ⟨#[]⟩ 0 0 W5 (by decide)
      have y0 : W5.cell? ⟨gm, 0, none⟩ = some (.int .i64 f) := K5.out.cell 0
      have fy0 := K5.out.frozen 0
      have y1 : W5.cell? ⟨gm, 1, none⟩ = some (.int .i64 t) := K5.out.cell 1
      have fy1 := K5.out.frozen 1
      have y2 : W5.cell? ⟨gm, 2, none⟩ = some (.int .u8 1) := K5.out.cell 2
      have fy2 := K5.out.frozen 2
      have y3 : W5.cell? ⟨gm, 3, none⟩ = some (.int .i64 g) := K5.out.cell 3
      have fy3 := K5.out.frozen 3
      have y4 : W5.cell? ⟨gm, 4, none⟩ = some (.int .i64 a0) := K5.out.cell 4
      have fy4 := K5.out.frozen 4
      have y5 : W5.cell? ⟨gm, 5, none⟩ = some (.int .i64 a1) := K5.out.cell 5
      have fy5 := K5.out.frozen 5
      have y6 : W5.cell? ⟨gm, 6, none⟩ = some (.int .i64 0) := K5.out.cell 6
      have fy6 := K5.out.frozen 6
      have y7 : W5.cell? ⟨gm, 7, none⟩ = some (.string ⟨#[]⟩) := K5.out.cell 7
      have fy7 := K5.out.frozen 7
      have y8 : W5.cell? ⟨gm, 8, none⟩ = some (.int .i64 0) := K5.out.cell 8
      have fy8 := K5.out.frozen 8
      have y9 : W5.cell? ⟨gm, 9, none⟩ = some (.int .i64 0) := K5.out.cell 9
      have fy9 := K5.out.frozen 9
      cases hm : Wp.mayM ⟨f, t, 1, g, a0, a1, 0, [], 0, 0⟩ with
      | false =>
        have CX : Hid (Calls Try.prog 32 #[.agg #[.int .i64 f, .int .i64 t, .int .u8 1, .int .i64 g, .int .i64 a0, .int .i64 a1, .int .i64 0, .string ⟨#[]⟩, .int .i64 0, .int .i64 0]] W5 fun e w' => e = .returned (.bool false) ∧ Below W5.heap.size W5 w') := by
          rw [Hid, ← hm]; exact CM
        have HE : Hid (R = none) := by rw [Hid, ← HR.out, Wp.rread2_plain (f := f) (t := t) (k := 1) (g := g) HF2.out rfl]; exact Wp.fin_no2 hm
        clear CM hm
        go_wp2_with fail
        with_reducible refine CX.out.mono ?_
        rintro e w9 ⟨rfl, hb⟩
        have K9 := Lib.hid (K5.out.below hb K5.out.lt)
        have KG9 := Lib.hid (KG5.out.below hb KG5.out.lt)
        have B9 := Lib.hid (B5.out.trans (hb.mono B5.out.size))
        clear hb y0 fy0 y1 fy1 y2 fy2 y3 fy3 y4 fy4 y5 fy5 y6 fy6 y7 fy7 y8 fy8 y9 fy9
        have BF := Lib.hid B9.out
        have z0 : w9.cell? ⟨w.heap.size, 0, none⟩ = some (.int .i64 0) := KG9.out.cell 0
        have fz0 := KG9.out.frozen 0
        have z1 : w9.cell? ⟨w.heap.size, 1, none⟩ = some (.int .i64 0) := KG9.out.cell 1
        have fz1 := KG9.out.frozen 1
        have z2 : w9.cell? ⟨w.heap.size, 2, none⟩ = some (.int .u8 0) := KG9.out.cell 2
        have fz2 := KG9.out.frozen 2
        have z3 : w9.cell? ⟨w.heap.size, 3, none⟩ = some (.int .i64 0) := KG9.out.cell 3
        have fz3 := KG9.out.frozen 3
        have z4 : w9.cell? ⟨w.heap.size, 4, none⟩ = some (.int .i64 0) := KG9.out.cell 4
        have fz4 := KG9.out.frozen 4
        have z5 : w9.cell? ⟨w.heap.size, 5, none⟩ = some (.int .i64 0) := KG9.out.cell 5
        have fz5 := KG9.out.frozen 5
        have z6 : w9.cell? ⟨w.heap.size, 6, none⟩ = some (.int .i64 0) := KG9.out.cell 6
        have fz6 := KG9.out.frozen 6
        have z7 : w9.cell? ⟨w.heap.size, 7, none⟩ = some (.string ⟨#[]⟩) := KG9.out.cell 7
        have fz7 := KG9.out.frozen 7
        have z8 : w9.cell? ⟨w.heap.size, 8, none⟩ = some (.int .i64 0) := KG9.out.cell 8
        have fz8 := KG9.out.frozen 8
        have z9 : w9.cell? ⟨w.heap.size, 9, none⟩ = some (.int .i64 0) := KG9.out.cell 9
        have fz9 := KG9.out.frozen 9
        go_wp2
        exact bodyPost_ret (v := .tuple #[.agg #[.int .i64 0, .int .i64 0, .int .u8 0, .int .i64 0, .int .i64 0, .int .i64 0, .int .i64 0, .string ⟨#[]⟩, .int .i64 0, .int .i64 0], .int .i64 8]) (by simp [results, Try.results24, go_sem, z0, z1, z2, z3, z4, z5, z6, z7, z8, z9]) rfl ⟨by rw [HE.out]; rfl, by repeat (first | with_reducible exact BF.out | with_reducible refine set_0 ?_ _ _)⟩
      | true =>
        have CX : Hid (Calls Try.prog 32 #[.agg #[.int .i64 f, .int .i64 t, .int .u8 1, .int .i64 g, .int .i64 a0, .int .i64 a1, .int .i64 0, .string ⟨#[]⟩, .int .i64 0, .int .i64 0]] W5 fun e w' => e = .returned (.bool true) ∧ Below W5.heap.size W5 w') := by
          rw [Hid, ← hm]; exact CM
        have HE : Hid (R = some ⟨f, t, 1, g, a0, a1, 0, [], 0, 0⟩) := by rw [Hid, ← HR.out, Wp.rread2_plain (f := f) (t := t) (k := 1) (g := g) HF2.out rfl]; exact Wp.fin_yes HL0.out hm
        clear CM hm
        go_wp2_with fail
        with_reducible refine CX.out.mono ?_
        rintro e w9 ⟨rfl, hb⟩
        have K9 := Lib.hid (K5.out.below hb K5.out.lt)
        have KG9 := Lib.hid (KG5.out.below hb KG5.out.lt)
        have B9 := Lib.hid (B5.out.trans (hb.mono B5.out.size))
        clear hb y0 fy0 y1 fy1 y2 fy2 y3 fy3 y4 fy4 y5 fy5 y6 fy6 y7 fy7 y8 fy8 y9 fy9
        have BF := Lib.hid B9.out
        have z0 : w9.cell? ⟨w.heap.size, 0, none⟩ = some (.int .i64 0) := KG9.out.cell 0
        have fz0 := KG9.out.frozen 0
        have z1 : w9.cell? ⟨w.heap.size, 1, none⟩ = some (.int .i64 0) := KG9.out.cell 1
        have fz1 := KG9.out.frozen 1
        have z2 : w9.cell? ⟨w.heap.size, 2, none⟩ = some (.int .u8 0) := KG9.out.cell 2
        have fz2 := KG9.out.frozen 2
        have z3 : w9.cell? ⟨w.heap.size, 3, none⟩ = some (.int .i64 0) := KG9.out.cell 3
        have fz3 := KG9.out.frozen 3
        have z4 : w9.cell? ⟨w.heap.size, 4, none⟩ = some (.int .i64 0) := KG9.out.cell 4
        have fz4 := KG9.out.frozen 4
        have z5 : w9.cell? ⟨w.heap.size, 5, none⟩ = some (.int .i64 0) := KG9.out.cell 5
        have fz5 := KG9.out.frozen 5
        have z6 : w9.cell? ⟨w.heap.size, 6, none⟩ = some (.int .i64 0) := KG9.out.cell 6
        have fz6 := KG9.out.frozen 6
        have z7 : w9.cell? ⟨w.heap.size, 7, none⟩ = some (.string ⟨#[]⟩) := KG9.out.cell 7
        have fz7 := KG9.out.frozen 7
        have z8 : w9.cell? ⟨w.heap.size, 8, none⟩ = some (.int .i64 0) := KG9.out.cell 8
        have fz8 := KG9.out.frozen 8
        have z9 : w9.cell? ⟨w.heap.size, 9, none⟩ = some (.int .i64 0) := KG9.out.cell 9
        have fz9 := KG9.out.frozen 9
        have y0 : w9.cell? ⟨gm, 0, none⟩ = some (.int .i64 f) := K9.out.cell 0
        have y1 : w9.cell? ⟨gm, 1, none⟩ = some (.int .i64 t) := K9.out.cell 1
        have y2 : w9.cell? ⟨gm, 2, none⟩ = some (.int .u8 1) := K9.out.cell 2
        have y3 : w9.cell? ⟨gm, 3, none⟩ = some (.int .i64 g) := K9.out.cell 3
        have y4 : w9.cell? ⟨gm, 4, none⟩ = some (.int .i64 a0) := K9.out.cell 4
        have y5 : w9.cell? ⟨gm, 5, none⟩ = some (.int .i64 a1) := K9.out.cell 5
        have y6 : w9.cell? ⟨gm, 6, none⟩ = some (.int .i64 0) := K9.out.cell 6
        have y7 : w9.cell? ⟨gm, 7, none⟩ = some (.string ⟨#[]⟩) := K9.out.cell 7
        have y8 : w9.cell? ⟨gm, 8, none⟩ = some (.int .i64 0) := K9.out.cell 8
        have y9 : w9.cell? ⟨gm, 9, none⟩ = some (.int .i64 0) := K9.out.cell 9
        go_wp2
        exact bodyPost_ret (v := .tuple #[.agg #[.int .i64 f, .int .i64 t, .int .u8 1, .int .i64 g, .int .i64 a0, .int .i64 a1, .int .i64 0, .string ⟨#[]⟩, .int .i64 0, .int .i64 0], .int .i64 0]) (by simp [results, Try.results24, go_sem, z0, z1, z2, z3, z4, z5, z6, z7, z8, z9]) rfl ⟨by rw [HE.out]; rfl, by repeat (first | with_reducible exact BF.out | with_reducible refine set_0 ?_ _ _)⟩
theorem rread23_2 (A : Option Addr) (n c : Nat) (l rest : List UInt8) (f t g : Int) (w : World) (hr : Reads w w.heap.size 1 A n (cb l)) (hnc : n ≤ c) (hc : c ≤ 9223372036854775807) (hn : n ≤ 4096) (h : Wp.numsN 4 l = some ([f, t, 2, g], rest)) :
    Calls Try.prog 24 #[.slice A n c] w fun e w' => e = .returned (mailV (Wp.rread2 f t 2 g rest)) ∧ Below w.heap.size w w' := by
  have hgm : w.heap.size < w.heap.size + 1 := by omega
  have HC := Lib.hid (rnumbers12_any A n c 4 l (w.alloc (.cells #[.int .i64 0, .int .i64 0, .int .u8 0, .int .i64 0, .int .i64 0, .int .i64 0, .int .i64 0, .string ⟨#[]⟩, .int .i64 0, .int .i64 0] 23)) _ h w.heap.size (by simp) (hr.alloc (Nat.le_refl _) _) hnc hc (by omega) (by omega))
  clear h hr
  obtain ⟨F2, hF2⟩ : ∃ F, Wp.numsN 3 rest = F := ⟨_, rfl⟩
  have HF2 := Lib.hid hF2
  clear hF2
  obtain ⟨R, hR⟩ : ∃ R, Wp.rread2 f t 2 g rest = R := ⟨_, rfl⟩
  rw [hR]
  have HR := Lib.hid hR
  clear hR
  go_enter Try.func24, Try.ntmps24
  go_wp2_with fail
  refine HC.out.mono ?_
  rintro e w1 ⟨A1, c1, A2, n2, c2, rfl, ho, hr2, hnc2, hc2, hn2, hb⟩
  have KG := Lib.hid (Blk.below (Blk.new w 23 #[.int .i64 0, .int .i64 0, .int .u8 0, .int .i64 0, .int .i64 0, .int .i64 0, .int .i64 0, .string ⟨#[]⟩, .int .i64 0, .int .i64 0]) hb (by simp))
  have B1 := Lib.hid (below_of_alloc (hb.mono (B' := w.heap.size) (by simp)) (Nat.le_refl _))
  obtain ⟨g1, o1, rfl, hg1, q0, q1, q2, q3⟩ := four_cells (Reads.of_own ho)
  have hg1b := own_new ho
  have HR2 := Lib.hid hr2
  clear hb HC ho hr2
  go_upto_region 6 with fail
  go_region
  go_wp2_with fail
  have Q2 : Hid ((w1.alloc (.cells #[.int .i64 f, .int .i64 t, .int .u8 2, .int .i64 g, .int .i64 0, .int .i64 0, .int .i64 0, .string ⟨#[]⟩, .int .i64 0, .int .i64 0] 23)).drew.cell? ⟨g1, o1 + 2, none⟩ = some (.int .i64 2)) := (World.cell?_alloc_lt w1 (.cells #[.int .i64 f, .int .i64 t, .int .u8 2, .int .i64 g, .int .i64 0, .int .i64 0, .int .i64 0, .string ⟨#[]⟩, .int .i64 0, .int .i64 0] 23) ⟨g1, o1 + 2, none⟩ hg1).trans q2
  have K2 := Lib.hid (Blk.drew (Blk.new w1 23 #[.int .i64 f, .int .i64 t, .int .u8 2, .int .i64 g, .int .i64 0, .int .i64 0, .int .i64 0, .string ⟨#[]⟩, .int .i64 0, .int .i64 0]))
  have KG2 := Lib.hid ((KG.out.alloc (.cells #[.int .i64 f, .int .i64 t, .int .u8 2, .int .i64 g, .int .i64 0, .int .i64 0, .int .i64 0, .string ⟨#[]⟩, .int .i64 0, .int .i64 0] 23)).drew)
  have B2 := Lib.hid ((B1.out.alloc B1.out.size (.cells #[.int .i64 f, .int .i64 t, .int .u8 2, .int .i64 g, .int .i64 0, .int .i64 0, .int .i64 0, .string ⟨#[]⟩, .int .i64 0, .int .i64 0] 23)).drew)
  have HRa := Lib.hid ((HR2.out.alloc B1.out.size (.cells #[.int .i64 f, .int .i64 t, .int .u8 2, .int .i64 g, .int .i64 0, .int .i64 0, .int .i64 0, .string ⟨#[]⟩, .int .i64 0, .int .i64 0] 23)).drew)
  have hzG : w.heap.size < w1.heap.size := KG.out.lt
  clear q0 q1 q2 q3 KG B1 HR2
  generalize (w1.alloc (.cells #[.int .i64 f, .int .i64 t, .int .u8 2, .int .i64 g, .int .i64 0, .int .i64 0, .int .i64 0, .string ⟨#[]⟩, .int .i64 0, .int .i64 0] 23)).drew = W2 at *
  obtain ⟨gm, hgm2⟩ : ∃ x, w1.heap.size = x := ⟨_, rfl⟩
  rw [hgm2] at hzG hg1 K2
  rw [hgm2]
  clear hgm2
  have ngm : gm ≠ g1 := by omega
  have nmg := Ne.symm ngm
  have ngr : gm ≠ w.heap.size := by omega
  have nrg := Ne.symm ngr
  have nr1 : w.heap.size ≠ g1 := by simp only [World.size_alloc] at hg1b; omega
  have n1r := Ne.symm nr1
  refine (rnumbers_2 f t g 0 0 0 ⟨#[]⟩ 0 0 W2).mono ?_
  rintro e w3 ⟨A3, c3, rfl, ho3, hb⟩
  have K3 := Lib.hid (K2.out.below hb K2.out.lt)
  have KG3 := Lib.hid (KG2.out.below hb KG2.out.lt)
  have B3 := Lib.hid (B2.out.trans (hb.mono B2.out.size))
  have HR3 := Lib.hid (HRa.out.below (hb.mono B2.out.size))
  have Q3 : Hid (w3.cell? ⟨g1, o1 + 2, none⟩ = some (.int .i64 2)) := (hb.cell (p := ⟨g1, o1 + 2, none⟩) (by have := K2.out.lt; show g1 < _; omega)).trans Q2.out
  clear hb K2 KG2 B2 HRa Q2 ho3
  go_wp2_with fail
  have CN := rnumbers12_any A2 n2 c2 3 rest w3 F2 HF2.out w.heap.size B3.out.size HR3.out hnc2 hc2 hn2 (by omega)
  rw [show ((3 : Nat) : Int) = 3 from rfl] at CN
  refine CN.mono ?_
  clear CN
  cases F2 with
  | none =>
    rintro e w4 ⟨rfl, hb⟩
    have KG4 := Lib.hid (KG3.out.below hb KG3.out.lt)
    have BF := Lib.hid (B3.out.trans (hb.mono B3.out.size))
    have HE : Hid (R = none) := by rw [Hid, ← HR.out]; exact Wp.rread2_none HF2.out
    clear hb
    have z0 : w4.cell? ⟨w.heap.size, 0, none⟩ = some (.int .i64 0) := KG4.out.cell 0
    have fz0 := KG4.out.frozen 0
    have z1 : w4.cell? ⟨w.heap.size, 1, none⟩ = some (.int .i64 0) := KG4.out.cell 1
    have fz1 := KG4.out.frozen 1
    have z2 : w4.cell? ⟨w.heap.size, 2, none⟩ = some (.int .u8 0) := KG4.out.cell 2
    have fz2 := KG4.out.frozen 2
    have z3 : w4.cell? ⟨w.heap.size, 3, none⟩ = some (.int .i64 0) := KG4.out.cell 3
    have fz3 := KG4.out.frozen 3
    have z4 : w4.cell? ⟨w.heap.size, 4, none⟩ = some (.int .i64 0) := KG4.out.cell 4
    have fz4 := KG4.out.frozen 4
    have z5 : w4.cell? ⟨w.heap.size, 5, none⟩ = some (.int .i64 0) := KG4.out.cell 5
    have fz5 := KG4.out.frozen 5
    have z6 : w4.cell? ⟨w.heap.size, 6, none⟩ = some (.int .i64 0) := KG4.out.cell 6
    have fz6 := KG4.out.frozen 6
    have z7 : w4.cell? ⟨w.heap.size, 7, none⟩ = some (.string ⟨#[]⟩) := KG4.out.cell 7
    have fz7 := KG4.out.frozen 7
    have z8 : w4.cell? ⟨w.heap.size, 8, none⟩ = some (.int .i64 0) := KG4.out.cell 8
    have fz8 := KG4.out.frozen 8
    have z9 : w4.cell? ⟨w.heap.size, 9, none⟩ = some (.int .i64 0) := KG4.out.cell 9
    have fz9 := KG4.out.frozen 9
    go_wp2
    exact bodyPost_ret (v := .tuple #[.agg #[.int .i64 0, .int .i64 0, .int .u8 0, .int .i64 0, .int .i64 0, .int .i64 0, .int .i64 0, .string ⟨#[]⟩, .int .i64 0, .int .i64 0], .int .i64 8]) (by simp [results, Try.results24, go_sem, z0, z1, z2, z3, z4, z5, z6, z7, z8, z9]) rfl ⟨by rw [HE.out]; rfl, by repeat (first | with_reducible exact BF.out | with_reducible refine set_0 ?_ _ _)⟩
  | some p =>
    obtain ⟨xs, left⟩ := p
    have hxl := (Wp.numsN_back _ _ _ _ HF2.out).1
    rintro e w4 ⟨A4, c4, A5, n5, c5, rfl, ho4, hr5, hnc5, hc5, hn5, hb⟩
    have K4 := Lib.hid (K3.out.below hb K3.out.lt)
    have KG4 := Lib.hid (KG3.out.below hb KG3.out.lt)
    have B4 := Lib.hid (B3.out.trans (hb.mono B3.out.size))

    obtain ⟨a0, a1, a2, rfl⟩ : ∃ a0 a1 a2, xs = [a0, a1, a2] := by
      match xs, hxl with | [a0, a1, a2], _ => exact ⟨a0, a1, a2, rfl⟩
    clear hxl
    obtain ⟨gx, ox, rfl, -, x0, x1, x2⟩ := cells_3 (base := 0) (Reads.of_own ho4)
    have ngx : gm ≠ gx := by have := own_new ho4; have := K3.out.lt; omega
    have nxg := Ne.symm ngx
    have nrx : w.heap.size ≠ gx := by have := own_new ho4; have := KG3.out.lt; omega
    have nxr := Ne.symm nrx
    have q2 : w4.cell? ⟨g1, o1 + 2, none⟩ = some (.int .i64 2) := (hb.cell (p := ⟨g1, o1 + 2, none⟩) (by have := K3.out.lt; show g1 < _; omega)).trans Q3.out
    have y0 : w4.cell? ⟨gm, 0, none⟩ = some (.int .i64 f) := K4.out.cell 0
    have fy0 := K4.out.frozen 0
    have y1 : w4.cell? ⟨gm, 1, none⟩ = some (.int .i64 t) := K4.out.cell 1
    have fy1 := K4.out.frozen 1
    have y2 : w4.cell? ⟨gm, 2, none⟩ = some (.int .u8 2) := K4.out.cell 2
    have fy2 := K4.out.frozen 2
    have y3 : w4.cell? ⟨gm, 3, none⟩ = some (.int .i64 g) := K4.out.cell 3
    have fy3 := K4.out.frozen 3
    have y4 : w4.cell? ⟨gm, 4, none⟩ = some (.int .i64 0) := K4.out.cell 4
    have fy4 := K4.out.frozen 4
    have y5 : w4.cell? ⟨gm, 5, none⟩ = some (.int .i64 0) := K4.out.cell 5
    have fy5 := K4.out.frozen 5
    have y6 : w4.cell? ⟨gm, 6, none⟩ = some (.int .i64 0) := K4.out.cell 6
    have fy6 := K4.out.frozen 6
    have y7 : w4.cell? ⟨gm, 7, none⟩ = some (.string ⟨#[]⟩) := K4.out.cell 7
    have fy7 := K4.out.frozen 7
    have y8 : w4.cell? ⟨gm, 8, none⟩ = some (.int .i64 0) := K4.out.cell 8
    have fy8 := K4.out.frozen 8
    have y9 : w4.cell? ⟨gm, 9, none⟩ = some (.int .i64 0) := K4.out.cell 9
    have fy9 := K4.out.frozen 9
    go_wp2_with fail
    clear hb ho4 y0 fy0 y1 fy1 y2 fy2 y3 fy3 y4 fy4 y5 fy5 y6 fy6 y7 fy7 y8 fy8 y9 fy9
    have K5 : Hid (Blk (((w4.setCell ⟨gm, 4, none⟩ (.int .i64 a0)).setCell ⟨gm, 5, none⟩ (.int .i64 a1)).setCell ⟨gm, 6, none⟩ (.int .i64 a2)) gm 23 #[.int .i64 f, .int .i64 t, .int .u8 2, .int .i64 g, .int .i64 a0, .int .i64 a1, .int .i64 a2, .string ⟨#[]⟩, .int .i64 0, .int .i64 0]) := (((K4.out.set_ 4 (.int .i64 a0)).set_ 5 (.int .i64 a1)).set_ 6 (.int .i64 a2))
    have KG5 : Hid (Blk (((w4.setCell ⟨gm, 4, none⟩ (.int .i64 a0)).setCell ⟨gm, 5, none⟩ (.int .i64 a1)).setCell ⟨gm, 6, none⟩ (.int .i64 a2)) w.heap.size 23 #[.int .i64 0, .int .i64 0, .int .u8 0, .int .i64 0, .int .i64 0, .int .i64 0, .int .i64 0, .string ⟨#[]⟩, .int .i64 0, .int .i64 0]) := (((KG4.out.far (p := ⟨gm, 4, none⟩) nrg (.int .i64 a0)).far (p := ⟨gm, 5, none⟩) nrg (.int .i64 a1)).far (p := ⟨gm, 6, none⟩) nrg (.int .i64 a2))
    have B5 : Hid (Below w.heap.size w (((w4.setCell ⟨gm, 4, none⟩ (.int .i64 a0)).setCell ⟨gm, 5, none⟩ (.int .i64 a1)).setCell ⟨gm, 6, none⟩ (.int .i64 a2))) := (((B4.out.setCell (p := ⟨gm, 4, none⟩) (Nat.le_of_lt hzG) (.int .i64 a0)).setCell (p := ⟨gm, 5, none⟩) (Nat.le_of_lt hzG) (.int .i64 a1)).setCell (p := ⟨gm, 6, none⟩) (Nat.le_of_lt hzG) (.int .i64 a2))
    have HR5 : Hid (Reads (((w4.setCell ⟨gm, 4, none⟩ (.int .i64 a0)).setCell ⟨gm, 5, none⟩ (.int .i64 a1)).setCell ⟨gm, 6, none⟩ (.int .i64 a2)) w.heap.size 1 A5 n5 (cb left)) := (((hr5.setCell (p := ⟨gm, 4, none⟩) (Nat.le_of_lt hzG) (.int .i64 a0)).setCell (p := ⟨gm, 5, none⟩) (Nat.le_of_lt hzG) (.int .i64 a1)).setCell (p := ⟨gm, 6, none⟩) (Nat.le_of_lt hzG) (.int .i64 a2))
    clear hr5 q2 x0 x1 x2
    generalize (((w4.setCell ⟨gm, 4, none⟩ (.int .i64 a0)).setCell ⟨gm, 5, none⟩ (.int .i64 a1)).setCell ⟨gm, 6, none⟩ (.int .i64 a2)) = W5 at *
    refine (rvalued_any 2 W5 (by omega) (by omega)).mono ?_
    rw [show Wp.valuedB 2 = true from rfl]
    rintro e w' ⟨rfl, rfl⟩
    have CT := rgetText_any A5 n5 c5 w.heap.size left W5 HR5.out hnc5 (by omega)
    cases hg : Nm.getText left with
    | none =>
      rw [hg] at CT
      have HCT := Lib.hid (show Calls Try.prog 51 #[.slice A5 n5 c5] W5 fun e w' => e = .returned (.tuple #[.string ⟨#[]⟩, .int .i64 0, .int .i64 8]) ∧ W5 = w' from CT)
      have HE : Hid (R = none) := by rw [Hid, ← HR.out]; exact Wp.rread2_noval HF2.out rfl hg
      clear CT hg
      go_wp2_with fail
      with_reducible refine HCT.out.mono ?_
      rintro e w' ⟨rfl, rfl⟩
      have BF := Lib.hid B5.out
      have z0 : W5.cell? ⟨w.heap.size, 0, none⟩ = some (.int .i64 0) := KG5.out.cell 0
      have fz0 := KG5.out.frozen 0
      have z1 : W5.cell? ⟨w.heap.size, 1, none⟩ = some (.int .i64 0) := KG5.out.cell 1
      have fz1 := KG5.out.frozen 1
      have z2 : W5.cell? ⟨w.heap.size, 2, none⟩ = some (.int .u8 0) := KG5.out.cell 2
      have fz2 := KG5.out.frozen 2
      have z3 : W5.cell? ⟨w.heap.size, 3, none⟩ = some (.int .i64 0) := KG5.out.cell 3
      have fz3 := KG5.out.frozen 3
      have z4 : W5.cell? ⟨w.heap.size, 4, none⟩ = some (.int .i64 0) := KG5.out.cell 4
      have fz4 := KG5.out.frozen 4
      have z5 : W5.cell? ⟨w.heap.size, 5, none⟩ = some (.int .i64 0) := KG5.out.cell 5
      have fz5 := KG5.out.frozen 5
      have z6 : W5.cell? ⟨w.heap.size, 6, none⟩ = some (.int .i64 0) := KG5.out.cell 6
      have fz6 := KG5.out.frozen 6
      have z7 : W5.cell? ⟨w.heap.size, 7, none⟩ = some (.string ⟨#[]⟩) := KG5.out.cell 7
      have fz7 := KG5.out.frozen 7
      have z8 : W5.cell? ⟨w.heap.size, 8, none⟩ = some (.int .i64 0) := KG5.out.cell 8
      have fz8 := KG5.out.frozen 8
      have z9 : W5.cell? ⟨w.heap.size, 9, none⟩ = some (.int .i64 0) := KG5.out.cell 9
      have fz9 := KG5.out.frozen 9
      go_wp2
      exact bodyPost_ret (v := .tuple #[.agg #[.int .i64 0, .int .i64 0, .int .u8 0, .int .i64 0, .int .i64 0, .int .i64 0, .int .i64 0, .string ⟨#[]⟩, .int .i64 0, .int .i64 0], .int .i64 8]) (by simp [results, Try.results24, go_sem, z0, z1, z2, z3, z4, z5, z6, z7, z8, z9]) rfl ⟨by rw [HE.out]; rfl, by repeat (first | with_reducible exact BF.out | with_reducible refine set_0 ?_ _ _)⟩
    | some q =>
      obtain ⟨v, j⟩ := q
      rw [hg] at CT
      have HCT := Lib.hid (show Calls Try.prog 51 #[.slice A5 n5 c5] W5 fun e w' => e = .returned (.tuple #[.string (S v), .int .i64 (j : Int), .int .i64 0]) ∧ W5 = w' from CT)
      obtain ⟨hv1, -, hj1, -, -⟩ := Nm.getText_back hg
      have hl5 := HR5.out.len_b
      have hjn : j ≤ n5 := by omega
      have hu : (S v).size ≤ 9223372036854775807 := by rw [S_size]; omega
      have hs := fun w => run_slice_from (P := Try.prog) Try.underlying24 A5 n5 c5 j hjn w u8_size
      have HG := Lib.hid hg
      obtain ⟨A6, hA6⟩ : ∃ x, cutA A5 c5 j = x := ⟨_, rfl⟩
      obtain ⟨n6, hn6⟩ : ∃ x, n5 - j = x := ⟨_, rfl⟩
      obtain ⟨c6, hc6⟩ : ∃ x, c5 - j = x := ⟨_, rfl⟩
      have HR6 := HR5.out.rest (k := j) (c := c5) hjn hnc5
      rw [cb_drop, hA6, hn6] at HR6
      rw [hA6, hn6, hc6] at hs
      have y7 : W5.cell? ⟨gm, 7, none⟩ = some (.string ⟨#[]⟩) := K5.out.cell 7
      have fy7 := K5.out.frozen 7
      have hz6 : n6 ≤ c6 := by omega
      have hz5 : n6 ≤ n5 := by omega
      have HR6b := Lib.hid HR6
      clear CT hg hA6 hn6 hc6 hl5 hv1 hj1 HR6
      go_wp2_with fail
      with_reducible refine HCT.out.mono ?_
      rintro e w' ⟨rfl, rfl⟩
      go_upto_region 28 with fail
      have K6 : Hid (Blk (W5.setCell ⟨gm, 7, none⟩ (.string (S v))) gm 23 #[.int .i64 f, .int .i64 t, .int .u8 2, .int .i64 g, .int .i64 a0, .int .i64 a1, .int .i64 a2, .string (S v), .int .i64 0, .int .i64 0]) := K5.out.set_ 7 (.string (S v))
      have KG6 : Hid (Blk (W5.setCell ⟨gm, 7, none⟩ (.string (S v))) w.heap.size 23 #[.int .i64 0, .int .i64 0, .int .u8 0, .int .i64 0, .int .i64 0, .int .i64 0, .int .i64 0, .string ⟨#[]⟩, .int .i64 0, .int .i64 0]) := KG5.out.far (p := ⟨gm, 7, none⟩) nrg (.string (S v))
      have B6 : Hid (Below w.heap.size w (W5.setCell ⟨gm, 7, none⟩ (.string (S v)))) := B5.out.setCell (p := ⟨gm, 7, none⟩) (Nat.le_of_lt hzG) (.string (S v))
      have HR7 : Hid (Reads (W5.setCell ⟨gm, 7, none⟩ (.string (S v))) w.heap.size 1 A6 n6 (cb (left.drop j))) := HR6b.out.setCell (p := ⟨gm, 7, none⟩) (Nat.le_of_lt hzG) (.string (S v))
      clear y7 fy7 hs HR6b HR5 K5 KG5 B5 HCT
      generalize (W5.setCell ⟨gm, 7, none⟩ (.string (S v))) = W6 at *
      have hln := HR7.out.len_b
      by_cases zn : n6 = 0
      rotate_left
      · have zz : (0 : Int) < (n6 : Int) := by omega
        have HE : Hid (R = none) := by rw [Hid, ← HR.out, Wp.rread2_val (f := f) (t := t) (k := 2) (g := g) HF2.out rfl HG.out]; exact Wp.fin_no1 (fun e => by rw [e] at hln; simp at hln; omega)
        clear hln
        have BF := Lib.hid B6.out
        have z0 : W6.cell? ⟨w.heap.size, 0, none⟩ = some (.int .i64 0) := KG6.out.cell 0
        have fz0 := KG6.out.frozen 0
        have z1 : W6.cell? ⟨w.heap.size, 1, none⟩ = some (.int .i64 0) := KG6.out.cell 1
        have fz1 := KG6.out.frozen 1
        have z2 : W6.cell? ⟨w.heap.size, 2, none⟩ = some (.int .u8 0) := KG6.out.cell 2
        have fz2 := KG6.out.frozen 2
        have z3 : W6.cell? ⟨w.heap.size, 3, none⟩ = some (.int .i64 0) := KG6.out.cell 3
        have fz3 := KG6.out.frozen 3
        have z4 : W6.cell? ⟨w.heap.size, 4, none⟩ = some (.int .i64 0) := KG6.out.cell 4
        have fz4 := KG6.out.frozen 4
        have z5 : W6.cell? ⟨w.heap.size, 5, none⟩ = some (.int .i64 0) := KG6.out.cell 5
        have fz5 := KG6.out.frozen 5
        have z6 : W6.cell? ⟨w.heap.size, 6, none⟩ = some (.int .i64 0) := KG6.out.cell 6
        have fz6 := KG6.out.frozen 6
        have z7 : W6.cell? ⟨w.heap.size, 7, none⟩ = some (.string ⟨#[]⟩) := KG6.out.cell 7
        have fz7 := KG6.out.frozen 7
        have z8 : W6.cell? ⟨w.heap.size, 8, none⟩ = some (.int .i64 0) := KG6.out.cell 8
        have fz8 := KG6.out.frozen 8
        have z9 : W6.cell? ⟨w.heap.size, 9, none⟩ = some (.int .i64 0) := KG6.out.cell 9
        have fz9 := KG6.out.frozen 9
        go_wp2
        exact bodyPost_ret (v := .tuple #[.agg #[.int .i64 0, .int .i64 0, .int .u8 0, .int .i64 0, .int .i64 0, .int .i64 0, .int .i64 0, .string ⟨#[]⟩, .int .i64 0, .int .i64 0], .int .i64 8]) (by simp [results, Try.results24, go_sem, z0, z1, z2, z3, z4, z5, z6, z7, z8, z9]) rfl ⟨by rw [HE.out]; rfl, by repeat (first | with_reducible exact BF.out | with_reducible refine set_0 ?_ _ _)⟩
      · have HL0 : Hid (left.drop j = []) := List.eq_nil_of_length_eq_zero (by rw [hln]; exact zn)
        have zz : ¬ (0 : Int) < (n6 : Int) := by omega
        clear hln
        have CM := rmay23_any f t 2 g a0 a1 a2 (S v) 0 0 W6 hu
        have y0 : W6.cell? ⟨gm, 0, none⟩ = some (.int .i64 f) := K6.out.cell 0
        have fy0 := K6.out.frozen 0
        have y1 : W6.cell? ⟨gm, 1, none⟩ = some (.int .i64 t) := K6.out.cell 1
        have fy1 := K6.out.frozen 1
        have y2 : W6.cell? ⟨gm, 2, none⟩ = some (.int .u8 2) := K6.out.cell 2
        have fy2 := K6.out.frozen 2
        have y3 : W6.cell? ⟨gm, 3, none⟩ = some (.int .i64 g) := K6.out.cell 3
        have fy3 := K6.out.frozen 3
        have y4 : W6.cell? ⟨gm, 4, none⟩ = some (.int .i64 a0) := K6.out.cell 4
        have fy4 := K6.out.frozen 4
        have y5 : W6.cell? ⟨gm, 5, none⟩ = some (.int .i64 a1) := K6.out.cell 5
        have fy5 := K6.out.frozen 5
        have y6 : W6.cell? ⟨gm, 6, none⟩ = some (.int .i64 a2) := K6.out.cell 6
        have fy6 := K6.out.frozen 6
        have y7 : W6.cell? ⟨gm, 7, none⟩ = some (.string (S v)) := K6.out.cell 7
        have fy7 := K6.out.frozen 7
        have y8 : W6.cell? ⟨gm, 8, none⟩ = some (.int .i64 0) := K6.out.cell 8
        have fy8 := K6.out.frozen 8
        have y9 : W6.cell? ⟨gm, 9, none⟩ = some (.int .i64 0) := K6.out.cell 9
        have fy9 := K6.out.frozen 9
        cases hm : Wp.mayM ⟨f, t, 2, g, a0, a1, a2, v, 0, 0⟩ with
        | false =>
          have CX : Hid (Calls Try.prog 32 #[.agg #[.int .i64 f, .int .i64 t, .int .u8 2, .int .i64 g, .int .i64 a0, .int .i64 a1, .int .i64 a2, .string (S v), .int .i64 0, .int .i64 0]] W6 fun e w' => e = .returned (.bool false) ∧ Below W6.heap.size W6 w') := by
            rw [Hid, ← hm]; exact CM
          have HE : Hid (R = none) := by rw [Hid, ← HR.out, Wp.rread2_val (f := f) (t := t) (k := 2) (g := g) HF2.out rfl HG.out]; exact Wp.fin_no2 hm
          clear CM hm
          go_wp2_with fail
          with_reducible refine CX.out.mono ?_
          rintro e w9 ⟨rfl, hb⟩
          have K9 := Lib.hid (K6.out.below hb K6.out.lt)
          have KG9 := Lib.hid (KG6.out.below hb KG6.out.lt)
          have B9 := Lib.hid (B6.out.trans (hb.mono B6.out.size))
          clear hb y0 fy0 y1 fy1 y2 fy2 y3 fy3 y4 fy4 y5 fy5 y6 fy6 y7 fy7 y8 fy8 y9 fy9
          have BF := Lib.hid B9.out
          have z0 : w9.cell? ⟨w.heap.size, 0, none⟩ = some (.int .i64 0) := KG9.out.cell 0
          have fz0 := KG9.out.frozen 0
          have z1 : w9.cell? ⟨w.heap.size, 1, none⟩ = some (.int .i64 0) := KG9.out.cell 1
          have fz1 := KG9.out.frozen 1
          have z2 : w9.cell? ⟨w.heap.size, 2, none⟩ = some (.int .u8 0) := KG9.out.cell 2
          have fz2 := KG9.out.frozen 2
          have z3 : w9.cell? ⟨w.heap.size, 3, none⟩ = some (.int .i64 0) := KG9.out.cell 3
          have fz3 := KG9.out.frozen 3
          have z4 : w9.cell? ⟨w.heap.size, 4, none⟩ = some (.int .i64 0) := KG9.out.cell 4
          have fz4 := KG9.out.frozen 4
          have z5 : w9.cell? ⟨w.heap.size, 5, none⟩ = some (.int .i64 0) := KG9.out.cell 5
          have fz5 := KG9.out.frozen 5
          have z6 : w9.cell? ⟨w.heap.size, 6, none⟩ = some (.int .i64 0) := KG9.out.cell 6
          have fz6 := KG9.out.frozen 6
          have z7 : w9.cell? ⟨w.heap.size, 7, none⟩ = some (.string ⟨#[]⟩) := KG9.out.cell 7
          have fz7 := KG9.out.frozen 7
          have z8 : w9.cell? ⟨w.heap.size, 8, none⟩ = some (.int .i64 0) := KG9.out.cell 8
          have fz8 := KG9.out.frozen 8
          have z9 : w9.cell? ⟨w.heap.size, 9, none⟩ = some (.int .i64 0) := KG9.out.cell 9
          have fz9 := KG9.out.frozen 9
          go_wp2
          exact bodyPost_ret (v := .tuple #[.agg #[.int .i64 0, .int .i64 0, .int .u8 0, .int .i64 0, .int .i64 0, .int .i64 0, .int .i64 0, .string ⟨#[]⟩, .int .i64 0, .int .i64 0], .int .i64 8]) (by simp [results, Try.results24, go_sem, z0, z1, z2, z3, z4, z5, z6, z7, z8, z9]) rfl ⟨by rw [HE.out]; rfl, by repeat (first | with_reducible exact BF.out | with_reducible refine set_0 ?_ _ _)⟩
        | true =>
          have CX : Hid (Calls Try.prog 32 #[.agg #[.int .i64 f, .int .i64 t, .int .u8 2, .int .i64 g, .int .i64 a0, .int .i64 a1, .int .i64 a2, .string (S v), .int .i64 0, .int .i64 0]] W6 fun e w' => e = .returned (.bool true) ∧ Below W6.heap.size W6 w') := by
            rw [Hid, ← hm]; exact CM
          have HE : Hid (R = some ⟨f, t, 2, g, a0, a1, a2, v, 0, 0⟩) := by rw [Hid, ← HR.out, Wp.rread2_val (f := f) (t := t) (k := 2) (g := g) HF2.out rfl HG.out]; exact Wp.fin_yes HL0.out hm
          clear CM hm
          go_wp2_with fail
          with_reducible refine CX.out.mono ?_
          rintro e w9 ⟨rfl, hb⟩
          have K9 := Lib.hid (K6.out.below hb K6.out.lt)
          have KG9 := Lib.hid (KG6.out.below hb KG6.out.lt)
          have B9 := Lib.hid (B6.out.trans (hb.mono B6.out.size))
          clear hb y0 fy0 y1 fy1 y2 fy2 y3 fy3 y4 fy4 y5 fy5 y6 fy6 y7 fy7 y8 fy8 y9 fy9
          have BF := Lib.hid B9.out
          have z0 : w9.cell? ⟨w.heap.size, 0, none⟩ = some (.int .i64 0) := KG9.out.cell 0
          have fz0 := KG9.out.frozen 0
          have z1 : w9.cell? ⟨w.heap.size, 1, none⟩ = some (.int .i64 0) := KG9.out.cell 1
          have fz1 := KG9.out.frozen 1
          have z2 : w9.cell? ⟨w.heap.size, 2, none⟩ = some (.int .u8 0) := KG9.out.cell 2
          have fz2 := KG9.out.frozen 2
          have z3 : w9.cell? ⟨w.heap.size, 3, none⟩ = some (.int .i64 0) := KG9.out.cell 3
          have fz3 := KG9.out.frozen 3
          have z4 : w9.cell? ⟨w.heap.size, 4, none⟩ = some (.int .i64 0) := KG9.out.cell 4
          have fz4 := KG9.out.frozen 4
          have z5 : w9.cell? ⟨w.heap.size, 5, none⟩ = some (.int .i64 0) := KG9.out.cell 5
          have fz5 := KG9.out.frozen 5
          have z6 : w9.cell? ⟨w.heap.size, 6, none⟩ = some (.int .i64 0) := KG9.out.cell 6
          have fz6 := KG9.out.frozen 6
          have z7 : w9.cell? ⟨w.heap.size, 7, none⟩ = some (.string ⟨#[]⟩) := KG9.out.cell 7
          have fz7 := KG9.out.frozen 7
          have z8 : w9.cell? ⟨w.heap.size, 8, none⟩ = some (.int .i64 0) := KG9.out.cell 8
          have fz8 := KG9.out.frozen 8
          have z9 : w9.cell? ⟨w.heap.size, 9, none⟩ = some (.int .i64 0) := KG9.out.cell 9
          have fz9 := KG9.out.frozen 9
          have y0 : w9.cell? ⟨gm, 0, none⟩ = some (.int .i64 f) := K9.out.cell 0
          have y1 : w9.cell? ⟨gm, 1, none⟩ = some (.int .i64 t) := K9.out.cell 1
          have y2 : w9.cell? ⟨gm, 2, none⟩ = some (.int .u8 2) := K9.out.cell 2
          have y3 : w9.cell? ⟨gm, 3, none⟩ = some (.int .i64 g) := K9.out.cell 3
          have y4 : w9.cell? ⟨gm, 4, none⟩ = some (.int .i64 a0) := K9.out.cell 4
          have y5 : w9.cell? ⟨gm, 5, none⟩ = some (.int .i64 a1) := K9.out.cell 5
          have y6 : w9.cell? ⟨gm, 6, none⟩ = some (.int .i64 a2) := K9.out.cell 6
          have y7 : w9.cell? ⟨gm, 7, none⟩ = some (.string (S v)) := K9.out.cell 7
          have y8 : w9.cell? ⟨gm, 8, none⟩ = some (.int .i64 0) := K9.out.cell 8
          have y9 : w9.cell? ⟨gm, 9, none⟩ = some (.int .i64 0) := K9.out.cell 9
          go_wp2
          exact bodyPost_ret (v := .tuple #[.agg #[.int .i64 f, .int .i64 t, .int .u8 2, .int .i64 g, .int .i64 a0, .int .i64 a1, .int .i64 a2, .string (S v), .int .i64 0, .int .i64 0], .int .i64 0]) (by simp [results, Try.results24, go_sem, z0, z1, z2, z3, z4, z5, z6, z7, z8, z9]) rfl ⟨by rw [HE.out]; rfl, by repeat (first | with_reducible exact BF.out | with_reducible refine set_0 ?_ _ _)⟩
end Go.Proofs.Ytdodfpjejjjciaa
