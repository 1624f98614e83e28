/-
  The reference of layer 23: Read, kind by kind.
-/
import Derived.Test.YtdodfpjejjjciaaWireRefRH
import Derived.Test.YtdodfpjejjjciaaWireRefN
namespace Go.Proofs.Ytdodfpjejjjciaa
open Go.RowKit Bal Go.Sort Go.BigFrame
set_option maxHeartbeats 8000000
set_option maxRecDepth 100000
set_option linter.unusedVariables false
set_option linter.unusedSimpArgs false

theorem rread23_7 (A : Option Addr) (n c : Nat) (l rest : List UInt8) (f t g : Int) (w : World) (hr : Reads w w.heap.size 1 A n (cb l)) (hnc : n ≤ c) (hc : c ≤ 9223372036854775807) (hn : n ≤ 4096) (h : Wp.numsN 4 l = some ([f, t, 7, g], rest)) :
    Calls Try.prog 24 #[.slice A n c] w fun e w' => e = .returned (mailV (Wp.rread2 f t 7 g rest)) ∧ Below w.heap.size w w' := by
  have hgm : w.heap.size < w.heap.size + 1 := by omega
  have HC := Lib.hid (rnumbers12_any A n c 4 l (w.alloc (.cells #[.int .i64 0, .int .i64 0, .int .u8 0, .int .i64 0, .int .i64 0, .int .i64 0, .int .i64 0, .string ⟨#[]⟩, .int .i64 0, .int .i64 0] 23)) _ h w.heap.size (by simp) (hr.alloc (Nat.le_refl _) _) hnc hc (by omega) (by omega))
  clear h hr
  obtain ⟨F2, hF2⟩ : ∃ F, Wp.numsN 1 rest = F := ⟨_, rfl⟩
  have HF2 := Lib.hid hF2
  clear hF2
  obtain ⟨R, hR⟩ : ∃ R, Wp.rread2 f t 7 g rest = R := ⟨_, rfl⟩
  rw [hR]
  have HR := Lib.hid hR
  clear hR
  go_enter Try.func24, Try.ntmps24
  go_wp2_with fail
  refine HC.out.mono ?_
  rintro e w1 ⟨A1, c1, A2, n2, c2, rfl, ho, hr2, hnc2, hc2, hn2, hb⟩
  have KG := Lib.hid (Blk.below (Blk.new w 23 #[.int .i64 0, .int .i64 0, .int .u8 0, .int .i64 0, .int .i64 0, .int .i64 0, .int .i64 0, .string ⟨#[]⟩, .int .i64 0, .int .i64 0]) hb (by simp))
  have B1 := Lib.hid (below_of_alloc (hb.mono (B' := w.heap.size) (by simp)) (Nat.le_refl _))
  obtain ⟨g1, o1, rfl, hg1, q0, q1, q2, q3⟩ := four_cells (Reads.of_own ho)
  have hg1b := own_new ho
  have HR2 := Lib.hid hr2
  clear hb HC ho hr2
  go_upto_region 6 with fail
  go_region
  go_wp2_with fail
  have Q2 : Hid ((w1.alloc (.cells #[.int .i64 f, .int .i64 t, .int .u8 7, .int .i64 g, .int .i64 0, .int .i64 0, .int .i64 0, .string ⟨#[]⟩, .int .i64 0, .int .i64 0] 23)).drew.cell? ⟨g1, o1 + 2, none⟩ = some (.int .i64 7)) := (World.cell?_alloc_lt w1 (.cells #[.int .i64 f, .int .i64 t, .int .u8 7, .int .i64 g, .int .i64 0, .int .i64 0, .int .i64 0, .string ⟨#[]⟩, .int .i64 0, .int .i64 0] 23) ⟨g1, o1 + 2, none⟩ hg1).trans q2
  have K2 := Lib.hid (Blk.drew (Blk.new w1 23 #[.int .i64 f, .int .i64 t, .int .u8 7, .int .i64 g, .int .i64 0, .int .i64 0, .int .i64 0, .string ⟨#[]⟩, .int .i64 0, .int .i64 0]))
  have KG2 := Lib.hid ((KG.out.alloc (.cells #[.int .i64 f, .int .i64 t, .int .u8 7, .int .i64 g, .int .i64 0, .int .i64 0, .int .i64 0, .string ⟨#[]⟩, .int .i64 0, .int .i64 0] 23)).drew)
  have B2 := Lib.hid ((B1.out.alloc B1.out.size (.cells #[.int .i64 f, .int .i64 t, .int .u8 7, .int .i64 g, .int .i64 0, .int .i64 0, .int .i64 0, .string ⟨#[]⟩, .int .i64 0, .int .i64 0] 23)).drew)
  have HRa := Lib.hid ((HR2.out.alloc B1.out.size (.cells #[.int .i64 f, .int .i64 t, .int .u8 7, .int .i64 g, .int .i64 0, .int .i64 0, .int .i64 0, .string ⟨#[]⟩, .int .i64 0, .int .i64 0] 23)).drew)
  have hzG : w.heap.size < w1.heap.size := KG.out.lt
  clear q0 q1 q2 q3 KG B1 HR2
  generalize (w1.alloc (.cells #[.int .i64 f, .int .i64 t, .int .u8 7, .int .i64 g, .int .i64 0, .int .i64 0, .int .i64 0, .string ⟨#[]⟩, .int .i64 0, .int .i64 0] 23)).drew = W2 at *
  obtain ⟨gm, hgm2⟩ : ∃ x, w1.heap.size = x := ⟨_, rfl⟩
  rw [hgm2] at hzG hg1 K2
  rw [hgm2]
  clear hgm2
  have ngm : gm ≠ g1 := by omega
  have nmg := Ne.symm ngm
  have ngr : gm ≠ w.heap.size := by omega
  have nrg := Ne.symm ngr
  have nr1 : w.heap.size ≠ g1 := by simp only [World.size_alloc] at hg1b; omega
  have n1r := Ne.symm nr1
  refine (rnumbers_7 f t g 0 0 0 ⟨#[]⟩ 0 0 W2).mono ?_
  rintro e w3 ⟨A3, c3, rfl, ho3, hb⟩
  have K3 := Lib.hid (K2.out.below hb K2.out.lt)
  have KG3 := Lib.hid (KG2.out.below hb KG2.out.lt)
  have B3 := Lib.hid (B2.out.trans (hb.mono B2.out.size))
  have HR3 := Lib.hid (HRa.out.below (hb.mono B2.out.size))
  have Q3 : Hid (w3.cell? ⟨g1, o1 + 2, none⟩ = some (.int .i64 7)) := (hb.cell (p := ⟨g1, o1 + 2, none⟩) (by have := K2.out.lt; show g1 < _; omega)).trans Q2.out
  clear hb K2 KG2 B2 HRa Q2 ho3
  go_wp2_with fail
  have CN := rnumbers12_any A2 n2 c2 1 rest w3 F2 HF2.out w.heap.size B3.out.size HR3.out hnc2 hc2 hn2 (by omega)
  rw [show ((1 : Nat) : Int) = 1 from rfl] at CN
  refine CN.mono ?_
  clear CN
  cases F2 with
  | none =>
    rintro e w4 ⟨rfl, hb⟩
    have KG4 := Lib.hid (KG3.out.below hb KG3.out.lt)
    have BF := Lib.hid (B3.out.trans (hb.mono B3.out.size))
    have HE : Hid (R = none) := by rw [Hid, ← HR.out]; exact Wp.rread2_none HF2.out
    clear hb
    have z0 : w4.cell? ⟨w.heap.size, 0, none⟩ = some (.int .i64 0) := KG4.out.cell 0
    have fz0 := KG4.out.frozen 0
    have z1 : w4.cell? ⟨w.heap.size, 1, none⟩ = some (.int .i64 0) := KG4.out.cell 1
    have fz1 := KG4.out.frozen 1
    have z2 : w4.cell? ⟨w.heap.size, 2, none⟩ = some (.int .u8 0) := KG4.out.cell 2
    have fz2 := KG4.out.frozen 2
    have z3 : w4.cell? ⟨w.heap.size, 3, none⟩ = some (.int .i64 0) := KG4.out.cell 3
    have fz3 := KG4.out.frozen 3
    have z4 : w4.cell? ⟨w.heap.size, 4, none⟩ = some (.int .i64 0) := KG4.out.cell 4
    have fz4 := KG4.out.frozen 4
    have z5 : w4.cell? ⟨w.heap.size, 5, none⟩ = some (.int .i64 0) := KG4.out.cell 5
    have fz5 := KG4.out.frozen 5
    have z6 : w4.cell? ⟨w.heap.size, 6, none⟩ = some (.int .i64 0) := KG4.out.cell 6
    have fz6 := KG4.out.frozen 6
    have z7 : w4.cell? ⟨w.heap.size, 7, none⟩ = some (.string ⟨#[]⟩) := KG4.out.cell 7
    have fz7 := KG4.out.frozen 7
    have z8 : w4.cell? ⟨w.heap.size, 8, none⟩ = some (.int .i64 0) := KG4.out.cell 8
    have fz8 := KG4.out.frozen 8
    have z9 : w4.cell? ⟨w.heap.size, 9, none⟩ = some (.int .i64 0) := KG4.out.cell 9
    have fz9 := KG4.out.frozen 9
    go_wp2
    exact bodyPost_ret (v := .tuple #[.agg #[.int .i64 0, .int .i64 0, .int .u8 0, .int .i64 0, .int .i64 0, .int .i64 0, .int .i64 0, .string ⟨#[]⟩, .int .i64 0, .int .i64 0], .int .i64 8]) (by simp [results, Try.results24, go_sem, z0, z1, z2, z3, z4, z5, z6, z7, z8, z9]) rfl ⟨by rw [HE.out]; rfl, by repeat (first | with_reducible exact BF.out | with_reducible refine set_0 ?_ _ _)⟩
  | some p =>
    obtain ⟨xs, left⟩ := p
    have hxl := (Wp.numsN_back _ _ _ _ HF2.out).1
    rintro e w4 ⟨A4, c4, A5, n5, c5, rfl, ho4, hr5, hnc5, hc5, hn5, hb⟩
    have K4 := Lib.hid (K3.out.below hb K3.out.lt)
    have KG4 := Lib.hid (KG3.out.below hb KG3.out.lt)
    have B4 := Lib.hid (B3.out.trans (hb.mono B3.out.size))

    obtain ⟨a0, rfl⟩ : ∃ a0, xs = [a0] := by
      match xs, hxl with | [a0], _ => exact ⟨a0, rfl⟩
    clear hxl
    obtain ⟨gx, ox, rfl, -, x0⟩ := cells_1 (base := 0) (Reads.of_own ho4)
    have ngx : gm ≠ gx := by have := own_new ho4; have := K3.out.lt; omega
    have nxg := Ne.symm ngx
    have nrx : w.heap.size ≠ gx := by have := own_new ho4; have := KG3.out.lt; omega
    have nxr := Ne.symm nrx
    have q2 : w4.cell? ⟨g1, o1 + 2, none⟩ = some (.int .i64 7) := (hb.cell (p := ⟨g1, o1 + 2, none⟩) (by have := K3.out.lt; show g1 < _; omega)).trans Q3.out
    have y0 : w4.cell? ⟨gm, 0, none⟩ = some (.int .i64 f) := K4.out.cell 0
    have fy0 := K4.out.frozen 0
    have y1 : w4.cell? ⟨gm, 1, none⟩ = some (.int .i64 t) := K4.out.cell 1
    have fy1 := K4.out.frozen 1
    have y2 : w4.cell? ⟨gm, 2, none⟩ = some (.int .u8 7) := K4.out.cell 2
    have fy2 := K4.out.frozen 2
    have y3 : w4.cell? ⟨gm, 3, none⟩ = some (.int .i64 g) := K4.out.cell 3
    have fy3 := K4.out.frozen 3
    have y4 : w4.cell? ⟨gm, 4, none⟩ = some (.int .i64 0) := K4.out.cell 4
    have fy4 := K4.out.frozen 4
    have y5 : w4.cell? ⟨gm, 5, none⟩ = some (.int .i64 0) := K4.out.cell 5
    have fy5 := K4.out.frozen 5
    have y6 : w4.cell? ⟨gm, 6, none⟩ = some (.int .i64 0) := K4.out.cell 6
    have fy6 := K4.out.frozen 6
    have y7 : w4.cell? ⟨gm, 7, none⟩ = some (.string ⟨#[]⟩) := K4.out.cell 7
    have fy7 := K4.out.frozen 7
    have y8 : w4.cell? ⟨gm, 8, none⟩ = some (.int .i64 0) := K4.out.cell 8
    have fy8 := K4.out.frozen 8
    have y9 : w4.cell? ⟨gm, 9, none⟩ = some (.int .i64 0) := K4.out.cell 9
    have fy9 := K4.out.frozen 9
    go_wp2_with fail
    clear hb ho4 y0 fy0 y1 fy1 y2 fy2 y3 fy3 y4 fy4 y5 fy5 y6 fy6 y7 fy7 y8 fy8 y9 fy9
    have K5 : Hid (Blk (w4.setCell ⟨gm, 4, none⟩ (.int .i64 a0)) gm 23 #[.int .i64 f, .int .i64 t, .int .u8 7, .int .i64 g, .int .i64 a0, .int .i64 0, .int .i64 0, .string ⟨#[]⟩, .int .i64 0, .int .i64 0]) := (K4.out.set_ 4 (.int .i64 a0))
    have KG5 : Hid (Blk (w4.setCell ⟨gm, 4, none⟩ (.int .i64 a0)) w.heap.size 23 #[.int .i64 0, .int .i64 0, .int .u8 0, .int .i64 0, .int .i64 0, .int .i64 0, .int .i64 0, .string ⟨#[]⟩, .int .i64 0, .int .i64 0]) := (KG4.out.far (p := ⟨gm, 4, none⟩) nrg (.int .i64 a0))
    have B5 : Hid (Below w.heap.size w (w4.setCell ⟨gm, 4, none⟩ (.int .i64 a0))) := (B4.out.setCell (p := ⟨gm, 4, none⟩) (Nat.le_of_lt hzG) (.int .i64 a0))
    have HR5 : Hid (Reads (w4.setCell ⟨gm, 4, none⟩ (.int .i64 a0)) w.heap.size 1 A5 n5 (cb left)) := (hr5.setCell (p := ⟨gm, 4, none⟩) (Nat.le_of_lt hzG) (.int .i64 a0))
    clear hr5 q2 x0
    generalize (w4.setCell ⟨gm, 4, none⟩ (.int .i64 a0)) = W5 at *
    refine (rvalued_any 7 W5 (by omega) (by omega)).mono ?_
    rw [show Wp.valuedB 7 = false from rfl]
    rintro e w' ⟨rfl, rfl⟩
    have hln := HR5.out.len_b
    by_cases zn : n5 = 0
    rotate_left
    · have zz : (0 : Int) < (n5 : Int) := by omega
      have HE : Hid (R = none) := by rw [Hid, ← HR.out, Wp.rread2_plain (f := f) (t := t) (k := 7) (g := g) HF2.out rfl]; exact Wp.fin_no1 (fun e => by rw [e] at hln; simp at hln; omega)
      clear hln
      have BF := Lib.hid B5.out
      have z0 : W5.cell? ⟨w.heap.size, 0, none⟩ = some (.int .i64 0) := KG5.out.cell 0
      have fz0 := KG5.out.frozen 0
      have z1 : W5.cell? ⟨w.heap.size, 1, none⟩ = some (.int .i64 0) := KG5.out.cell 1
      have fz1 := KG5.out.frozen 1
      have z2 : W5.cell? ⟨w.heap.size, 2, none⟩ = some (.int .u8 0) := KG5.out.cell 2
      have fz2 := KG5.out.frozen 2
      have z3 : W5.cell? ⟨w.heap.size, 3, none⟩ = some (.int .i64 0) := KG5.out.cell 3
      have fz3 := KG5.out.frozen 3
      have z4 : W5.cell? ⟨w.heap.size, 4, none⟩ = some (.int .i64 0) := KG5.out.cell 4
      have fz4 := KG5.out.frozen 4
      have z5 : W5.cell? ⟨w.heap.size, 5, none⟩ = some (.int .i64 0) := KG5.out.cell 5
      have fz5 := KG5.out.frozen 5
      have z6 : W5.cell? ⟨w.heap.size, 6, none⟩ = some (.int .i64 0) := KG5.out.cell 6
      have fz6 := KG5.out.frozen 6
      have z7 : W5.cell? ⟨w.heap.size, 7, none⟩ = some (.string ⟨#[]⟩) := KG5.out.cell 7
      have fz7 := KG5.out.frozen 7
      have z8 : W5.cell? ⟨w.heap.size, 8, none⟩ = some (.int .i64 0) := KG5.out.cell 8
      have fz8 := KG5.out.frozen 8
      have z9 : W5.cell? ⟨w.heap.size, 9, none⟩ = some (.int .i64 0) := KG5.out.cell 9
      have fz9 := KG5.out.frozen 9
      go_wp2
      exact bodyPost_ret (v := .tuple #[.agg #[.int .i64 0, .int .i64 0, .int .u8 0, .int .i64 0, .int .i64 0, .int .i64 0, .int .i64 0, .string ⟨#[]⟩, .int .i64 0, .int .i64 0], .int .i64 8]) (by simp [results, Try.results24, go_sem, z0, z1, z2, z3, z4, z5, z6, z7, z8, z9]) rfl ⟨by rw [HE.out]; rfl, by repeat (first | with_reducible exact BF.out | with_reducible refine set_0 ?_ _ _)⟩
    · have HL0 : Hid (left = []) := List.eq_nil_of_length_eq_zero (by rw [hln]; exact zn)
      have zz : ¬ (0 : Int) < (n5 : Int) := by omega
      clear hln
      have CM := rmay23_any f t 7 g a0 0 0 ⟨#[]⟩ 0 0 W5 (by decide)
      have y0 : W5.cell? ⟨gm, 0, none⟩ = some (.int .i64 f) := K5.out.cell 0
      have fy0 := K5.out.frozen 0
      have y1 : W5.cell? ⟨gm, 1, none⟩ = some (.int .i64 t) := K5.out.cell 1
      have fy1 := K5.out.frozen 1
      have y2 : W5.cell? ⟨gm, 2, none⟩ = some (.int .u8 7) := K5.out.cell 2
      have fy2 := K5.out.frozen 2
      have y3 : W5.cell? ⟨gm, 3, none⟩ = some (.int .i64 g) := K5.out.cell 3
      have fy3 := K5.out.frozen 3
      have y4 : W5.cell? ⟨gm, 4, none⟩ = some (.int .i64 a0) := K5.out.cell 4
      have fy4 := K5.out.frozen 4
      have y5 : W5.cell? ⟨gm, 5, none⟩ = some (.int .i64 0) := K5.out.cell 5
      have fy5 := K5.out.frozen 5
      have y6 : W5.cell? ⟨gm, 6, none⟩ = some (.int .i64 0) := K5.out.cell 6
      have fy6 := K5.out.frozen 6
      have y7 : W5.cell? ⟨gm, 7, none⟩ = some (.string ⟨#[]⟩) := K5.out.cell 7
      have fy7 := K5.out.frozen 7
      have y8 : W5.cell? ⟨gm, 8, none⟩ = some (.int .i64 0) := K5.out.cell 8
      have fy8 := K5.out.frozen 8
      have y9 : W5.cell? ⟨gm, 9, none⟩ = some (.int .i64 0) := K5.out.cell 9
      have fy9 := K5.out.frozen 9
      cases hm : Wp.mayM ⟨f, t, 7, g, a0, 0, 0, [], 0, 0⟩ with
      | false =>
        have CX : Hid (Calls Try.prog 32 #[.agg #[.int .i64 f, .int .i64 t, .int .u8 7, .int .i64 g, .int .i64 a0, .int .i64 0, .int .i64 0, .string ⟨#[]⟩, .int .i64 0, .int .i64 0]] W5 fun e w' => e = .returned (.bool false) ∧ Below W5.heap.size W5 w') := by
          rw [Hid, ← hm]; exact CM
        have HE : Hid (R = none) := by rw [Hid, ← HR.out, Wp.rread2_plain (f := f) (t := t) (k := 7) (g := g) HF2.out rfl]; exact Wp.fin_no2 hm
        clear CM hm
        go_wp2_with fail
        with_reducible refine CX.out.mono ?_
        rintro e w9 ⟨rfl, hb⟩
        have K9 := Lib.hid (K5.out.below hb K5.out.lt)
        have KG9 := Lib.hid (KG5.out.below hb KG5.out.lt)
        have B9 := Lib.hid (B5.out.trans (hb.mono B5.out.size))
        clear hb y0 fy0 y1 fy1 y2 fy2 y3 fy3 y4 fy4 y5 fy5 y6 fy6 y7 fy7 y8 fy8 y9 fy9
        have BF := Lib.hid B9.out
        have z0 : w9.cell? ⟨w.heap.size, 0, none⟩ = some (.int .i64 0) := KG9.out.cell 0
        have fz0 := KG9.out.frozen 0
        have z1 : w9.cell? ⟨w.heap.size, 1, none⟩ = some (.int .i64 0) := KG9.out.cell 1
        have fz1 := KG9.out.frozen 1
        have z2 : w9.cell? ⟨w.heap.size, 2, none⟩ = some (.int .u8 0) := KG9.out.cell 2
        have fz2 := KG9.out.frozen 2
        have z3 : w9.cell? ⟨w.heap.size, 3, none⟩ = some (.int .i64 0) := KG9.out.cell 3
        have fz3 := KG9.out.frozen 3
        have z4 : w9.cell? ⟨w.heap.size, 4, none⟩ = some (.int .i64 0) := KG9.out.cell 4
        have fz4 := KG9.out.frozen 4
        have z5 : w9.cell? ⟨w.heap.size, 5, none⟩ = some (.int .i64 0) := KG9.out.cell 5
        have fz5 := KG9.out.frozen 5
        have z6 : w9.cell? ⟨w.heap.size, 6, none⟩ = some (.int .i64 0) := KG9.out.cell 6
        have fz6 := KG9.out.frozen 6
        have z7 : w9.cell? ⟨w.heap.size, 7, none⟩ = some (.string ⟨#[]⟩) := KG9.out.cell 7
        have fz7 := KG9.out.frozen 7
        have z8 : w9.cell? ⟨w.heap.size, 8, none⟩ = some (.int .i64 0) := KG9.out.cell 8
        have fz8 := KG9.out.frozen 8
        have z9 : w9.cell? ⟨w.heap.size, 9, none⟩ = some (.int .i64 0) := KG9.out.cell 9
        have fz9 := KG9.out.frozen 9
        go_wp2
        exact bodyPost_ret (v := .tuple #[.agg #[.int .i64 0, .int .i64 0, .int .u8 0, .int .i64 0, .int .i64 0, .int .i64 0, .int .i64 0, .string ⟨#[]⟩, .int .i64 0, .int .i64 0], .int .i64 8]) (by simp [results, Try.results24, go_sem, z0, z1, z2, z3, z4, z5, z6, z7, z8, z9]) rfl ⟨by rw [HE.out]; rfl, by repeat (first | with_reducible exact BF.out | with_reducible refine set_0 ?_ _ _)⟩
      | true =>
        have CX : Hid (Calls Try.prog 32 #[.agg #[.int .i64 f, .int .i64 t, .int .u8 7, .int .i64 g, .int .i64 a0, .int .i64 0, .int .i64 0, .string ⟨#[]⟩, .int .i64 0, .int .i64 0]] W5 fun e w' => e = .returned (.bool true) ∧ Below W5.heap.size W5 w') := by
          rw [Hid, ← hm]; exact CM
        have HE : Hid (R = some ⟨f, t, 7, g, a0, 0, 0, [], 0, 0⟩) := by rw [Hid, ← HR.out, Wp.rread2_plain (f := f) (t := t) (k := 7) (g := g) HF2.out rfl]; exact Wp.fin_yes HL0.out hm
        clear CM hm
        go_wp2_with fail
        with_reducible refine CX.out.mono ?_
        rintro e w9 ⟨rfl, hb⟩
        have K9 := Lib.hid (K5.out.below hb K5.out.lt)
        have KG9 := Lib.hid (KG5.out.below hb KG5.out.lt)
        have B9 := Lib.hid (B5.out.trans (hb.mono B5.out.size))
        clear hb y0 fy0 y1 fy1 y2 fy2 y3 fy3 y4 fy4 y5 fy5 y6 fy6 y7 fy7 y8 fy8 y9 fy9
        have BF := Lib.hid B9.out
        have z0 : w9.cell? ⟨w.heap.size, 0, none⟩ = some (.int .i64 0) := KG9.out.cell 0
        have fz0 := KG9.out.frozen 0
        have z1 : w9.cell? ⟨w.heap.size, 1, none⟩ = some (.int .i64 0) := KG9.out.cell 1
        have fz1 := KG9.out.frozen 1
        have z2 : w9.cell? ⟨w.heap.size, 2, none⟩ = some (.int .u8 0) := KG9.out.cell 2
        have fz2 := KG9.out.frozen 2
        have z3 : w9.cell? ⟨w.heap.size, 3, none⟩ = some (.int .i64 0) := KG9.out.cell 3
        have fz3 := KG9.out.frozen 3
        have z4 : w9.cell? ⟨w.heap.size, 4, none⟩ = some (.int .i64 0) := KG9.out.cell 4
        have fz4 := KG9.out.frozen 4
        have z5 : w9.cell? ⟨w.heap.size, 5, none⟩ = some (.int .i64 0) := KG9.out.cell 5
        have fz5 := KG9.out.frozen 5
        have z6 : w9.cell? ⟨w.heap.size, 6, none⟩ = some (.int .i64 0) := KG9.out.cell 6
        have fz6 := KG9.out.frozen 6
        have z7 : w9.cell? ⟨w.heap.size, 7, none⟩ = some (.string ⟨#[]⟩) := KG9.out.cell 7
        have fz7 := KG9.out.frozen 7
        have z8 : w9.cell? ⟨w.heap.size, 8, none⟩ = some (.int .i64 0) := KG9.out.cell 8
        have fz8 := KG9.out.frozen 8
        have z9 : w9.cell? ⟨w.heap.size, 9, none⟩ = some (.int .i64 0) := KG9.out.cell 9
        have fz9 := KG9.out.frozen 9
        have y0 : w9.cell? ⟨gm, 0, none⟩ = some (.int .i64 f) := K9.out.cell 0
        have y1 : w9.cell? ⟨gm, 1, none⟩ = some (.int .i64 t) := K9.out.cell 1
        have y2 : w9.cell? ⟨gm, 2, none⟩ = some (.int .u8 7) := K9.out.cell 2
        have y3 : w9.cell? ⟨gm, 3, none⟩ = some (.int .i64 g) := K9.out.cell 3
        have y4 : w9.cell? ⟨gm, 4, none⟩ = some (.int .i64 a0) := K9.out.cell 4
        have y5 : w9.cell? ⟨gm, 5, none⟩ = some (.int .i64 0) := K9.out.cell 5
        have y6 : w9.cell? ⟨gm, 6, none⟩ = some (.int .i64 0) := K9.out.cell 6
        have y7 : w9.cell? ⟨gm, 7, none⟩ = some (.string ⟨#[]⟩) := K9.out.cell 7
        have y8 : w9.cell? ⟨gm, 8, none⟩ = some (.int .i64 0) := K9.out.cell 8
        have y9 : w9.cell? ⟨gm, 9, none⟩ = some (.int .i64 0) := K9.out.cell 9
        go_wp2
        exact bodyPost_ret (v := .tuple #[.agg #[.int .i64 f, .int .i64 t, .int .u8 7, .int .i64 g, .int .i64 a0, .int .i64 0, .int .i64 0, .string ⟨#[]⟩, .int .i64 0, .int .i64 0], .int .i64 0]) (by simp [results, Try.results24, go_sem, z0, z1, z2, z3, z4, z5, z6, z7, z8, z9]) rfl ⟨by rw [HE.out]; rfl, by repeat (first | with_reducible exact BF.out | with_reducible refine set_0 ?_ _ _)⟩
theorem rread23_8 (A : Option Addr) (n c : Nat) (l rest : List UInt8) (f t g : Int) (w : World) (hr : Reads w w.heap.size 1 A n (cb l)) (hnc : n ≤ c) (hc : c ≤ 9223372036854775807) (hn : n ≤ 4096) (h : Wp.numsN 4 l = some ([f, t, 8, g], rest)) :
    Calls Try.prog 24 #[.slice A n c] w fun e w' => e = .returned (mailV (Wp.rread2 f t 8 g rest)) ∧ Below w.heap.size w w' := by
  have hgm : w.heap.size < w.heap.size + 1 := by omega
  have HC := Lib.hid (rnumbers12_any A n c 4 l (w.alloc (.cells #[.int .i64 0, .int .i64 0, .int .u8 0, .int .i64 0, .int .i64 0, .int .i64 0, .int .i64 0, .string ⟨#[]⟩, .int .i64 0, .int .i64 0] 23)) _ h w.heap.size (by simp) (hr.alloc (Nat.le_refl _) _) hnc hc (by omega) (by omega))
  clear h hr
  obtain ⟨F2, hF2⟩ : ∃ F, Wp.numsN 2 rest = F := ⟨_, rfl⟩
  have HF2 := Lib.hid hF2
  clear hF2
  obtain ⟨R, hR⟩ : ∃ R, Wp.rread2 f t 8 g rest = R := ⟨_, rfl⟩
  rw [hR]
  have HR := Lib.hid hR
  clear hR
  go_enter Try.func24, Try.ntmps24
  go_wp2_with fail
  refine HC.out.mono ?_
  rintro e w1 ⟨A1, c1, A2, n2, c2, rfl, ho, hr2, hnc2, hc2, hn2, hb⟩
  have KG := Lib.hid (Blk.below (Blk.new w 23 #[.int .i64 0, .int .i64 0, .int .u8 0, .int .i64 0, .int .i64 0, .int .i64 0, .int .i64 0, .string ⟨#[]⟩, .int .i64 0, .int .i64 0]) hb (by simp))
  have B1 := Lib.hid (below_of_alloc (hb.mono (B' := w.heap.size) (by simp)) (Nat.le_refl _))
  obtain ⟨g1, o1, rfl, hg1, q0, q1, q2, q3⟩ := four_cells (Reads.of_own ho)
  have hg1b := own_new ho
  have HR2 := Lib.hid hr2
  clear hb HC ho hr2
  go_upto_region 6 with fail
  go_region
  go_wp2_with fail
  have Q2 : Hid ((w1.alloc (.cells #[.int .i64 f, .int .i64 t, .int .u8 8, .int .i64 g, .int .i64 0, .int .i64 0, .int .i64 0, .string ⟨#[]⟩, .int .i64 0, .int .i64 0] 23)).drew.cell? ⟨g1, o1 + 2, none⟩ = some (.int .i64 8)) := (World.cell?_alloc_lt w1 (.cells #[.int .i64 f, .int .i64 t, .int .u8 8, .int .i64 g, .int .i64 0, .int .i64 0, .int .i64 0, .string ⟨#[]⟩, .int .i64 0, .int .i64 0] 23) ⟨g1, o1 + 2, none⟩ hg1).trans q2
  have K2 := Lib.hid (Blk.drew (Blk.new w1 23 #[.int .i64 f, .int .i64 t, .int .u8 8, .int .i64 g, .int .i64 0, .int .i64 0, .int .i64 0, .string ⟨#[]⟩, .int .i64 0, .int .i64 0]))
  have KG2 := Lib.hid ((KG.out.alloc (.cells #[.int .i64 f, .int .i64 t, .int .u8 8, .int .i64 g, .int .i64 0, .int .i64 0, .int .i64 0, .string ⟨#[]⟩, .int .i64 0, .int .i64 0] 23)).drew)
  have B2 := Lib.hid ((B1.out.alloc B1.out.size (.cells #[.int .i64 f, .int .i64 t, .int .u8 8, .int .i64 g, .int .i64 0, .int .i64 0, .int .i64 0, .string ⟨#[]⟩, .int .i64 0, .int .i64 0] 23)).drew)
  have HRa := Lib.hid ((HR2.out.alloc B1.out.size (.cells #[.int .i64 f, .int .i64 t, .int .u8 8, .int .i64 g, .int .i64 0, .int .i64 0, .int .i64 0, .string ⟨#[]⟩, .int .i64 0, .int .i64 0] 23)).drew)
  have hzG : w.heap.size < w1.heap.size := KG.out.lt
  clear q0 q1 q2 q3 KG B1 HR2
  generalize (w1.alloc (.cells #[.int .i64 f, .int .i64 t, .int .u8 8, .int .i64 g, .int .i64 0, .int .i64 0, .int .i64 0, .string ⟨#[]⟩, .int .i64 0, .int .i64 0] 23)).drew = W2 at *
  obtain ⟨gm, hgm2⟩ : ∃ x, w1.heap.size = x := ⟨_, rfl⟩
  rw [hgm2] at hzG hg1 K2
  rw [hgm2]
  clear hgm2
  have ngm : gm ≠ g1 := by omega
  have nmg := Ne.symm ngm
  have ngr : gm ≠ w.heap.size := by omega
  have nrg := Ne.symm ngr
  have nr1 : w.heap.size ≠ g1 := by simp only [World.size_alloc] at hg1b; omega
  have n1r := Ne.symm nr1
  refine (rnumbers_8 f t g 0 0 0 ⟨#[]⟩ 0 0 W2).mono ?_
  rintro e w3 ⟨A3, c3, rfl, ho3, hb⟩
  have K3 := Lib.hid (K2.out.below hb K2.out.lt)
  have KG3 := Lib.hid (KG2.out.below hb KG2.out.lt)
  have B3 := Lib.hid (B2.out.trans (hb.mono B2.out.size))
  have HR3 := Lib.hid (HRa.out.below (hb.mono B2.out.size))
  have Q3 : Hid (w3.cell? ⟨g1, o1 + 2, none⟩ = some (.int .i64 8)) := (hb.cell (p := ⟨g1, o1 + 2, none⟩) (by have := K2.out.lt; show g1 < _; omega)).trans Q2.out
  clear hb K2 KG2 B2 HRa Q2 ho3
  go_wp2_with fail
  have CN := rnumbers12_any A2 n2 c2 2 rest w3 F2 HF2.out w.heap.size B3.out.size HR3.out hnc2 hc2 hn2 (by omega)
  rw [show ((2 : Nat) : Int) = 2 from rfl] at CN
  refine CN.mono ?_
  clear CN
  cases F2 with
  | none =>
    rintro e w4 ⟨rfl, hb⟩
    have KG4 := Lib.hid (KG3.out.below hb KG3.out.lt)
    have BF := Lib.hid (B3.out.trans (hb.mono B3.out.size))
    have HE : Hid (R = none) := by rw [Hid, ← HR.out]; exact Wp.rread2_none HF2.out
    clear hb
    have z0 : w4.cell? ⟨w.heap.size, 0, none⟩ = some (.int .i64 0) := KG4.out.cell 0
    have fz0 := KG4.out.frozen 0
    have z1 : w4.cell? ⟨w.heap.size, 1, none⟩ = some (.int .i64 0) := KG4.out.cell 1
    have fz1 := KG4.out.frozen 1
    have z2 : w4.cell? ⟨w.heap.size, 2, none⟩ = some (.int .u8 0) := KG4.out.cell 2
    have fz2 := KG4.out.frozen 2
    have z3 : w4.cell? ⟨w.heap.size, 3, none⟩ = some (.int .i64 0) := KG4.out.cell 3
    have fz3 := KG4.out.frozen 3
    have z4 : w4.cell? ⟨w.heap.size, 4, none⟩ = some (.int .i64 0) := KG4.out.cell 4
    have fz4 := KG4.out.frozen 4
    have z5 : w4.cell? ⟨w.heap.size, 5, none⟩ = some (.int .i64 0) := KG4.out.cell 5
    have fz5 := KG4.out.frozen 5
    have z6 : w4.cell? ⟨w.heap.size, 6, none⟩ = some (.int .i64 0) := KG4.out.cell 6
    have fz6 := KG4.out.frozen 6
    have z7 : w4.cell? ⟨w.heap.size, 7, none⟩ = some (.string ⟨#[]⟩) := KG4.out.cell 7
    have fz7 := KG4.out.frozen 7
    have z8 : w4.cell? ⟨w.heap.size, 8, none⟩ = some (.int .i64 0) := KG4.out.cell 8
    have fz8 := KG4.out.frozen 8
    have z9 : w4.cell? ⟨w.heap.size, 9, none⟩ = some (.int .i64 0) := KG4.out.cell 9
    have fz9 := KG4.out.frozen 9
    go_wp2
    exact bodyPost_ret (v := .tuple #[.agg #[.int .i64 0, .int .i64 0, .int .u8 0, .int .i64 0, .int .i64 0, .int .i64 0, .int .i64 0, .string ⟨#[]⟩, .int .i64 0, .int .i64 0], .int .i64 8]) (by simp [results, Try.results24, go_sem, z0, z1, z2, z3, z4, z5, z6, z7, z8, z9]) rfl ⟨by rw [HE.out]; rfl, by repeat (first | with_reducible exact BF.out | with_reducible refine set_0 ?_ _ _)⟩
  | some p =>
    obtain ⟨xs, left⟩ := p
    have hxl := (Wp.numsN_back _ _ _ _ HF2.out).1
    rintro e w4 ⟨A4, c4, A5, n5, c5, rfl, ho4, hr5, hnc5, hc5, hn5, hb⟩
    have K4 := Lib.hid (K3.out.below hb K3.out.lt)
    have KG4 := Lib.hid (KG3.out.below hb KG3.out.lt)
    have B4 := Lib.hid (B3.out.trans (hb.mono B3.out.size))

    obtain ⟨a0, a1, rfl⟩ : ∃ a0 a1, xs = [a0, a1] := by
      match xs, hxl with | [a0, a1], _ => exact ⟨a0, a1, rfl⟩
    clear hxl
    obtain ⟨gx, ox, rfl, -, x0, x1⟩ := cells_2 (base := 0) (Reads.of_own ho4)
    have ngx : gm ≠ gx := by have := own_new ho4; have := K3.out.lt; omega
    have nxg := Ne.symm ngx
    have nrx : w.heap.size ≠ gx := by have := own_new ho4; have := KG3.out.lt; omega
    have nxr := Ne.symm nrx
    have q2 : w4.cell? ⟨g1, o1 + 2, none⟩ = some (.int .i64 8) := (hb.cell (p := ⟨g1, o1 + 2, none⟩) (by have := K3.out.lt; show g1 < _; omega)).trans Q3.out
    have y0 : w4.cell? ⟨gm, 0, none⟩ = some (.int .i64 f) := K4.out.cell 0
    have fy0 := K4.out.frozen 0
    have y1 : w4.cell? ⟨gm, 1, none⟩ = some (.int .i64 t) := K4.out.cell 1
    have fy1 := K4.out.frozen 1
    have y2 : w4.cell? ⟨gm, 2, none⟩ = some (.int .u8 8) := K4.out.cell 2
    have fy2 := K4.out.frozen 2
    have y3 : w4.cell? ⟨gm, 3, none⟩ = some (.int .i64 g) := K4.out.cell 3
    have fy3 := K4.out.frozen 3
    have y4 : w4.cell? ⟨gm, 4, none⟩ = some (.int .i64 0) := K4.out.cell 4
    have fy4 := K4.out.frozen 4
    have y5 : w4.cell? ⟨gm, 5, none⟩ = some (.int .i64 0) := K4.out.cell 5
    have fy5 := K4.out.frozen 5
    have y6 : w4.cell? ⟨gm, 6, none⟩ = some (.int .i64 0) := K4.out.cell 6
    have fy6 := K4.out.frozen 6
    have y7 : w4.cell? ⟨gm, 7, none⟩ = some (.string ⟨#[]⟩) := K4.out.cell 7
    have fy7 := K4.out.frozen 7
    have y8 : w4.cell? ⟨gm, 8, none⟩ = some (.int .i64 0) := K4.out.cell 8
    have fy8 := K4.out.frozen 8
    have y9 : w4.cell? ⟨gm, 9, none⟩ = some (.int .i64 0) := K4.out.cell 9
    have fy9 := K4.out.frozen 9
    go_wp2_with fail
    clear hb ho4 y0 fy0 y1 fy1 y2 fy2 y3 fy3 y4 fy4 y5 fy5 y6 fy6 y7 fy7 y8 fy8 y9 fy9
    have K5 : Hid (Blk ((((((w4.setCell ⟨gm, 4, none⟩ (.int .i64 a0)).setCell ⟨gm, 5, none⟩ (.int .i64 a1)).setCell ⟨gm, 4, none⟩ (.int .i64 0)).setCell ⟨gm, 5, none⟩ (.int .i64 0)).setCell ⟨gm, 8, none⟩ (.int .i64 a0)).setCell ⟨gm, 9, none⟩ (.int .i64 a1)) gm 23 #[.int .i64 f, .int .i64 t, .int .u8 8, .int .i64 g, .int .i64 0, .int .i64 0, .int .i64 0, .string ⟨#[]⟩, .int .i64 a0, .int .i64 a1]) := ((((((K4.out.set_ 4 (.int .i64 a0)).set_ 5 (.int .i64 a1)).set_ 4 (.int .i64 0)).set_ 5 (.int .i64 0)).set_ 8 (.int .i64 a0)).set_ 9 (.int .i64 a1))
    have KG5 : Hid (Blk ((((((w4.setCell ⟨gm, 4, none⟩ (.int .i64 a0)).setCell ⟨gm, 5, none⟩ (.int .i64 a1)).setCell ⟨gm, 4, none⟩ (.int .i64 0)).setCell ⟨gm, 5, none⟩ (.int .i64 0)).setCell ⟨gm, 8, none⟩ (.int .i64 a0)).setCell ⟨gm, 9, none⟩ (.int .i64 a1)) w.heap.size 23 #[.int .i64 0, .int .i64 0, .int .u8 0, .int .i64 0, .int .i64 0, .int .i64 0, .int .i64 0, .string ⟨#[]⟩, .int .i64 0, .int .i64 0]) := ((((((KG4.out.far (p := ⟨gm, 4, none⟩) nrg (.int .i64 a0)).far (p := ⟨gm, 5, none⟩) nrg (.int .i64 a1)).far (p := ⟨gm, 4, none⟩) nrg (.int .i64 0)).far (p := ⟨gm, 5, none⟩) nrg (.int .i64 0)).far (p := ⟨gm, 8, none⟩) nrg (.int .i64 a0)).far (p := ⟨gm, 9, none⟩) nrg (.int .i64 a1))
    have B5 : Hid (Below w.heap.size w ((((((w4.setCell ⟨gm, 4, none⟩ (.int .i64 a0)).setCell ⟨gm, 5, none⟩ (.int .i64 a1)).setCell ⟨gm, 4, none⟩ (.int .i64 0)).setCell ⟨gm, 5, none⟩ (.int .i64 0)).setCell ⟨gm, 8, none⟩ (.int .i64 a0)).setCell ⟨gm, 9, none⟩ (.int .i64 a1))) := ((((((B4.out.setCell (p := ⟨gm, 4, none⟩) (Nat.le_of_lt hzG) (.int .i64 a0)).setCell (p := ⟨gm, 5, none⟩) (Nat.le_of_lt hzG) (.int .i64 a1)).setCell (p := ⟨gm, 4, none⟩) (Nat.le_of_lt hzG) (.int .i64 0)).setCell (p := ⟨gm, 5, none⟩) (Nat.le_of_lt hzG) (.int .i64 0)).setCell (p := ⟨gm, 8, none⟩) (Nat.le_of_lt hzG) (.int .i64 a0)).setCell (p := ⟨gm, 9, none⟩) (Nat.le_of_lt hzG) (.int .i64 a1))
    have HR5 : Hid (Reads ((((((w4.setCell ⟨gm, 4, none⟩ (.int .i64 a0)).setCell ⟨gm, 5, none⟩ (.int .i64 a1)).setCell ⟨gm, 4, none⟩ (.int .i64 0)).setCell ⟨gm, 5, none⟩ (.int .i64 0)).setCell ⟨gm, 8, none⟩ (.int .i64 a0)).setCell ⟨gm, 9, none⟩ (.int .i64 a1)) w.heap.size 1 A5 n5 (cb left)) := ((((((hr5.setCell (p := ⟨gm, 4, none⟩) (Nat.le_of_lt hzG) (.int .i64 a0)).setCell (p := ⟨gm, 5, none⟩) (Nat.le_of_lt hzG) (.int .i64 a1)).setCell (p := ⟨gm, 4, none⟩) (Nat.le_of_lt hzG) (.int .i64 0)).setCell (p := ⟨gm, 5, none⟩) (Nat.le_of_lt hzG) (.int .i64 0)).setCell (p := ⟨gm, 8, none⟩) (Nat.le_of_lt hzG) (.int .i64 a0)).setCell (p := ⟨gm, 9, none⟩) (Nat.le_of_lt hzG) (.int .i64 a1))
    clear hr5 q2 x0 x1
    generalize ((((((w4.setCell ⟨gm, 4, none⟩ (.int .i64 a0)).setCell ⟨gm, 5, none⟩ (.int .i64 a1)).setCell ⟨gm, 4, none⟩ (.int .i64 0)).setCell ⟨gm, 5, none⟩ (.int .i64 0)).setCell ⟨gm, 8, none⟩ (.int .i64 a0)).setCell ⟨gm, 9, none⟩ (.int .i64 a1)) = W5 at *
    refine (rvalued_any 8 W5 (by omega) (by omega)).mono ?_
    rw [show Wp.valuedB 8 = false from rfl]
    rintro e w' ⟨rfl, rfl⟩
    have hln := HR5.out.len_b
    by_cases zn : n5 = 0
    rotate_left
    · have zz : (0 : Int) < (n5 : Int) := by omega
      have HE : Hid (R = none) := by rw [Hid, ← HR.out, Wp.rread2_plain (f := f) (t := t) (k := 8) (g := g) HF2.out rfl]; exact Wp.fin_no1 (fun e => by rw [e] at hln; simp at hln; omega)
      clear hln
      have BF := Lib.hid B5.out
      have z0 : W5.cell? ⟨w.heap.size, 0, none⟩ = some (.int .i64 0) := KG5.out.cell 0
      have fz0 := KG5.out.frozen 0
      have z1 : W5.cell? ⟨w.heap.size, 1, none⟩ = some (.int .i64 0) := KG5.out.cell 1
      have fz1 := KG5.out.frozen 1
      have z2 : W5.cell? ⟨w.heap.size, 2, none⟩ = some (.int .u8 0) := KG5.out.cell 2
      have fz2 := KG5.out.frozen 2
      have z3 : W5.cell? ⟨w.heap.size, 3, none⟩ = some (.int .i64 0) := KG5.out.cell 3
      have fz3 := KG5.out.frozen 3
      have z4 : W5.cell? ⟨w.heap.size, 4, none⟩ = some (.int .i64 0) := KG5.out.cell 4
      have fz4 := KG5.out.frozen 4
      have z5 : W5.cell? ⟨w.heap.size, 5, none⟩ = some (.int .i64 0) := KG5.out.cell 5
      have fz5 := KG5.out.frozen 5
      have z6 : W5.cell? ⟨w.heap.size, 6, none⟩ = some (.int .i64 0) := KG5.out.cell 6
      have fz6 := KG5.out.frozen 6
      have z7 : W5.cell? ⟨w.heap.size, 7, none⟩ = some (.string ⟨#[]⟩) := KG5.out.cell 7
      have fz7 := KG5.out.frozen 7
      have z8 : W5.cell? ⟨w.heap.size, 8, none⟩ = some (.int .i64 0) := KG5.out.cell 8
      have fz8 := KG5.out.frozen 8
      have z9 : W5.cell? ⟨w.heap.size, 9, none⟩ = some (.int .i64 0) := KG5.out.cell 9
      have fz9 := KG5.out.frozen 9
      go_wp2
      exact bodyPost_ret (v := .tuple #[.agg #[.int .i64 0, .int .i64 0, .int .u8 0, .int .i64 0, .int .i64 0, .int .i64 0, .int .i64 0, .string ⟨#[]⟩, .int .i64 0, .int .i64 0], .int .i64 8]) (by simp [results, Try.results24, go_sem, z0, z1, z2, z3, z4, z5, z6, z7, z8, z9]) rfl ⟨by rw [HE.out]; rfl, by repeat (first | with_reducible exact BF.out | with_reducible refine set_0 ?_ _ _)⟩
    · have HL0 : Hid (left = []) := List.eq_nil_of_length_eq_zero (by rw [hln]; exact zn)
      have zz : ¬ (0 : Int) < (n5 : Int) := by omega
      clear hln
      have CM := rmay23_any f t 8 g 0 0 0 ⟨#[]⟩ a0 a1 W5 (by decide)
      have y0 : W5.cell? ⟨gm, 0, none⟩ = some (.int .i64 f) := K5.out.cell 0
      have fy0 := K5.out.frozen 0
      have y1 : W5.cell? ⟨gm, 1, none⟩ = some (.int .i64 t) := K5.out.cell 1
      have fy1 := K5.out.frozen 1
      have y2 : W5.cell? ⟨gm, 2, none⟩ = some (.int .u8 8) := K5.out.cell 2
      have fy2 := K5.out.frozen 2
      have y3 : W5.cell? ⟨gm, 3, none⟩ = some (.int .i64 g) := K5.out.cell 3
      have fy3 := K5.out.frozen 3
      have y4 : W5.cell? ⟨gm, 4, none⟩ = some (.int .i64 0) := K5.out.cell 4
      have fy4 := K5.out.frozen 4
      have y5 : W5.cell? ⟨gm, 5, none⟩ = some (.int .i64 0) := K5.out.cell 5
      have fy5 := K5.out.frozen 5
      have y6 : W5.cell? ⟨gm, 6, none⟩ = some (.int .i64 0) := K5.out.cell 6
      have fy6 := K5.out.frozen 6
      have y7 : W5.cell? ⟨gm, 7, none⟩ = some (.string ⟨#[]⟩) := K5.out.cell 7
      have fy7 := K5.out.frozen 7
      have y8 : W5.cell? ⟨gm, 8, none⟩ = some (.int .i64 a0) := K5.out.cell 8
      have fy8 := K5.out.frozen 8
      have y9 : W5.cell? ⟨gm, 9, none⟩ = some (.int .i64 a1) := K5.out.cell 9
      have fy9 := K5.out.frozen 9
      cases hm : Wp.mayM ⟨f, t, 8, g, 0, 0, 0, [], a0, a1⟩ with
      | false =>
        have CX : Hid (Calls Try.prog 32 #[.agg #[.int .i64 f, .int .i64 t, .int .u8 8, .int .i64 g, .int .i64 0, .int .i64 0, .int .i64 0, .string ⟨#[]⟩, .int .i64 a0, .int .i64 a1]] W5 fun e w' => e = .returned (.bool false) ∧ Below W5.heap.size W5 w') := by
          rw [Hid, ← hm]; exact CM
        have HE : Hid (R = none) := by rw [Hid, ← HR.out, Wp.rread2_plain (f := f) (t := t) (k := 8) (g := g) HF2.out rfl]; exact Wp.fin_no2 hm
        clear CM hm
        go_wp2_with fail
        with_reducible refine CX.out.mono ?_
        rintro e w9 ⟨rfl, hb⟩
        have K9 := Lib.hid (K5.out.below hb K5.out.lt)
        have KG9 := Lib.hid (KG5.out.below hb KG5.out.lt)
        have B9 := Lib.hid (B5.out.trans (hb.mono B5.out.size))
        clear hb y0 fy0 y1 fy1 y2 fy2 y3 fy3 y4 fy4 y5 fy5 y6 fy6 y7 fy7 y8 fy8 y9 fy9
        have BF := Lib.hid B9.out
        have z0 : w9.cell? ⟨w.heap.size, 0, none⟩ = some (.int .i64 0) := KG9.out.cell 0
        have fz0 := KG9.out.frozen 0
        have z1 : w9.cell? ⟨w.heap.size, 1, none⟩ = some (.int .i64 0) := KG9.out.cell 1
        have fz1 := KG9.out.frozen 1
        have z2 : w9.cell? ⟨w.heap.size, 2, none⟩ = some (.int .u8 0) := KG9.out.cell 2
        have fz2 := KG9.out.frozen 2
        have z3 : w9.cell? ⟨w.heap.size, 3, none⟩ = some (.int .i64 0) := KG9.out.cell 3
        have fz3 := KG9.out.frozen 3
        have z4 : w9.cell? ⟨w.heap.size, 4, none⟩ = some (.int .i64 0) := KG9.out.cell 4
        have fz4 := KG9.out.frozen 4
        have z5 : w9.cell? ⟨w.heap.size, 5, none⟩ = some (.int .i64 0) := KG9.out.cell 5
        have fz5 := KG9.out.frozen 5
        have z6 : w9.cell? ⟨w.heap.size, 6, none⟩ = some (.int .i64 0) := KG9.out.cell 6
        have fz6 := KG9.out.frozen 6
        have z7 : w9.cell? ⟨w.heap.size, 7, none⟩ = some (.string ⟨#[]⟩) := KG9.out.cell 7
        have fz7 := KG9.out.frozen 7
        have z8 : w9.cell? ⟨w.heap.size, 8, none⟩ = some (.int .i64 0) := KG9.out.cell 8
        have fz8 := KG9.out.frozen 8
        have z9 : w9.cell? ⟨w.heap.size, 9, none⟩ = some (.int .i64 0) := KG9.out.cell 9
        have fz9 := KG9.out.frozen 9
        go_wp2
        exact bodyPost_ret (v := .tuple #[.agg #[.int .i64 0, .int .i64 0, .int .u8 0, .int .i64 0, .int .i64 0, .int .i64 0, .int .i64 0, .string ⟨#[]⟩, .int .i64 0, .int .i64 0], .int .i64 8]) (by simp [results, Try.results24, go_sem, z0, z1, z2, z3, z4, z5, z6, z7, z8, z9]) rfl ⟨by rw [HE.out]; rfl, by repeat (first | with_reducible exact BF.out | with_reducible refine set_0 ?_ _ _)⟩
      | true =>
        have CX : Hid (Calls Try.prog 32 #[.agg #[.int .i64 f, .int .i64 t, .int .u8 8, .int .i64 g, .int .i64 0, .int .i64 0, .int .i64 0, .string ⟨#[]⟩, .int .i64 a0, .int .i64 a1]] W5 fun e w' => e = .returned (.bool true) ∧ Below W5.heap.size W5 w') := by
          rw [Hid, ← hm]; exact CM
        have HE : Hid (R = some ⟨f, t, 8, g, 0, 0, 0, [], a0, a1⟩) := by rw [Hid, ← HR.out, Wp.rread2_plain (f := f) (t := t) (k := 8) (g := g) HF2.out rfl]; exact Wp.fin_yes HL0.out hm
        clear CM hm
        go_wp2_with fail
        with_reducible refine CX.out.mono ?_
        rintro e w9 ⟨rfl, hb⟩
        have K9 := Lib.hid (K5.out.below hb K5.out.lt)
        have KG9 := Lib.hid (KG5.out.below hb KG5.out.lt)
        have B9 := Lib.hid (B5.out.trans (hb.mono B5.out.size))
        clear hb y0 fy0 y1 fy1 y2 fy2 y3 fy3 y4 fy4 y5 fy5 y6 fy6 y7 fy7 y8 fy8 y9 fy9
        have BF := Lib.hid B9.out
        have z0 : w9.cell? ⟨w.heap.size, 0, none⟩ = some (.int .i64 0) := KG9.out.cell 0
        have fz0 := KG9.out.frozen 0
        have z1 : w9.cell? ⟨w.heap.size, 1, none⟩ = some (.int .i64 0) := KG9.out.cell 1
        have fz1 := KG9.out.frozen 1
        have z2 : w9.cell? ⟨w.heap.size, 2, none⟩ = some (.int .u8 0) := KG9.out.cell 2
        have fz2 := KG9.out.frozen 2
        have z3 : w9.cell? ⟨w.heap.size, 3, none⟩ = some (.int .i64 0) := KG9.out.cell 3
        have fz3 := KG9.out.frozen 3
        have z4 : w9.cell? ⟨w.heap.size, 4, none⟩ = some (.int .i64 0) := KG9.out.cell 4
        have fz4 := KG9.out.frozen 4
        have z5 : w9.cell? ⟨w.heap.size, 5, none⟩ = some (.int .i64 0) := KG9.out.cell 5
        have fz5 := KG9.out.frozen 5
        have z6 : w9.cell? ⟨w.heap.size, 6, none⟩ = some (.int .i64 0) := KG9.out.cell 6
        have fz6 := KG9.out.frozen 6
        have z7 : w9.cell? ⟨w.heap.size, 7, none⟩ = some (.string ⟨#[]⟩) := KG9.out.cell 7
        have fz7 := KG9.out.frozen 7
        have z8 : w9.cell? ⟨w.heap.size, 8, none⟩ = some (.int .i64 0) := KG9.out.cell 8
        have fz8 := KG9.out.frozen 8
        have z9 : w9.cell? ⟨w.heap.size, 9, none⟩ = some (.int .i64 0) := KG9.out.cell 9
        have fz9 := KG9.out.frozen 9
        have y0 : w9.cell? ⟨gm, 0, none⟩ = some (.int .i64 f) := K9.out.cell 0
        have y1 : w9.cell? ⟨gm, 1, none⟩ = some (.int .i64 t) := K9.out.cell 1
        have y2 : w9.cell? ⟨gm, 2, none⟩ = some (.int .u8 8) := K9.out.cell 2
        have y3 : w9.cell? ⟨gm, 3, none⟩ = some (.int .i64 g) := K9.out.cell 3
        have y4 : w9.cell? ⟨gm, 4, none⟩ = some (.int .i64 0) := K9.out.cell 4
        have y5 : w9.cell? ⟨gm, 5, none⟩ = some (.int .i64 0) := K9.out.cell 5
        have y6 : w9.cell? ⟨gm, 6, none⟩ = some (.int .i64 0) := K9.out.cell 6
        have y7 : w9.cell? ⟨gm, 7, none⟩ = some (.string ⟨#[]⟩) := K9.out.cell 7
        have y8 : w9.cell? ⟨gm, 8, none⟩ = some (.int .i64 a0) := K9.out.cell 8
        have y9 : w9.cell? ⟨gm, 9, none⟩ = some (.int .i64 a1) := K9.out.cell 9
        go_wp2
        exact bodyPost_ret (v := .tuple #[.agg #[.int .i64 f, .int .i64 t, .int .u8 8, .int .i64 g, .int .i64 0, .int .i64 0, .int .i64 0, .string ⟨#[]⟩, .int .i64 a0, .int .i64 a1], .int .i64 0]) (by simp [results, Try.results24, go_sem, z0, z1, z2, z3, z4, z5, z6, z7, z8, z9]) rfl ⟨by rw [HE.out]; rfl, by repeat (first | with_reducible exact BF.out | with_reducible refine set_0 ?_ _ _)⟩
end Go.Proofs.Ytdodfpjejjjciaa
