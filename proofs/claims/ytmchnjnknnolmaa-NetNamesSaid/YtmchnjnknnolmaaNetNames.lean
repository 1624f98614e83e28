/-
  Layer 24: NetNames' walk.
-/
import Derived.Test.YtmchnjnknnolmaaNetG
import Derived.Test.YtmchnjnknnolmaaOrders
import Derived.Deep.RegionWith
import Derived.Laws.MakeOwn
namespace Go.Proofs.Ytmchnjnknnolmaa
open Go.RowKit Bal Go.Sort Go.BigFrame
set_option maxHeartbeats 4000000
set_option maxRecDepth 100000
set_option linter.unusedVariables false
set_option linter.unusedSimpArgs false

theorem un_drew {w w1 : World} (h : Below w.drew.heap.size w.drew w1) : Below w.heap.size w w1 := ⟨h.os, h.tape, h.output, h.size, h.block⟩
theorem one_is {m : Wp.Mail} (h : IsMailM m) : ∀ x ∈ [m], IsMailM x := by simp only [List.mem_singleton, forall_eq]; exact h
theorem make_mail1 (w : World) : (Instr.makeSlice 22 (.int .i64 1) (.int .i64 1)).run Try.prog w = .ok (.slice (some ⟨w.heap.size, 0, none⟩) 1 1) (w.alloc (.cells #[.int .i64 0, .int .i64 0, .int .u8 0, .int .i64 0, .int .i64 0, .int .i64 0, .int .i64 0, .string ⟨#[]⟩, .int .i64 0, .int .i64 0] 25)) := by
  obtain ⟨i0, hi0, hz0, hz1, hz2⟩ := info_parts mail_info
  have := run_make (P := Try.prog) w 22 25 i0 zMail Try.underlying22 hi0 hz0 .i64 .i64 1 1 (by omega) (by omega) (by rw [hz2]; omega) (by omega)
  rw [this, hz1]
  have e : madeCells zMail.cells (Int.toNat 1 * 10) = #[.int .i64 0, .int .i64 0, .int .u8 0, .int .i64 0, .int .i64 0, .int .i64 0, .int .i64 0, .string ⟨#[]⟩, .int .i64 0, .int .i64 0] := by kernel_rfl
  rw [e]
  rfl
theorem netNames_walk (w : World) : Calls Try.prog 6 #[] w fun e w' => e = .returned (.bool true) ∧ Below w.heap.size w w' := by
  have zq := fun w => mEq wM w
  have zq2 := fun w => mEqIn wM w
  rw [wM_A] at zq zq2
  have hmk := make_mail1
  go_enter Try.func6, Try.ntmps6
  go_wp2_with fail
  refine (nwish_any _).mono ?_
  rintro e w1 ⟨rfl, hb⟩
  have B1 := Lib.hid (hb.alloc hb.size (.cells #[.int .i64 1, .int .i64 2, .int .u8 9, .int .i64 0, .int .i64 0, .int .i64 0, .int .i64 0, .string ⟨#[118]⟩, .int .i64 0, .int .i64 0] 25))
  have N1 : Hid (Reads (w1.alloc (.cells #[.int .i64 1, .int .i64 2, .int .u8 9, .int .i64 0, .int .i64 0, .int .i64 0, .int .i64 0, .string ⟨#[118]⟩, .int .i64 0, .int .i64 0] 25)) (w1.alloc (.cells #[.int .i64 1, .int .i64 2, .int .u8 9, .int .i64 0, .int .i64 0, .int .i64 0, .int .i64 0, .string ⟨#[118]⟩, .int .i64 0, .int .i64 0] 25)).heap.size 10 (some ⟨w1.heap.size, 0, none⟩) 1 (cm [wM])) := new_mail w1 wM
  clear hb
  go_wp2_with fail
  generalize w1.alloc (.cells #[.int .i64 1, .int .i64 2, .int .u8 9, .int .i64 0, .int .i64 0, .int .i64 0, .int .i64 0, .string ⟨#[118]⟩, .int .i64 0, .int .i64 0] 25) = W1 at *
  obtain ⟨g0, hg0⟩ : ∃ x, w1.heap.size = x := ⟨_, rfl⟩
  rw [hg0] at N1
  rw [hg0]
  clear hg0
  have hok : okMails [wM] = true := by decide +kernel
  have HOK := Lib.hid hok
  clear hok
  have HC := ncopy_ok (some ⟨g0, 0, none⟩) 1 1 [wM] W1 N1.out (Nat.le_refl _) (one_is wM_is) (by omega) 0 wM rfl HOK.out
  rw [Int.natCast_zero, wM_A] at HC
  refine HC.mono ?_
  clear HC
  rintro e w2 ⟨rfl, hb⟩
  have B2 := Lib.hid ((B1.out.trans (hb.mono B1.out.size)).alloc (B1.out.trans (hb.mono B1.out.size)).size (.cells #[.int .i64 1, .int .i64 2, .int .u8 9, .int .i64 0, .int .i64 0, .int .i64 0, .int .i64 0, .string ⟨#[118]⟩, .int .i64 0, .int .i64 0] 25))
  have BB := Lib.hid (show Below W1.heap.size W1 (w2.alloc (.cells #[.int .i64 1, .int .i64 2, .int .u8 9, .int .i64 0, .int .i64 0, .int .i64 0, .int .i64 0, .string ⟨#[118]⟩, .int .i64 0, .int .i64 0] 25)) from hb.alloc hb.size _)
  have K2 := Lib.hid (Blk.new w2 25 #[.int .i64 1, .int .i64 2, .int .u8 9, .int .i64 0, .int .i64 0, .int .i64 0, .int .i64 0, .string ⟨#[118]⟩, .int .i64 0, .int .i64 0])
  have R2 := Lib.hid ((N1.out.below BB.out).more BB.out.size)
  clear hb
  go_wp2_with fail
  generalize w2.alloc (.cells #[.int .i64 1, .int .i64 2, .int .u8 9, .int .i64 0, .int .i64 0, .int .i64 0, .int .i64 0, .string ⟨#[118]⟩, .int .i64 0, .int .i64 0] 25) = W2 at *
  obtain ⟨gb, hgb⟩ : ∃ x, w2.heap.size = x := ⟨_, rfl⟩
  rw [hgb] at K2
  rw [hgb]
  clear hgb BB N1
  have HX := ndrop_arg (some ⟨g0, 0, none⟩) 1 1 [wM] W2 R2.out (Nat.le_refl _) (one_is wM_is) (by omega) 1 (Or.inr (by omega)) HOK.out
  refine HX.mono ?_
  clear HX
  rintro e W3 ⟨rfl, hb⟩
  have B3 := Lib.hid (B2.out.trans (hb.mono B2.out.size))
  have K3 := Lib.hid (K2.out.below hb K2.out.lt)
  have R3 := Lib.hid ((R2.out.below hb).more hb.size)
  clear hb B2 K2 R2
  go_wp2_with fail
  have HX := nbetween_arg (some ⟨g0, 0, none⟩) 1 1 [wM] W3 R3.out (Nat.le_refl _) (one_is wM_is) (by omega) 6 0 (by omega) HOK.out
  refine HX.mono ?_
  clear HX
  rintro e W4 ⟨rfl, hb⟩
  have B4 := Lib.hid (B3.out.trans (hb.mono B3.out.size))
  have K4 := Lib.hid (K3.out.below hb K3.out.lt)
  have R4 := Lib.hid ((R3.out.below hb).more hb.size)
  clear hb B3 K3 R3
  go_wp2_with fail
  have NZ : Hid (Reads (W4.alloc (.cells #[.int .i64 0, .int .i64 0, .int .u8 0, .int .i64 0, .int .i64 0, .int .i64 0, .int .i64 0, .string ⟨#[]⟩, .int .i64 0, .int .i64 0] 25)) (W4.alloc (.cells #[.int .i64 0, .int .i64 0, .int .u8 0, .int .i64 0, .int .i64 0, .int .i64 0, .int .i64 0, .string ⟨#[]⟩, .int .i64 0, .int .i64 0] 25)).heap.size 10 (some ⟨W4.heap.size, 0, none⟩) 1 (cm [zMm])) := new_mail W4 zMm
  have BZ := Lib.hid (B4.out.alloc B4.out.size (.cells #[.int .i64 0, .int .i64 0, .int .u8 0, .int .i64 0, .int .i64 0, .int .i64 0, .int .i64 0, .string ⟨#[]⟩, .int .i64 0, .int .i64 0] 25))
  have KZ := Lib.hid (K4.out.alloc (.cells #[.int .i64 0, .int .i64 0, .int .u8 0, .int .i64 0, .int .i64 0, .int .i64 0, .int .i64 0, .string ⟨#[]⟩, .int .i64 0, .int .i64 0] 25))
  have RZ : Hid (Reads (W4.alloc (.cells #[.int .i64 0, .int .i64 0, .int .u8 0, .int .i64 0, .int .i64 0, .int .i64 0, .int .i64 0, .string ⟨#[]⟩, .int .i64 0, .int .i64 0] 25)) (W4.alloc (.cells #[.int .i64 0, .int .i64 0, .int .u8 0, .int .i64 0, .int .i64 0, .int .i64 0, .int .i64 0, .string ⟨#[]⟩, .int .i64 0, .int .i64 0] 25)).heap.size 10 (some ⟨g0, 0, none⟩) 1 (cm [wM])) := (R4.out.alloc (Nat.le_refl _) (.cells #[.int .i64 0, .int .i64 0, .int .u8 0, .int .i64 0, .int .i64 0, .int .i64 0, .int .i64 0, .string ⟨#[]⟩, .int .i64 0, .int .i64 0] 25)).more (by simp)
  generalize W4.alloc (.cells #[.int .i64 0, .int .i64 0, .int .u8 0, .int .i64 0, .int .i64 0, .int .i64 0, .int .i64 0, .string ⟨#[]⟩, .int .i64 0, .int .i64 0] 25) = WZ4 at *
  clear B4 K4 R4
  have HX := nsend_bad (some ⟨g0, 0, none⟩) (some ⟨W4.heap.size, 0, none⟩) 1 1 1 1 [wM] [zMm] WZ4 RZ.out NZ.out (one_is wM_is) (one_is zMm_is) (by omega) (by omega) (Or.inr (by decide +kernel))
  refine HX.mono ?_
  clear HX
  rintro e W5 ⟨rfl, hb⟩
  have B5 := Lib.hid (BZ.out.trans (hb.mono BZ.out.size))
  have K5 := Lib.hid (KZ.out.below hb KZ.out.lt)
  have R5 := Lib.hid ((RZ.out.below hb).more hb.size)
  clear hb BZ KZ RZ NZ
  go_wp2_with fail
  have HX := nbetween_ok (some ⟨g0, 0, none⟩) 1 1 [wM] W5 R5.out (Nat.le_refl _) (one_is wM_is) (by omega) 1 2 (by omega) (by omega) HOK.out 1 [0] (by decide +kernel) rfl
  refine HX.mono ?_
  clear HX
  rintro e W6 ⟨A6, c6, rfl, -, hb⟩
  have B6 := Lib.hid (B5.out.trans (hb.mono B5.out.size))
  have K6 := Lib.hid (K5.out.below hb K5.out.lt)
  have R6 := Lib.hid ((R5.out.below hb).more hb.size)
  clear hb B5 K5 R5
  go_wp2_with fail
  have NZ : Hid (Reads (W6.alloc (.cells #[.int .i64 0, .int .i64 0, .int .u8 0, .int .i64 0, .int .i64 0, .int .i64 0, .int .i64 0, .string ⟨#[]⟩, .int .i64 0, .int .i64 0] 25)) (W6.alloc (.cells #[.int .i64 0, .int .i64 0, .int .u8 0, .int .i64 0, .int .i64 0, .int .i64 0, .int .i64 0, .string ⟨#[]⟩, .int .i64 0, .int .i64 0] 25)).heap.size 10 (some ⟨W6.heap.size, 0, none⟩) 1 (cm [zMm])) := new_mail W6 zMm
  have BZ := Lib.hid (B6.out.alloc B6.out.size (.cells #[.int .i64 0, .int .i64 0, .int .u8 0, .int .i64 0, .int .i64 0, .int .i64 0, .int .i64 0, .string ⟨#[]⟩, .int .i64 0, .int .i64 0] 25))
  have KZ := Lib.hid (K6.out.alloc (.cells #[.int .i64 0, .int .i64 0, .int .u8 0, .int .i64 0, .int .i64 0, .int .i64 0, .int .i64 0, .string ⟨#[]⟩, .int .i64 0, .int .i64 0] 25))
  have RZ : Hid (Reads (W6.alloc (.cells #[.int .i64 0, .int .i64 0, .int .u8 0, .int .i64 0, .int .i64 0, .int .i64 0, .int .i64 0, .string ⟨#[]⟩, .int .i64 0, .int .i64 0] 25)) (W6.alloc (.cells #[.int .i64 0, .int .i64 0, .int .u8 0, .int .i64 0, .int .i64 0, .int .i64 0, .int .i64 0, .string ⟨#[]⟩, .int .i64 0, .int .i64 0] 25)).heap.size 10 (some ⟨g0, 0, none⟩) 1 (cm [wM])) := (R6.out.alloc (Nat.le_refl _) (.cells #[.int .i64 0, .int .i64 0, .int .u8 0, .int .i64 0, .int .i64 0, .int .i64 0, .int .i64 0, .string ⟨#[]⟩, .int .i64 0, .int .i64 0] 25)).more (by simp)
  generalize W6.alloc (.cells #[.int .i64 0, .int .i64 0, .int .u8 0, .int .i64 0, .int .i64 0, .int .i64 0, .int .i64 0, .string ⟨#[]⟩, .int .i64 0, .int .i64 0] 25) = WZ6 at *
  clear B6 K6 R6
  have HX := nsend_bad (some ⟨g0, 0, none⟩) (some ⟨W6.heap.size, 0, none⟩) 1 1 1 1 [wM] [zMm] WZ6 RZ.out NZ.out (one_is wM_is) (one_is zMm_is) (by omega) (by omega) (Or.inr (by decide +kernel))
  refine HX.mono ?_
  clear HX
  rintro e W7 ⟨rfl, hb⟩
  have B7 := Lib.hid (BZ.out.trans (hb.mono BZ.out.size))
  have K7 := Lib.hid (KZ.out.below hb KZ.out.lt)
  have R7 := Lib.hid ((RZ.out.below hb).more hb.size)
  clear hb BZ KZ RZ NZ
  go_upto_region 8 with fail
  have hgb := K7.out.lt
  have y0 : W7.cell? ⟨gb, 0, none⟩ = some (.int .i64 1) := K7.out.cell 0
  have y1 : W7.cell? ⟨gb, 1, none⟩ = some (.int .i64 2) := K7.out.cell 1
  have y2 : W7.cell? ⟨gb, 2, none⟩ = some (.int .u8 9) := K7.out.cell 2
  have y3 : W7.cell? ⟨gb, 3, none⟩ = some (.int .i64 0) := K7.out.cell 3
  have y4 : W7.cell? ⟨gb, 4, none⟩ = some (.int .i64 0) := K7.out.cell 4
  have y5 : W7.cell? ⟨gb, 5, none⟩ = some (.int .i64 0) := K7.out.cell 5
  have y6 : W7.cell? ⟨gb, 6, none⟩ = some (.int .i64 0) := K7.out.cell 6
  have y7 : W7.cell? ⟨gb, 7, none⟩ = some (.string ⟨#[118]⟩) := K7.out.cell 7
  have y8 : W7.cell? ⟨gb, 8, none⟩ = some (.int .i64 0) := K7.out.cell 8
  have y9 : W7.cell? ⟨gb, 9, none⟩ = some (.int .i64 0) := K7.out.cell 9
  refine wp_region_any (by kernel_rfl) ?_
  refine any_path' 40 [0, 1, 2, 3] rfl (by kernel_rfl) (by kernel_rfl) ?_
  simp only [opsAt, List.filterMap_cons, List.filterMap_nil, List.getElem?_toArray, List.getElem?_cons_zero, List.getElem?_cons_succ]
  go_wp2_with fail
  refine (alive24 _).mono ?_
  rintro e w8 ⟨rfl, hb⟩
  have hb := un_drew hb
  have B8 := Lib.hid (B7.out.trans (hb.mono B7.out.size))
  have K8 := Lib.hid (K7.out.below hb K7.out.lt)
  clear hb y0 y1 y2 y3 y4 y5 y6 y7 y8 y9
  go_wp2_with fail
  simp only [Qn]
  refine any_two (i := 4) (j := 5) (by kernel_rfl) rfl rfl ?_ ?_
  · skip
    have y0 := K8.out.cell 0
    have y1 := K8.out.cell 1
    have y2 := K8.out.cell 2
    have y3 := K8.out.cell 3
    have y4 := K8.out.cell 4
    have y5 := K8.out.cell 5
    have y6 := K8.out.cell 6
    have y7 := K8.out.cell 7
    have y8 := K8.out.cell 8
    have y9 := K8.out.cell 9
    go_wp2_with fail
    simp only [Qn]
    clear y0 y1 y2 y3 y4 y5 y6 y7 y8 y9
    refine any_path' 0 [5, 6, 7, 8, 9, 10, 11, 12, 13, 14, 15, 16, 17, 18, 19, 20, 21, 22, 23, 24, 25, 26, 27, 28, 29, 30, 31, 32, 33, 34, 35, 36, 37, 38, 39, 40, 41, 42, 43] rfl (by kernel_rfl) (by kernel_rfl) ?_
    simp only [opsAt, List.filterMap_cons, List.filterMap_nil, List.getElem?_toArray, List.getElem?_cons_zero, List.getElem?_cons_succ]
    go_wp2_with fail
    refine (nwish_any _).mono ?_
    rintro e w9 ⟨rfl, hb⟩
    have B9 := Lib.hid (B8.out.trans (hb.mono B8.out.size))
    clear hb
    go_wp2_with fail
    refine (ncheck_any _ 1 1 [zMm] _ false (by decide +kernel) (new_mail w9 zMm) (one_is zMm_is) (by omega)).mono ?_
    rintro e w10 ⟨rfl, hb⟩
    have B10 := Lib.hid (below_of_alloc (hb.mono (B' := w.heap.size) (by have := B9.out.size; simp; omega)) B9.out.size)
    have B11 := Lib.hid (B9.out.trans B10.out)
    clear hb
    go_wp2_with fail
    simp only [Qn]
    refine any_end (by kernel_rfl) ?_
    go_wp2
    go_ret
    exact ⟨rfl, B11.out⟩
  · go_wp2_with fail
    refine (nwish_any _).mono ?_
    rintro e w9 ⟨rfl, hb⟩
    have B9 := Lib.hid (B8.out.trans (hb.mono B8.out.size))
    have K9 := Lib.hid (K8.out.below hb K8.out.lt)
    clear hb
    go_wp2_with fail
    simp only [Qn]
    have y0 := K9.out.cell 0
    have y1 := K9.out.cell 1
    have y2 := K9.out.cell 2
    have y3 := K9.out.cell 3
    have y4 := K9.out.cell 4
    have y5 := K9.out.cell 5
    have y6 := K9.out.cell 6
    have y7 := K9.out.cell 7
    have y8 := K9.out.cell 8
    have y9 := K9.out.cell 9
    refine any_path' 0 [4, 6, 7, 8, 9, 10, 11, 12, 13, 14, 15, 16, 17, 18, 19, 20, 21, 22, 23, 24, 25, 26, 27, 28, 29, 30, 31, 32, 33, 34, 35, 36, 37, 38, 39, 40, 41, 42, 43] rfl (by kernel_rfl) (by kernel_rfl) ?_
    simp only [opsAt, List.filterMap_cons, List.filterMap_nil, List.getElem?_toArray, List.getElem?_cons_zero, List.getElem?_cons_succ]
    go_wp2_with fail
    refine (ncheck_any _ 1 1 [zMm] _ false (by decide +kernel) (new_mail w9 zMm) (one_is zMm_is) (by omega)).mono ?_
    rintro e w10 ⟨rfl, hb⟩
    have B10 := Lib.hid (below_of_alloc (hb.mono (B' := w.heap.size) (by have := B9.out.size; simp; omega)) B9.out.size)
    have B11 := Lib.hid (B9.out.trans B10.out)
    clear hb
    go_wp2_with fail
    simp only [Qn]
    refine any_end (by kernel_rfl) ?_
    go_wp2
    go_ret
    exact ⟨rfl, B11.out⟩
end Go.Proofs.Ytmchnjnknnolmaa
