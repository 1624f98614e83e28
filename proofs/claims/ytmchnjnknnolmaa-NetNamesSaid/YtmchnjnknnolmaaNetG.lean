/-
  Layer 24: the laws' first example.
-/
import Derived.Test.YtmchnjnknnolmaaNetF
namespace Go.Proofs.Ytmchnjnknnolmaa
open Go.RowKit Bal Go.Sort Go.BigFrame
set_option maxHeartbeats 4000000
set_option maxRecDepth 100000
set_option linter.unusedVariables false
set_option linter.unusedSimpArgs false

theorem new_mail (w : World) (m : Wp.Mail) : Reads (w.alloc (.cells (mA m) 25)) (w.alloc (.cells (mA m) 25)).heap.size 10 (some ⟨w.heap.size, 0, none⟩) 1 (cm [m]) := by
  refine ⟨rfl, fun _ => ⟨⟨w.heap.size, 0, none⟩, rfl, by simp, fun j u hu => ?_⟩⟩
  rw [Addr.add_mid, Nat.zero_add, (Blk.new w 25 (mA m)).cell j]
  simpa [cm, mcells] using hu
theorem mEq (m : Wp.Mail) (w : World) : (binOp .eql 25 (.agg (mA m)) (.agg (mA m))).run Try.prog w = .ok (.bool true) w := by
  have h := mail_eq m.f m.t m.k m.g m.s m.b m.p m.i m.tm m.f m.t m.k m.g m.s m.b m.p m.i m.tm (S m.v) (S m.v) w
  rw [mail_self] at h
  exact h
theorem mEqIn (m : Wp.Mail) (w : World) : (Op.equalIn 10000 25 (.agg (mA m)) (.agg (mA m))).run Try.prog w = .ok true w := by
  rw [mail_eqInM]
  simp [eqM]
def zMm : Wp.Mail := ⟨0, 0, 0, 0, 0, 0, 0, [], 0, 0⟩
theorem zMm_A : mA zMm = #[.int .i64 0, .int .i64 0, .int .u8 0, .int .i64 0, .int .i64 0, .int .i64 0, .int .i64 0, .string ⟨#[]⟩, .int .i64 0, .int .i64 0] := rfl
theorem zMm_is : IsMailM zMm := by
  have z : inI 0 := ⟨by omega, by omega⟩
  exact ⟨⟨by decide, by decide⟩, by decide, z, z, z, z, z, z, z, z⟩
theorem zMm_bad : badB zMm = true := by decide +kernel
theorem alive24 (w : World) : Calls Try.prog 16 #[] w fun e w' => e = .returned (.bool true) ∧ Below w.heap.size w w' := by
  have zq := fun w => mEq wM w
  have zq2 := fun w => mEqIn wM w
  rw [wM_A] at zq zq2
  go_enter Try.func16, Try.ntmps16
  go_wp2_with fail
  refine (nwish_any _).mono ?_
  rintro e w1 ⟨rfl, hb⟩
  have B1 := Lib.hid (hb.alloc hb.size (.cells #[.int .i64 1, .int .i64 2, .int .u8 9, .int .i64 0, .int .i64 0, .int .i64 0, .int .i64 0, .string ⟨#[118]⟩, .int .i64 0, .int .i64 0] 25))
  have N1 := Lib.hid (new_mail w1 wM)
  clear hb
  go_wp2_with fail
  have HS := nsend_ok none (some ⟨w1.heap.size, 0, none⟩) 0 0 1 1 [] [wM] (w1.alloc (.cells #[.int .i64 1, .int .i64 2, .int .u8 9, .int .i64 0, .int .i64 0, .int .i64 0, .int .i64 0, .string ⟨#[118]⟩, .int .i64 0, .int .i64 0] 25)) Reads.none_ N1.out (by simp) (by simp only [List.mem_singleton, forall_eq]; exact wM_is) (by omega) (by omega) (by decide +kernel) (by decide +kernel) (by omega)
  rw [Nat.zero_add, List.nil_append] at HS
  refine HS.mono ?_
  clear HS
  rintro e w2 ⟨A2, c2, rfl, ho, hb⟩
  have B2 := Lib.hid (B1.out.trans (hb.mono B1.out.size))
  obtain ⟨A', c', e, hr2, hc2, -⟩ := own_formN ho
  injection e with eA _ ec
  subst eA ec
  have R2 := Lib.hid hr2
  clear hb ho hr2 N1
  go_wp2_with fail
  have HT := ntake_ok A2 1 c2 [wM] w2 R2.out hc2 (by simp only [List.mem_singleton, forall_eq]; exact wM_is) (by omega) 0 wM rfl (by decide +kernel)
  rw [Int.natCast_zero, wM_A, show 1 - 1 = 0 from rfl] at HT
  refine HT.mono ?_
  clear HT
  rintro e w3 ⟨A3, c3, rfl, -, hb⟩
  have B3 := Lib.hid ((B2.out.trans (hb.mono B2.out.size)).alloc (B2.out.trans (hb.mono B2.out.size)).size (.cells #[.int .i64 1, .int .i64 2, .int .u8 9, .int .i64 0, .int .i64 0, .int .i64 0, .int .i64 0, .string ⟨#[118]⟩, .int .i64 0, .int .i64 0] 25))
  have K3 := Lib.hid (Blk.new w3 25 #[.int .i64 1, .int .i64 2, .int .u8 9, .int .i64 0, .int .i64 0, .int .i64 0, .int .i64 0, .string ⟨#[118]⟩, .int .i64 0, .int .i64 0])
  clear hb R2
  go_upto_region 3 with fail
  generalize w3.alloc (.cells #[.int .i64 1, .int .i64 2, .int .u8 9, .int .i64 0, .int .i64 0, .int .i64 0, .int .i64 0, .string ⟨#[118]⟩, .int .i64 0, .int .i64 0] 25) = W at *
  have F1 := Lib.hid (qb (W := W) fun cur _ => nwish_any cur)
  have x0 := cell_regrown (K3.out.cell 0)
  have x1 := cell_regrown (K3.out.cell 1)
  have x2 := cell_regrown (K3.out.cell 2)
  have x3 := cell_regrown (K3.out.cell 3)
  have x4 := cell_regrown (K3.out.cell 4)
  have x5 := cell_regrown (K3.out.cell 5)
  have x6 := cell_regrown (K3.out.cell 6)
  have x7 := cell_regrown (K3.out.cell 7)
  have x8 := cell_regrown (K3.out.cell 8)
  have x9 := cell_regrown (K3.out.cell 9)
  refine wp_region_quiet_below (by kernel_rfl) (by kernel_rfl) ?_
  repeat (go_big_quiet_step ((first | with_reducible exact F1.out _ _)))
  refine wpQuiet_nil ?_
  intro _ hw'
  obtain ⟨⟨dq, osq⟩, hw''⟩ := hw'
  subst hw''
  go_wp2
  go_ret
  exact ⟨rfl, then_ B3.out (below_regrown _ _ _)⟩
end Go.Proofs.Ytmchnjnknnolmaa
