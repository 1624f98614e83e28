/-
  Layer 7: VoteNames' walk: the chapter's examples.
-/
import Derived.Test.YtaajfilecmgcnaaVoteRises
import Derived.Test.YtaajfilecmgcnaaMake
import Derived.Deep.DeepCutAuto
import Derived.Deep.RegionWith
namespace Go.Proofs.Ytaajfilecmgcnaa
open Go.RowKit Bal
set_option maxHeartbeats 8000000
set_option maxRecDepth 100000
set_option linter.unusedVariables false

/-- 1,025 bytes. -/
def longS : ByteArray := S (List.replicate 1025 0)
theorem longS_size : longS.size = 1025 := by unfold longS; rw [S_size, List.length_replicate]
theorem conv_long {w : World} {g : Nat} (h : Blk w g 5 (zeroBytes 1025)) : (convert 30 9 (.slice (some ⟨g, 0, none⟩) 1025 1025)).run Try.prog w = .ok (.string longS) w := conv_zero h

/-- What the drawn statement keeps. -/
def NSt (w : World) (g : Nat) (g7 : Nat) (w' : World) : Prop := Vb w' g 17 8 ⟨#[120]⟩ ∧ Vb w' g7 17 17 ⟨#[121]⟩ ∧ Below w.heap.size w w'
theorem NSt.all {w w' : World} {g g7 : Nat} (h : NSt w g g7 w') : w'.cell? ⟨g, 0, none⟩ = some (.int .i64 17) ∧ w'.cell? ⟨g, 1, none⟩ = some (.int .i64 8) ∧ w'.cell? ⟨g, 2, none⟩ = some (.string ⟨#[120]⟩) ∧ NSt w g g7 w' :=
  ⟨h.1.use.1, h.1.use.2.1, h.1.use.2.2.1, h⟩
theorem NSt.drew {w w' : World} {g g7 : Nat} (h : NSt w g g7 w') : NSt w g g7 w'.drew := ⟨h.1, h.2.1, h.2.2.drew⟩
theorem NSt.next {w w' w'' : World} {g g7 : Nat} (h : NSt w g g7 w') (hb : Below w'.heap.size w' w'') : NSt w g g7 w'' := ⟨h.1.kept hb, h.2.1.kept hb, h.2.2.trans (hb.mono h.2.2.size)⟩
theorem NSt.alloc {w w' : World} {g g7 : Nat} (h : NSt w g g7 w') (o : Obj) : NSt w g g7 (w'.alloc o) := h.next ((Below.refl _ _).alloc (Nat.le_refl _) o)
theorem NSt.set {w w' : World} {g g7 : Nat} (h : NSt w g g7 w') {x : Addr} (h1 : g ≠ x.block) (h2 : g7 ≠ x.block) (h3 : w.heap.size ≤ x.block) (u : Value) : NSt w g g7 (w'.setCell x u) := ⟨Blk.far h.1 h1 u, Blk.far h.2.1 h2 u, h.2.2.setCell h3 u⟩

theorem voteNames_walk (w : World) : Calls Try.prog 3 #[] w fun e w' => e = .returned (.bool true) ∧ Below w.heap.size w w' := by
  go_enter Try.func3, Try.ntmps3
  go_wp2_with fail
  refine (three_any _).mono ?_
  rintro e w1 ⟨rfl, hb1⟩
  have B1 := Lib.hid hb1
  clear hb1
  go_wp2_with fail
  refine (vacc_bad 17 8 ⟨#[120]⟩ 8 ⟨#[121]⟩ _ (by decide) (by decide) (by omega) (by omega) (by omega) (by omega) (by omega) (by omega) 70 (by decide +kernel) (by decide)).mono ?_
  rintro e w2 ⟨rfl, hb2⟩
  have K0 := Lib.hid (Vb.new hb2)
  have B2 := Lib.hid (B1.out.trans (below_of_alloc (hb2.mono (B' := w.heap.size) (by simp; have := B1.out.size; omega)) B1.out.size))
  clear hb2
  obtain ⟨c00, c01, c02, n0, l0⟩ := K0.out.use
  go_wp2_with fail
  refine (vprep_bad 17 8 ⟨#[120]⟩ 9 _ (by decide) (by omega) (by omega) (by omega) (by omega) (by omega) (by omega) 70 (by decide +kernel) (by decide)).mono ?_
  rintro e w3 ⟨rfl, hb3⟩
  have K0 := Lib.hid (K0.out.next hb3)
  have K1 := Lib.hid (Vb.new hb3)
  have B3 := Lib.hid (B2.out.trans (below_of_alloc (hb3.mono (B' := w.heap.size) (by simp; have := B2.out.size; omega)) B2.out.size))
  clear c00 c01 c02 n0 l0
  clear hb3
  obtain ⟨c00, c01, c02, n0, l0⟩ := K0.out.use
  obtain ⟨c10, c11, c12, n1, l1⟩ := K1.out.use
  go_wp2_with fail
  refine (vacc_ok 17 8 ⟨#[120]⟩ 17 ⟨#[121]⟩ _ (by decide) (by decide) (by omega) (by omega) (by omega) (by omega) (by omega) (by omega) (by decide +kernel)).mono ?_
  rintro e w4 ⟨rfl, hb4⟩
  have K0 := Lib.hid (K0.out.next hb4)
  have K1 := Lib.hid (K1.out.next hb4)
  have K2 := Lib.hid (Vb.new hb4)
  have B4 := Lib.hid (B3.out.trans (below_of_alloc (hb4.mono (B' := w.heap.size) (by simp; have := B3.out.size; omega)) B3.out.size))
  clear c00 c01 c02 n0 l0 c10 c11 c12 n1 l1
  clear hb4
  obtain ⟨c00, c01, c02, n0, l0⟩ := K0.out.use
  obtain ⟨c10, c11, c12, n1, l1⟩ := K1.out.use
  obtain ⟨c20, c21, c22, n2, l2⟩ := K2.out.use
  go_wp2_with fail
  refine (vprep_bad 0 0 ⟨#[]⟩ 7 _ (by decide) (by omega) (by omega) (by omega) (by omega) (by omega) (by omega) 50 (by decide +kernel) (by decide)).mono ?_
  rintro e w5 ⟨rfl, hb5⟩
  have K0 := Lib.hid (K0.out.next hb5)
  have K1 := Lib.hid (K1.out.next hb5)
  have K2 := Lib.hid (K2.out.next hb5)
  have K3 := Lib.hid (Vb.new hb5)
  have B5 := Lib.hid (B4.out.trans (below_of_alloc (hb5.mono (B' := w.heap.size) (by simp; have := B4.out.size; omega)) B4.out.size))
  clear c00 c01 c02 n0 l0 c10 c11 c12 n1 l1 c20 c21 c22 n2 l2
  clear hb5
  obtain ⟨c00, c01, c02, n0, l0⟩ := K0.out.use
  obtain ⟨c10, c11, c12, n1, l1⟩ := K1.out.use
  obtain ⟨c20, c21, c22, n2, l2⟩ := K2.out.use
  obtain ⟨c30, c31, c32, n3, l3⟩ := K3.out.use
  have J0 := (Blk.alloc K0.out (.cells #[.int .i64 0, .int .i64 0, .string ⟨#[]⟩] 23) : Vb _ _ _ _ _)
  have J3 := (Blk.alloc K3.out (.cells #[.int .i64 0, .int .i64 0, .string ⟨#[]⟩] 23) : Vb _ _ _ _ _)
  have B6 := Lib.hid (B5.out.alloc B5.out.size (.cells #[.int .i64 0, .int .i64 0, .string ⟨#[]⟩] 23))
  have HS : Hid (NSt w w1.heap.size w4.heap.size _) := ⟨J0, J3, B6.out⟩
  clear J0 J3
  clear c00 c01 c02 n0 l0 c10 c11 c12 n1 l1 c20 c21 c22 n2 l2 c30 c31 c32 n3 l3
  go_upto_region 6 with fail
  generalize w5.alloc (.cells #[.int .i64 0, .int .i64 0, .string ⟨#[]⟩] 23) = W at *
  have lw1 := HS.out.1.use.2.2.2.2
  have lw4 := HS.out.2.1.use.2.2.2.2
  have lw := B6.out.size
  have hmk : ∀ w, (Instr.makeSlice 30 (.int .i64 1025) (.int .i64 1025)).run Try.prog w = .ok (.slice (some ⟨w.heap.size, 0, none⟩) 1025 1025) (w.alloc (.cells (zeroBytes 1025) 5)) := fun w => make_bytes 1025 (by omega) w
  have hcv1 : ∀ v : World, (convert 30 9 (.slice (some ⟨v.heap.size, 0, none⟩) 1025 1025)).run Try.prog (v.alloc (.cells (zeroBytes 1025) 5)) = .ok (.string longS) (v.alloc (.cells (zeroBytes 1025) 5)) := fun v => conv_long (Blk.new _ _ _)
  have hcv2 : ∀ v : World, (convert 30 9 (.slice (some ⟨v.heap.size, 0, none⟩) 1025 1025)).run Try.prog (v.alloc (.cells (zeroBytes 1025) 5)).drew = .ok (.string longS) (v.alloc (.cells (zeroBytes 1025) 5)).drew := fun v => conv_long (Blk.drew (Blk.new _ _ _))
  have hcv3 : ∀ (v : World) (o : Obj), (convert 30 9 (.slice (some ⟨v.heap.size, 0, none⟩) 1025 1025)).run Try.prog ((v.alloc (.cells (zeroBytes 1025) 5)).alloc o).drew = .ok (.string longS) ((v.alloc (.cells (zeroBytes 1025) 5)).alloc o).drew := fun v o => conv_long (Blk.drew (Blk.alloc (Blk.new _ _ _) o))
  have hcv4 : ∀ (v : World) (o : Obj), (convert 30 9 (.slice (some ⟨v.heap.size + 1, 0, none⟩) 1025 1025)).run Try.prog ((v.alloc o).alloc (.cells (zeroBytes 1025) 5)).drew = .ok (.string longS) ((v.alloc o).alloc (.cells (zeroBytes 1025) 5)).drew := fun v o => by
    have := conv_long (Blk.drew (Blk.new (v.alloc o) 5 (zeroBytes 1025)))
    simpa using this
  have hsz : longS.size ≤ 9223372036854775807 := by rw [longS_size]; omega
  have HX : Hid (askE 17 8 ⟨#[120]⟩ 17 longS = 3) := by
    have h1 : mayV 17 8 ⟨#[120]⟩ = true := by decide +kernel
    have h2 : may 17 = true := by decide
    simp only [Hid, askE, h1, h2, longS_size, Bool.true_eq_false, if_false]
    rfl
  have HSZ := Lib.hid hsz
  clear hsz
  go_cut [12] (fun s12 wx => s12 = .int .i64 3 ∧ NSt w w1.heap.size w4.heap.size wx)
  case first =>
    have lc := HS.out.all
    have lc0 := lc.1
    have lc1 := lc.2.1
    have lc2 := lc.2.2.1
    clear lc
    go_region_with (go_at_call 16; refine (vacc_bad 17 8 ⟨#[120]⟩ 17 longS _ (by decide) HSZ.out (by omega) (by omega) (by omega) (by omega) (by omega) (by omega) 3 HX.out (by decide)).mono ?_; rintro e w' ⟨rfl, hbq⟩; have hbc := (bcell hbq).1; have hbf := (bcell hbq).2; have hbs := hbq.size)
    all_goals (go_wp2_with fail; go_meet)
    all_goals (refine ⟨rfl, ?_⟩; (repeat (first | exact HS.out | refine NSt.drew ?_ | refine NSt.alloc ?_ _ | refine NSt.next ?_ (by assumption) | refine NSt.set ?_ (by simp; omega) (by simp; omega) (by simp; omega) _)))
  case rest =>
    obtain ⟨rfl, h1, h2, h3⟩ := hcut
    have HB := Lib.hid h3
    have K7 := Lib.hid h2
    clear h1 h2 h3 hmk hcv1 hcv2 hcv3 hcv4
    obtain ⟨c0, c1, c2, n, l⟩ := K7.out.use
    go_wp2_with fail
    refine (alive07 _).mono ?_
    rintro e w6 ⟨rfl, hb6⟩
    have K7 := Lib.hid (K7.out.kept hb6)
    have HB := Lib.hid (HB.out.trans (hb6.mono HB.out.size))
    clear hb6 c0 c1 c2 n l
    obtain ⟨c0, c1, c2, n, l⟩ := K7.out.use
    have hv := fun w => veq 17 17 17 17 ⟨#[121]⟩ ⟨#[121]⟩ w
    go_wp2_with fail
    refine (vcheck_no 8 9 ⟨#[]⟩ _ (by decide) (by omega) (by omega) (by omega) (by omega) (by decide +kernel)).mono ?_
    rintro e w7 ⟨rfl, hb7⟩
    have HB := Lib.hid (HB.out.trans (hb7.mono HB.out.size))
    clear hb7 c0 c1 c2 n l
    go_wp2_with fail
    refine (vcheck_ok 0 0 ⟨#[]⟩ _ (by decide) (by omega) (by omega) (by omega) (by omega) (by decide +kernel)).mono ?_
    rintro e w8 ⟨rfl, hb8⟩
    have HB := Lib.hid (HB.out.trans (hb8.mono HB.out.size))
    clear hb8
    go_wp2
    go_ret
    exact ⟨rfl, HB.out⟩
end Go.Proofs.Ytaajfilecmgcnaa
