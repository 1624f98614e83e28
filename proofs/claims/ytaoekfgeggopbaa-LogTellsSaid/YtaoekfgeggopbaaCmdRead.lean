/-
  command.Read: the command of a text.
-/
import Derived.Test.YtaoekfgeggopbaaCmdRdB
import Derived.Test.YtaoekfgeggopbaaCmdCk
namespace Go.Proofs.Ytaoekfgeggopbaa
open Go.RowKit
set_option maxHeartbeats 8000000
set_option maxRecDepth 100000
set_option linter.unusedVariables false
set_option linter.unusedSimpArgs false

theorem next_inR {p : Rp.St} {m : Nat} {q : Rp.St} (h : Rp.next p = (m, q)) : Nm.inR (m : Int) = true := by
  have : m ≤ 1099511627776 := by
    unfold Rp.next at h
    cases hg : Nm.get p.1 with
    | none => rw [hg] at h; simp only [Prod.mk.injEq] at h; omega
    | some v => obtain ⟨x, k⟩ := v; have := (Nm.get_back hg).1; rw [hg] at h; simp only [Prod.mk.injEq] at h; omega
  exact decide_eq_true ⟨by omega, by omega⟩
theorem text_le {p : Rp.St} {t : List UInt8} {q : Rp.St} (h : Wp.textK p = (t, q)) : (S t).size ≤ 4096 := by
  rw [S_size]
  unfold Wp.textK at h
  cases hg : Nm.getText p.1 with
  | none => rw [hg] at h; simp only [Prod.mk.injEq] at h; rw [← h.1]; simp
  | some v => obtain ⟨x, k⟩ := v; have := (Nm.getText_back hg).1; rw [hg] at h; simp only [Prod.mk.injEq] at h; rw [← h.1]; exact this
theorem ints_inR {most : Nat} {p : Rp.St} {r : List Int} {q : Rp.St} (h : Cp.intsK most p = (r, q)) : r.length ≤ most ∧ ∀ x ∈ r, Nm.inR x = true := by
  unfold Cp.intsK at h
  cases hg : Nm.getInts p.1 most with
  | none => rw [hg] at h; simp only [Prod.mk.injEq] at h; rw [← h.1]; simp
  | some v => obtain ⟨x, k⟩ := v; have hb := Nm.getInts_back hg; rw [hg] at h; simp only [Prod.mk.injEq] at h; rw [← h.1]; exact ⟨hb.1, hb.2.1⟩

theorem rst12 {B gr : Nat} {l : List UInt8} {bad : Bool} {w : World} (h : RSt B gr l bad w) {g : Nat} (hg : gr < g) (v0 v1 v2 v3 v4 v5 v6 v7 v8 v9 v10 v11 : Value) : RSt B gr l bad ((((((((((((w.setCell ⟨g, 0, none⟩ v0).setCell ⟨g, 1, none⟩ v1).setCell ⟨g, 2, none⟩ v2).setCell ⟨g, 3, none⟩ v3).setCell ⟨g, 4, none⟩ v4).setCell ⟨g, 5, none⟩ v5).setCell ⟨g, 6, none⟩ v6).setCell ⟨g, 7, none⟩ v7).setCell ⟨g, 8, none⟩ v8).setCell ⟨g, 9, none⟩ v9).setCell ⟨g, 10, none⟩ v10).setCell ⟨g, 11, none⟩ v11) :=
  (RSt.far (RSt.far (RSt.far (RSt.far (RSt.far (RSt.far (RSt.far (RSt.far (RSt.far (RSt.far (RSt.far (RSt.far h (p := ⟨g, 0, none⟩) hg v0) (p := ⟨g, 1, none⟩) hg v1) (p := ⟨g, 2, none⟩) hg v2) (p := ⟨g, 3, none⟩) hg v3) (p := ⟨g, 4, none⟩) hg v4) (p := ⟨g, 5, none⟩) hg v5) (p := ⟨g, 6, none⟩) hg v6) (p := ⟨g, 7, none⟩) hg v7) (p := ⟨g, 8, none⟩) hg v8) (p := ⟨g, 9, none⟩) hg v9) (p := ⟨g, 10, none⟩) hg v10) (p := ⟨g, 11, none⟩) hg v11)
theorem only12 {a w : World} {gr : Nat} (h : a.grownBy w (some gr)) (v0 v1 v2 v3 v4 v5 v6 v7 v8 v9 v10 v11 : Value) : a.grownBy ((((((((((((w.setCell ⟨a.heap.size, 0, none⟩ v0).setCell ⟨a.heap.size, 1, none⟩ v1).setCell ⟨a.heap.size, 2, none⟩ v2).setCell ⟨a.heap.size, 3, none⟩ v3).setCell ⟨a.heap.size, 4, none⟩ v4).setCell ⟨a.heap.size, 5, none⟩ v5).setCell ⟨a.heap.size, 6, none⟩ v6).setCell ⟨a.heap.size, 7, none⟩ v7).setCell ⟨a.heap.size, 8, none⟩ v8).setCell ⟨a.heap.size, 9, none⟩ v9).setCell ⟨a.heap.size, 10, none⟩ v10).setCell ⟨a.heap.size, 11, none⟩ v11) (some gr) :=
  (only_setCell (only_setCell (only_setCell (only_setCell (only_setCell (only_setCell (only_setCell (only_setCell (only_setCell (only_setCell (only_setCell (only_setCell h (p := ⟨a.heap.size, 0, none⟩) (Or.inr (Nat.le_refl _)) v0) (p := ⟨a.heap.size, 1, none⟩) (Or.inr (Nat.le_refl _)) v1) (p := ⟨a.heap.size, 2, none⟩) (Or.inr (Nat.le_refl _)) v2) (p := ⟨a.heap.size, 3, none⟩) (Or.inr (Nat.le_refl _)) v3) (p := ⟨a.heap.size, 4, none⟩) (Or.inr (Nat.le_refl _)) v4) (p := ⟨a.heap.size, 5, none⟩) (Or.inr (Nat.le_refl _)) v5) (p := ⟨a.heap.size, 6, none⟩) (Or.inr (Nat.le_refl _)) v6) (p := ⟨a.heap.size, 7, none⟩) (Or.inr (Nat.le_refl _)) v7) (p := ⟨a.heap.size, 8, none⟩) (Or.inr (Nat.le_refl _)) v8) (p := ⟨a.heap.size, 9, none⟩) (Or.inr (Nat.le_refl _)) v9) (p := ⟨a.heap.size, 10, none⟩) (Or.inr (Nat.le_refl _)) v10) (p := ⟨a.heap.size, 11, none⟩) (Or.inr (Nat.le_refl _)) v11)
theorem own12 {w : World} {base g : Nat} {D : HC} {cs : Array Value} (h : OwnC w base D) (hb : Blk w g 26 cs) (v0 v1 v2 v3 v4 v5 v6 v7 v8 v9 v10 v11 : Value) : OwnC ((((((((((((w.setCell ⟨g, 0, none⟩ v0).setCell ⟨g, 1, none⟩ v1).setCell ⟨g, 2, none⟩ v2).setCell ⟨g, 3, none⟩ v3).setCell ⟨g, 4, none⟩ v4).setCell ⟨g, 5, none⟩ v5).setCell ⟨g, 6, none⟩ v6).setCell ⟨g, 7, none⟩ v7).setCell ⟨g, 8, none⟩ v8).setCell ⟨g, 9, none⟩ v9).setCell ⟨g, 10, none⟩ v10).setCell ⟨g, 11, none⟩ v11) base D := by
  have hb1 := hb.set_ 0 v0
  have hb2 := hb1.set_ 1 v1
  have hb3 := hb2.set_ 2 v2
  have hb4 := hb3.set_ 3 v3
  have hb5 := hb4.set_ 4 v4
  have hb6 := hb5.set_ 5 v5
  have hb7 := hb6.set_ 6 v6
  have hb8 := hb7.set_ 7 v7
  have hb9 := hb8.set_ 8 v8
  have hb10 := hb9.set_ 9 v9
  have hb11 := hb10.set_ 10 v10
  have hb12 := hb11.set_ 11 v11
  exact (OwnC.set_ (OwnC.set_ (OwnC.set_ (OwnC.set_ (OwnC.set_ (OwnC.set_ (OwnC.set_ (OwnC.set_ (OwnC.set_ (OwnC.set_ (OwnC.set_ (OwnC.set_ h hb (by decide) 0 v0) hb1 (by decide) 1 v1) hb2 (by decide) 2 v2) hb3 (by decide) 3 v3) hb4 (by decide) 4 v4) hb5 (by decide) 5 v5) hb6 (by decide) 6 v6) hb7 (by decide) 7 v7) hb8 (by decide) 8 v8) hb9 (by decide) 9 v9) hb10 (by decide) 10 v10) hb11 (by decide) 11 v11)

/-- What a reading leaves: a command, what is left of the bytes, whether something was wrong. -/
def ReadC (l : List UInt8) (base B gr : Nat) (w : World) (e : Ending) (w' : World) : Prop :=
  ∃ (D : HC) (l' : List UInt8) (bad : Bool), e = .returned (.agg #[.int .u8 D.k, .int .i64 D.mi, .slice D.GA D.Gn D.Gc, .int .i64 D.mt, .string D.key, .string D.body, .int .i64 D.i, .int .i64 D.tm, .slice D.MA D.Mn D.Mc, .int .i64 D.tp, .int .i64 D.who, .int .i64 D.n]) ∧ Cp.rdF (Cp.fieldsC ((min (Rp.next (l, false)).1 255 : Nat) : Int)) (Cp.zeroC ((min (Rp.next (l, false)).1 255 : Nat) : Int)) (Rp.next (l, false)).2 = (D.cmd, (l', bad)) ∧
    RSt B gr l' bad w' ∧ OwnC w' base D ∧ w.grownBy w' (some gr)

theorem ccommand_any (B gr : Nat) (l : List UInt8) (w : World) (h : RSt B gr l false w) :
    Calls Try.prog 55 #[.pointer (some ⟨gr, 0, none⟩)] w (ReadC l w.heap.size B gr w) := by
  obtain ⟨⟨m0, l0, b0⟩, h0⟩ : ∃ p, Rp.next (l, false) = p := ⟨_, rfl⟩
  obtain ⟨κ, hκ⟩ : ∃ κ : Int, ((min m0 255 : Nat) : Int) = κ := ⟨_, rfl⟩
  have hκ2 : κ ≤ 255 := by omega
  have hκ0 : 0 ≤ κ := by omega
  have hmin : (if (255 : Int) < (m0 : Int) then (255 : Int) else (m0 : Int)) = κ := by split <;> omega
  have HR : Hid (ReadC l w.heap.size B gr w = fun e w' => ∃ (D : HC) (l' : List UInt8) (bad : Bool), e = .returned (.agg #[.int .u8 D.k, .int .i64 D.mi, .slice D.GA D.Gn D.Gc, .int .i64 D.mt, .string D.key, .string D.body, .int .i64 D.i, .int .i64 D.tm, .slice D.MA D.Mn D.Mc, .int .i64 D.tp, .int .i64 D.who, .int .i64 D.n]) ∧ Cp.rdF (Cp.fieldsC κ) (Cp.zeroC κ) (l0, b0) = (D.cmd, (l', bad)) ∧ RSt B gr l' bad w' ∧ OwnC w' w.heap.size D ∧ w.grownBy w' (some gr)) := by
    unfold ReadC
    rw [Hid, h0, hκ]
  rw [HR.out]
  have H := Lib.hid h
  have HH0 := Lib.hid h0
  have hgl := h.lt
  clear h h0 HR hκ
  obtain ⟨WZ, hWZ⟩ : ∃ WZ, w.alloc (.cells #[.int .u8 (zeroHC 0).k, .int .i64 (zeroHC 0).mi, .slice (zeroHC 0).GA (zeroHC 0).Gn (zeroHC 0).Gc, .int .i64 (zeroHC 0).mt, .string (zeroHC 0).key, .string (zeroHC 0).body, .int .i64 (zeroHC 0).i, .int .i64 (zeroHC 0).tm, .slice (zeroHC 0).MA (zeroHC 0).Mn (zeroHC 0).Mc, .int .i64 (zeroHC 0).tp, .int .i64 (zeroHC 0).who, .int .i64 (zeroHC 0).n] 26) = WZ := ⟨_, rfl⟩
  have HWZ := Lib.hid hWZ
  have HZ : Hid (RSt B gr l false WZ) := by rw [Hid, ← hWZ]; exact H.out.below ((Below.refl _ w).alloc (Nat.le_refl _) _)
  have KZ : Hid (Blk WZ w.heap.size 26 #[.int .u8 (zeroHC 0).k, .int .i64 (zeroHC 0).mi, .slice (zeroHC 0).GA (zeroHC 0).Gn (zeroHC 0).Gc, .int .i64 (zeroHC 0).mt, .string (zeroHC 0).key, .string (zeroHC 0).body, .int .i64 (zeroHC 0).i, .int .i64 (zeroHC 0).tm, .slice (zeroHC 0).MA (zeroHC 0).Mn (zeroHC 0).Mc, .int .i64 (zeroHC 0).tp, .int .i64 (zeroHC 0).who, .int .i64 (zeroHC 0).n]) := by rw [Hid, ← hWZ]; exact Blk.new w _ _
  have BZ : Hid (Below w.heap.size w WZ) := by rw [Hid, ← hWZ]; exact (Below.refl _ w).alloc (Nat.le_refl _) _
  have NZ : Hid (WZ.heap.size = w.heap.size + 1) := by rw [Hid, ← hWZ]; simp
  clear hWZ
  go_enter Try.func55, Try.ntmps55
  go_wp2_with fail
  rw [show w.alloc (.cells #[.int .u8 0, .int .i64 0, .slice none 0 0, .int .i64 0, .string ⟨#[]⟩, .string ⟨#[]⟩, .int .i64 0, .int .i64 0, .slice none 0 0, .int .i64 0, .int .i64 0, .int .i64 0] 26) = WZ from HWZ.out]
  refine (cnum_any B gr l false WZ HZ.out m0 l0 b0 HH0.out).mono ?_
  rintro e w1 ⟨rfl, hs, hg⟩
  have KR1 := Lib.hid (KZ.out.grown hg (by intro e; injection e with e; omega))
  have NZ1 : Hid (w.heap.size + 1 ≤ w1.heap.size) := by have := hg.size; have := NZ.out; rw [Hid]; omega
  have GZ : Hid (w.grownBy w1 (some gr)) := grown_below BZ.out hg
  have S0 : Hid (RC w.heap.size B gr w1.heap.size l0 b0 (zeroHC κ) w (w1.alloc (.cells #[.int .u8 (zeroHC κ).k, .int .i64 (zeroHC κ).mi, .slice (zeroHC κ).GA (zeroHC κ).Gn (zeroHC κ).Gc, .int .i64 (zeroHC κ).mt, .string (zeroHC κ).key, .string (zeroHC κ).body, .int .i64 (zeroHC κ).i, .int .i64 (zeroHC κ).tm, .slice (zeroHC κ).MA (zeroHC κ).Mn (zeroHC κ).Mc, .int .i64 (zeroHC κ).tp, .int .i64 (zeroHC κ).who, .int .i64 (zeroHC κ).n] 26))) := by
    refine ⟨hs.below ((Below.refl _ w1).alloc (Nat.le_refl _) _), Blk.new w1 _ _, zeroHC_own _ _ (by omega), only_alloc GZ.out _, by have := NZ1.out; omega, by have := NZ1.out; simp; omega, hgl, KR1.out.alloc _⟩
  have hzz : w.heap.size + 1 ≤ w1.heap.size := NZ1.out
  obtain ⟨gc, hgc⟩ : ∃ gc, w1.heap.size = gc := ⟨_, rfl⟩
  have HGC := Lib.hid hgc
  clear hs hg KR1 KZ BZ HZ NZ HWZ H
  go_upto_region 3 with fail
  generalize hWX : w1.alloc (.cells #[.int .u8 κ, .int .i64 0, .slice none 0 0, .int .i64 0, .string ⟨#[]⟩, .string ⟨#[]⟩, .int .i64 0, .int .i64 0, .slice none 0 0, .int .i64 0, .int .i64 0, .int .i64 0] 26) = X0
  replace S0 : Hid (RC w.heap.size B gr gc l0 b0 (zeroHC κ) w X0) := by rw [Hid, ← hWX, ← hgc]; exact S0.out
  have hzz2 : w.heap.size + 1 ≤ gc := by omega
  clear hWX hgc HGC hzz NZ1 GZ
  rcases (by omega : κ = 0 ∨ κ = 1 ∨ κ = 2 ∨ κ = 3 ∨ κ = 4 ∨ κ = 5 ∨ κ = 6 ∨ 7 ≤ κ) with h | h | h | h | h | h | h | h
  · have HK := Lib.hid h
    clear h
    have q1 : (κ == 1) = false := beq_eq_false_iff_ne.2 (by have := HK.out; omega)
    have q2 : (κ == 2) = false := beq_eq_false_iff_ne.2 (by have := HK.out; omega)
    have q3 : (κ == 3) = false := beq_eq_false_iff_ne.2 (by have := HK.out; omega)
    have q4 : (κ == 4) = false := beq_eq_false_iff_ne.2 (by have := HK.out; omega)
    have q5 : (κ == 5) = false := beq_eq_false_iff_ne.2 (by have := HK.out; omega)
    have q6 : (κ == 6) = false := beq_eq_false_iff_ne.2 (by have := HK.out; omega)
    have c0 : X0.cell? ⟨gc, 0, none⟩ = some (.int .u8 κ) := S0.out.2.1.cell 0
    go_upto_region 23 with fail
    clear c0
    have c0 : X0.cell? ⟨gc, 0, none⟩ = some (.int .u8 κ) := S0.out.2.1.cell 0
    have c1 : X0.cell? ⟨gc, 1, none⟩ = some (.int .i64 0) := S0.out.2.1.cell 1
    have c2 : X0.cell? ⟨gc, 2, none⟩ = some (.slice none 0 0) := S0.out.2.1.cell 2
    have c3 : X0.cell? ⟨gc, 3, none⟩ = some (.int .i64 0) := S0.out.2.1.cell 3
    have c4 : X0.cell? ⟨gc, 4, none⟩ = some (.string ⟨#[]⟩) := S0.out.2.1.cell 4
    have c5 : X0.cell? ⟨gc, 5, none⟩ = some (.string ⟨#[]⟩) := S0.out.2.1.cell 5
    have c6 : X0.cell? ⟨gc, 6, none⟩ = some (.int .i64 0) := S0.out.2.1.cell 6
    have c7 : X0.cell? ⟨gc, 7, none⟩ = some (.int .i64 0) := S0.out.2.1.cell 7
    have c8 : X0.cell? ⟨gc, 8, none⟩ = some (.slice none 0 0) := S0.out.2.1.cell 8
    have c9 : X0.cell? ⟨gc, 9, none⟩ = some (.int .i64 0) := S0.out.2.1.cell 9
    have c10 : X0.cell? ⟨gc, 10, none⟩ = some (.int .i64 0) := S0.out.2.1.cell 10
    have c11 : X0.cell? ⟨gc, 11, none⟩ = some (.int .i64 0) := S0.out.2.1.cell 11
    have fz := S0.out.2.1.frozen
    obtain ⟨z1, z2, z3, z4, z5, z6, z7, z8⟩ := S0.out
    have k0 : X0.cell? ⟨w.heap.size, 0, none⟩ = some (.int .u8 0) := z8.cell 0
    have k1 : X0.cell? ⟨w.heap.size, 1, none⟩ = some (.int .i64 0) := z8.cell 1
    have k2 : X0.cell? ⟨w.heap.size, 2, none⟩ = some (.slice none 0 0) := z8.cell 2
    have k3 : X0.cell? ⟨w.heap.size, 3, none⟩ = some (.int .i64 0) := z8.cell 3
    have k4 : X0.cell? ⟨w.heap.size, 4, none⟩ = some (.string ⟨#[]⟩) := z8.cell 4
    have k5 : X0.cell? ⟨w.heap.size, 5, none⟩ = some (.string ⟨#[]⟩) := z8.cell 5
    have k6 : X0.cell? ⟨w.heap.size, 6, none⟩ = some (.int .i64 0) := z8.cell 6
    have k7 : X0.cell? ⟨w.heap.size, 7, none⟩ = some (.int .i64 0) := z8.cell 7
    have k8 : X0.cell? ⟨w.heap.size, 8, none⟩ = some (.slice none 0 0) := z8.cell 8
    have k9 : X0.cell? ⟨w.heap.size, 9, none⟩ = some (.int .i64 0) := z8.cell 9
    have k10 : X0.cell? ⟨w.heap.size, 10, none⟩ = some (.int .i64 0) := z8.cell 10
    have k11 : X0.cell? ⟨w.heap.size, 11, none⟩ = some (.int .i64 0) := z8.cell 11
    have kf := z8.frozen
    have Z1 := Lib.hid z1
    have Z3 := Lib.hid z3
    have Z4 := Lib.hid z4
    have Z8 := Lib.hid z8
    clear z1 z2 z3 z4 z8
    go_wp2_with fail
    refine bodyPost_ret (v := .agg #[.int .u8 κ, .int .i64 0, .slice none 0 0, .int .i64 0, .string ⟨#[]⟩, .string ⟨#[]⟩, .int .i64 0, .int .i64 0, .slice none 0 0, .int .i64 0, .int .i64 0, .int .i64 0]) (by simp [results, Try.results55, go_sem, k0, k1, k2, k3, k4, k5, k6, k7, k8, k9, k10, k11]) rfl ⟨(⟨κ, 0, none, 0, 0, [], 0, ⟨#[]⟩, ⟨#[]⟩, 0, 0, none, 0, 0, [], 0, 0, 0⟩ : HC), l0, b0, rfl, ?_, ?_, ?_, ?_⟩
    · rw [HK.out, Cp.fields0]
      simp only [Cp.rdF, Cp.rd1, HC.cmd, Cp.zeroC, S_data, HK.out]
      try rfl
    · exact rst12 Z1.out hgl _ _ _ _ _ _ _ _ _ _ _ _
    · exact own12 Z3.out Z8.out _ _ _ _ _ _ _ _ _ _ _ _
    · exact only12 Z4.out _ _ _ _ _ _ _ _ _ _ _ _
  · have HK := Lib.hid h
    clear h
    have q1 : (κ == 1) = true := beq_iff_eq.2 (by have := HK.out; omega)
    have q2 : (κ == 2) = false := beq_eq_false_iff_ne.2 (by have := HK.out; omega)
    have q3 : (κ == 3) = false := beq_eq_false_iff_ne.2 (by have := HK.out; omega)
    have q4 : (κ == 4) = false := beq_eq_false_iff_ne.2 (by have := HK.out; omega)
    have q5 : (κ == 5) = false := beq_eq_false_iff_ne.2 (by have := HK.out; omega)
    have q6 : (κ == 6) = false := beq_eq_false_iff_ne.2 (by have := HK.out; omega)
    obtain ⟨⟨r1, l1, b1⟩, h1⟩ : ∃ p, Rp.next (l0, b0) = p := ⟨_, rfl⟩
    have HH1 := Lib.hid h1
    clear h1
    have c0 : X0.cell? ⟨gc, 0, none⟩ = some (.int .u8 κ) := S0.out.2.1.cell 0
    have c1 : X0.cell? ⟨gc, 1, none⟩ = some (.int .i64 0) := S0.out.2.1.cell 1
    have c2 : X0.cell? ⟨gc, 2, none⟩ = some (.slice none 0 0) := S0.out.2.1.cell 2
    have c3 : X0.cell? ⟨gc, 3, none⟩ = some (.int .i64 0) := S0.out.2.1.cell 3
    have c4 : X0.cell? ⟨gc, 4, none⟩ = some (.string ⟨#[]⟩) := S0.out.2.1.cell 4
    have c5 : X0.cell? ⟨gc, 5, none⟩ = some (.string ⟨#[]⟩) := S0.out.2.1.cell 5
    have c6 : X0.cell? ⟨gc, 6, none⟩ = some (.int .i64 0) := S0.out.2.1.cell 6
    have c7 : X0.cell? ⟨gc, 7, none⟩ = some (.int .i64 0) := S0.out.2.1.cell 7
    have c8 : X0.cell? ⟨gc, 8, none⟩ = some (.slice none 0 0) := S0.out.2.1.cell 8
    have c9 : X0.cell? ⟨gc, 9, none⟩ = some (.int .i64 0) := S0.out.2.1.cell 9
    have c10 : X0.cell? ⟨gc, 10, none⟩ = some (.int .i64 0) := S0.out.2.1.cell 10
    have c11 : X0.cell? ⟨gc, 11, none⟩ = some (.int .i64 0) := S0.out.2.1.cell 11
    have fz := S0.out.2.1.frozen
    go_wp2_with fail
    clear fz c0 c1 c2 c3 c4 c5 c6 c7 c8 c9 c10 c11
    refine (S0.out.num HH1.out).mono ?_
    rintro e Y1 ⟨rfl, s1⟩
    have Sb1 : Hid (RC w.heap.size B gr gc l1 b1 (⟨κ, (r1 : Int), none, 0, 0, [], 0, ⟨#[]⟩, ⟨#[]⟩, 0, 0, none, 0, 0, [], 0, 0, 0⟩ : HC) w (Y1.setCell ⟨gc, 1, none⟩ (.int .i64 (r1 : Int)))) := RC.set_ s1 rfl (fun ho => ⟨ho.og, ho.om, ho.kk, ho.bk, ho.bb, ho.ig, ho.im, next_inR HH1.out, ho.a2, ho.a3, ho.a4, ho.a5, ho.a6, ho.a7⟩)
    have fz1 := s1.2.1.frozen 1
    have cz1 := s1.2.1.cell 1
    have ck1 : Y1.cell? ⟨gc, 0, none⟩ = some (.int .u8 κ) := s1.2.1.cell 0
    clear s1
    go_upto_region 6 with fail
    generalize Y1.setCell ⟨gc, 1, none⟩ (.int .i64 (r1 : Int)) = X1 at *
    have S1 := Sb1
    clear Sb1 fz1 cz1 ck1
    obtain ⟨⟨r2, l2, b2⟩, h2⟩ : ∃ p, Cp.intsK 4 (l1, b1) = p := ⟨_, rfl⟩
    have HH2 := Lib.hid h2
    clear h2
    have c0 : X1.cell? ⟨gc, 0, none⟩ = some (.int .u8 κ) := S1.out.2.1.cell 0
    have c1 : X1.cell? ⟨gc, 1, none⟩ = some (.int .i64 (r1 : Int)) := S1.out.2.1.cell 1
    have c2 : X1.cell? ⟨gc, 2, none⟩ = some (.slice none 0 0) := S1.out.2.1.cell 2
    have c3 : X1.cell? ⟨gc, 3, none⟩ = some (.int .i64 0) := S1.out.2.1.cell 3
    have c4 : X1.cell? ⟨gc, 4, none⟩ = some (.string ⟨#[]⟩) := S1.out.2.1.cell 4
    have c5 : X1.cell? ⟨gc, 5, none⟩ = some (.string ⟨#[]⟩) := S1.out.2.1.cell 5
    have c6 : X1.cell? ⟨gc, 6, none⟩ = some (.int .i64 0) := S1.out.2.1.cell 6
    have c7 : X1.cell? ⟨gc, 7, none⟩ = some (.int .i64 0) := S1.out.2.1.cell 7
    have c8 : X1.cell? ⟨gc, 8, none⟩ = some (.slice none 0 0) := S1.out.2.1.cell 8
    have c9 : X1.cell? ⟨gc, 9, none⟩ = some (.int .i64 0) := S1.out.2.1.cell 9
    have c10 : X1.cell? ⟨gc, 10, none⟩ = some (.int .i64 0) := S1.out.2.1.cell 10
    have c11 : X1.cell? ⟨gc, 11, none⟩ = some (.int .i64 0) := S1.out.2.1.cell 11
    have fz := S1.out.2.1.frozen
    go_wp2_with fail
    clear fz c0 c1 c2 c3 c4 c5 c6 c7 c8 c9 c10 c11
    refine (S1.out.ints (by omega) HH2.out).mono ?_
    rintro e Y2 ⟨⟨A2, ca2, rfl, ho2⟩, s2⟩
    have HO2 := Lib.hid ho2
    clear ho2
    have Sb2 : Hid (RC w.heap.size B gr gc l2 b2 (⟨κ, (r1 : Int), A2, r2.length, ca2, r2, 0, ⟨#[]⟩, ⟨#[]⟩, 0, 0, none, 0, 0, [], 0, 0, 0⟩ : HC) w (Y2.setCell ⟨gc, 2, none⟩ (.slice A2 r2.length ca2))) := RC.set_ s2 rfl (fun ho => ⟨HO2.out, ho.om, ho.kk, ho.bk, ho.bb, (ints_inR HH2.out).2, ho.im, ho.a1, ho.a2, ho.a3, ho.a4, ho.a5, ho.a6, ho.a7⟩)
    have fz2 := s2.2.1.frozen 2
    have cz2 := s2.2.1.cell 2
    have ck2 : Y2.cell? ⟨gc, 0, none⟩ = some (.int .u8 κ) := s2.2.1.cell 0
    clear s2
    go_upto_region 7 with fail
    generalize Y2.setCell ⟨gc, 2, none⟩ (.slice A2 r2.length ca2) = X2 at *
    have S2 := Sb2
    clear Sb2 fz2 cz2 ck2
    obtain ⟨⟨r3, l3, b3⟩, h3⟩ : ∃ p, Rp.next (l2, b2) = p := ⟨_, rfl⟩
    have HH3 := Lib.hid h3
    clear h3
    have c0 : X2.cell? ⟨gc, 0, none⟩ = some (.int .u8 κ) := S2.out.2.1.cell 0
    have c1 : X2.cell? ⟨gc, 1, none⟩ = some (.int .i64 (r1 : Int)) := S2.out.2.1.cell 1
    have c2 : X2.cell? ⟨gc, 2, none⟩ = some (.slice A2 (r2.length) ca2) := S2.out.2.1.cell 2
    have c3 : X2.cell? ⟨gc, 3, none⟩ = some (.int .i64 0) := S2.out.2.1.cell 3
    have c4 : X2.cell? ⟨gc, 4, none⟩ = some (.string ⟨#[]⟩) := S2.out.2.1.cell 4
    have c5 : X2.cell? ⟨gc, 5, none⟩ = some (.string ⟨#[]⟩) := S2.out.2.1.cell 5
    have c6 : X2.cell? ⟨gc, 6, none⟩ = some (.int .i64 0) := S2.out.2.1.cell 6
    have c7 : X2.cell? ⟨gc, 7, none⟩ = some (.int .i64 0) := S2.out.2.1.cell 7
    have c8 : X2.cell? ⟨gc, 8, none⟩ = some (.slice none 0 0) := S2.out.2.1.cell 8
    have c9 : X2.cell? ⟨gc, 9, none⟩ = some (.int .i64 0) := S2.out.2.1.cell 9
    have c10 : X2.cell? ⟨gc, 10, none⟩ = some (.int .i64 0) := S2.out.2.1.cell 10
    have c11 : X2.cell? ⟨gc, 11, none⟩ = some (.int .i64 0) := S2.out.2.1.cell 11
    have fz := S2.out.2.1.frozen
    go_wp2_with fail
    clear fz c0 c1 c2 c3 c4 c5 c6 c7 c8 c9 c10 c11
    refine (S2.out.num HH3.out).mono ?_
    rintro e Y3 ⟨rfl, s3⟩
    have Sb3 : Hid (RC w.heap.size B gr gc l3 b3 (⟨κ, (r1 : Int), A2, r2.length, ca2, r2, (r3 : Int), ⟨#[]⟩, ⟨#[]⟩, 0, 0, none, 0, 0, [], 0, 0, 0⟩ : HC) w (Y3.setCell ⟨gc, 3, none⟩ (.int .i64 (r3 : Int)))) := RC.set_ s3 rfl (fun ho => ⟨ho.og, ho.om, ho.kk, ho.bk, ho.bb, ho.ig, ho.im, ho.a1, next_inR HH3.out, ho.a3, ho.a4, ho.a5, ho.a6, ho.a7⟩)
    have fz3 := s3.2.1.frozen 3
    have cz3 := s3.2.1.cell 3
    have ck3 : Y3.cell? ⟨gc, 0, none⟩ = some (.int .u8 κ) := s3.2.1.cell 0
    clear s3
    go_upto_region 8 with fail
    generalize Y3.setCell ⟨gc, 3, none⟩ (.int .i64 (r3 : Int)) = X3 at *
    have S3 := Sb3
    clear Sb3 fz3 cz3 ck3
    obtain ⟨⟨r4, l4, b4⟩, h4⟩ : ∃ p, Wp.textK (l3, b3) = p := ⟨_, rfl⟩
    have HH4 := Lib.hid h4
    clear h4
    have c0 : X3.cell? ⟨gc, 0, none⟩ = some (.int .u8 κ) := S3.out.2.1.cell 0
    have c1 : X3.cell? ⟨gc, 1, none⟩ = some (.int .i64 (r1 : Int)) := S3.out.2.1.cell 1
    have c2 : X3.cell? ⟨gc, 2, none⟩ = some (.slice A2 (r2.length) ca2) := S3.out.2.1.cell 2
    have c3 : X3.cell? ⟨gc, 3, none⟩ = some (.int .i64 (r3 : Int)) := S3.out.2.1.cell 3
    have c4 : X3.cell? ⟨gc, 4, none⟩ = some (.string ⟨#[]⟩) := S3.out.2.1.cell 4
    have c5 : X3.cell? ⟨gc, 5, none⟩ = some (.string ⟨#[]⟩) := S3.out.2.1.cell 5
    have c6 : X3.cell? ⟨gc, 6, none⟩ = some (.int .i64 0) := S3.out.2.1.cell 6
    have c7 : X3.cell? ⟨gc, 7, none⟩ = some (.int .i64 0) := S3.out.2.1.cell 7
    have c8 : X3.cell? ⟨gc, 8, none⟩ = some (.slice none 0 0) := S3.out.2.1.cell 8
    have c9 : X3.cell? ⟨gc, 9, none⟩ = some (.int .i64 0) := S3.out.2.1.cell 9
    have c10 : X3.cell? ⟨gc, 10, none⟩ = some (.int .i64 0) := S3.out.2.1.cell 10
    have c11 : X3.cell? ⟨gc, 11, none⟩ = some (.int .i64 0) := S3.out.2.1.cell 11
    have fz := S3.out.2.1.frozen
    go_wp2_with fail
    clear fz c0 c1 c2 c3 c4 c5 c6 c7 c8 c9 c10 c11
    refine (S3.out.text HH4.out).mono ?_
    rintro e Y4 ⟨rfl, s4⟩
    have Sb4 : Hid (RC w.heap.size B gr gc l4 b4 (⟨κ, (r1 : Int), A2, r2.length, ca2, r2, (r3 : Int), (S r4), ⟨#[]⟩, 0, 0, none, 0, 0, [], 0, 0, 0⟩ : HC) w (Y4.setCell ⟨gc, 4, none⟩ (.string (S r4)))) := RC.set_ s4 rfl (fun ho => ⟨ho.og, ho.om, ho.kk, text_le HH4.out, ho.bb, ho.ig, ho.im, ho.a1, ho.a2, ho.a3, ho.a4, ho.a5, ho.a6, ho.a7⟩)
    have fz4 := s4.2.1.frozen 4
    have cz4 := s4.2.1.cell 4
    have ck4 : Y4.cell? ⟨gc, 0, none⟩ = some (.int .u8 κ) := s4.2.1.cell 0
    clear s4
    go_upto_region 9 with fail
    generalize Y4.setCell ⟨gc, 4, none⟩ (.string (S r4)) = X4 at *
    have S4 := Sb4
    clear Sb4 fz4 cz4 ck4
    obtain ⟨⟨r5, l5, b5⟩, h5⟩ : ∃ p, Wp.textK (l4, b4) = p := ⟨_, rfl⟩
    have HH5 := Lib.hid h5
    clear h5
    have c0 : X4.cell? ⟨gc, 0, none⟩ = some (.int .u8 κ) := S4.out.2.1.cell 0
    have c1 : X4.cell? ⟨gc, 1, none⟩ = some (.int .i64 (r1 : Int)) := S4.out.2.1.cell 1
    have c2 : X4.cell? ⟨gc, 2, none⟩ = some (.slice A2 (r2.length) ca2) := S4.out.2.1.cell 2
    have c3 : X4.cell? ⟨gc, 3, none⟩ = some (.int .i64 (r3 : Int)) := S4.out.2.1.cell 3
    have c4 : X4.cell? ⟨gc, 4, none⟩ = some (.string (S r4)) := S4.out.2.1.cell 4
    have c5 : X4.cell? ⟨gc, 5, none⟩ = some (.string ⟨#[]⟩) := S4.out.2.1.cell 5
    have c6 : X4.cell? ⟨gc, 6, none⟩ = some (.int .i64 0) := S4.out.2.1.cell 6
    have c7 : X4.cell? ⟨gc, 7, none⟩ = some (.int .i64 0) := S4.out.2.1.cell 7
    have c8 : X4.cell? ⟨gc, 8, none⟩ = some (.slice none 0 0) := S4.out.2.1.cell 8
    have c9 : X4.cell? ⟨gc, 9, none⟩ = some (.int .i64 0) := S4.out.2.1.cell 9
    have c10 : X4.cell? ⟨gc, 10, none⟩ = some (.int .i64 0) := S4.out.2.1.cell 10
    have c11 : X4.cell? ⟨gc, 11, none⟩ = some (.int .i64 0) := S4.out.2.1.cell 11
    have fz := S4.out.2.1.frozen
    go_wp2_with fail
    clear fz c0 c1 c2 c3 c4 c5 c6 c7 c8 c9 c10 c11
    refine (S4.out.text HH5.out).mono ?_
    rintro e Y5 ⟨rfl, s5⟩
    have Sb5 : Hid (RC w.heap.size B gr gc l5 b5 (⟨κ, (r1 : Int), A2, r2.length, ca2, r2, (r3 : Int), (S r4), (S r5), 0, 0, none, 0, 0, [], 0, 0, 0⟩ : HC) w (Y5.setCell ⟨gc, 5, none⟩ (.string (S r5)))) := RC.set_ s5 rfl (fun ho => ⟨ho.og, ho.om, ho.kk, ho.bk, text_le HH5.out, ho.ig, ho.im, ho.a1, ho.a2, ho.a3, ho.a4, ho.a5, ho.a6, ho.a7⟩)
    have fz5 := s5.2.1.frozen 5
    have cz5 := s5.2.1.cell 5
    have ck5 : Y5.cell? ⟨gc, 0, none⟩ = some (.int .u8 κ) := s5.2.1.cell 0
    clear s5
    go_upto_region 23 with fail
    generalize Y5.setCell ⟨gc, 5, none⟩ (.string (S r5)) = X5 at *
    have S5 := Sb5
    clear Sb5 fz5 cz5 ck5
    have c0 : X5.cell? ⟨gc, 0, none⟩ = some (.int .u8 κ) := S5.out.2.1.cell 0
    have c1 : X5.cell? ⟨gc, 1, none⟩ = some (.int .i64 (r1 : Int)) := S5.out.2.1.cell 1
    have c2 : X5.cell? ⟨gc, 2, none⟩ = some (.slice A2 (r2.length) ca2) := S5.out.2.1.cell 2
    have c3 : X5.cell? ⟨gc, 3, none⟩ = some (.int .i64 (r3 : Int)) := S5.out.2.1.cell 3
    have c4 : X5.cell? ⟨gc, 4, none⟩ = some (.string (S r4)) := S5.out.2.1.cell 4
    have c5 : X5.cell? ⟨gc, 5, none⟩ = some (.string (S r5)) := S5.out.2.1.cell 5
    have c6 : X5.cell? ⟨gc, 6, none⟩ = some (.int .i64 0) := S5.out.2.1.cell 6
    have c7 : X5.cell? ⟨gc, 7, none⟩ = some (.int .i64 0) := S5.out.2.1.cell 7
    have c8 : X5.cell? ⟨gc, 8, none⟩ = some (.slice none 0 0) := S5.out.2.1.cell 8
    have c9 : X5.cell? ⟨gc, 9, none⟩ = some (.int .i64 0) := S5.out.2.1.cell 9
    have c10 : X5.cell? ⟨gc, 10, none⟩ = some (.int .i64 0) := S5.out.2.1.cell 10
    have c11 : X5.cell? ⟨gc, 11, none⟩ = some (.int .i64 0) := S5.out.2.1.cell 11
    have fz := S5.out.2.1.frozen
    obtain ⟨z1, z2, z3, z4, z5, z6, z7, z8⟩ := S5.out
    have k0 : X5.cell? ⟨w.heap.size, 0, none⟩ = some (.int .u8 0) := z8.cell 0
    have k1 : X5.cell? ⟨w.heap.size, 1, none⟩ = some (.int .i64 0) := z8.cell 1
    have k2 : X5.cell? ⟨w.heap.size, 2, none⟩ = some (.slice none 0 0) := z8.cell 2
    have k3 : X5.cell? ⟨w.heap.size, 3, none⟩ = some (.int .i64 0) := z8.cell 3
    have k4 : X5.cell? ⟨w.heap.size, 4, none⟩ = some (.string ⟨#[]⟩) := z8.cell 4
    have k5 : X5.cell? ⟨w.heap.size, 5, none⟩ = some (.string ⟨#[]⟩) := z8.cell 5
    have k6 : X5.cell? ⟨w.heap.size, 6, none⟩ = some (.int .i64 0) := z8.cell 6
    have k7 : X5.cell? ⟨w.heap.size, 7, none⟩ = some (.int .i64 0) := z8.cell 7
    have k8 : X5.cell? ⟨w.heap.size, 8, none⟩ = some (.slice none 0 0) := z8.cell 8
    have k9 : X5.cell? ⟨w.heap.size, 9, none⟩ = some (.int .i64 0) := z8.cell 9
    have k10 : X5.cell? ⟨w.heap.size, 10, none⟩ = some (.int .i64 0) := z8.cell 10
    have k11 : X5.cell? ⟨w.heap.size, 11, none⟩ = some (.int .i64 0) := z8.cell 11
    have kf := z8.frozen
    have Z1 := Lib.hid z1
    have Z3 := Lib.hid z3
    have Z4 := Lib.hid z4
    have Z8 := Lib.hid z8
    clear z1 z2 z3 z4 z8
    go_wp2_with fail
    refine bodyPost_ret (v := .agg #[.int .u8 κ, .int .i64 (r1 : Int), .slice A2 (r2.length) ca2, .int .i64 (r3 : Int), .string (S r4), .string (S r5), .int .i64 0, .int .i64 0, .slice none 0 0, .int .i64 0, .int .i64 0, .int .i64 0]) (by simp [results, Try.results55, go_sem, k0, k1, k2, k3, k4, k5, k6, k7, k8, k9, k10, k11]) rfl ⟨(⟨κ, (r1 : Int), A2, r2.length, ca2, r2, (r3 : Int), (S r4), (S r5), 0, 0, none, 0, 0, [], 0, 0, 0⟩ : HC), l5, b5, rfl, ?_, ?_, ?_, ?_⟩
    · rw [HK.out, Cp.fields1]
      simp only [Cp.rdF, Cp.rd1, HH1.out, HH2.out, HH3.out, HH4.out, HH5.out, HC.cmd, Cp.zeroC, S_data, HK.out]
      try rfl
    · exact rst12 Z1.out hgl _ _ _ _ _ _ _ _ _ _ _ _
    · exact own12 Z3.out Z8.out _ _ _ _ _ _ _ _ _ _ _ _
    · exact only12 Z4.out _ _ _ _ _ _ _ _ _ _ _ _
  · have HK := Lib.hid h
    clear h
    have q1 : (κ == 1) = false := beq_eq_false_iff_ne.2 (by have := HK.out; omega)
    have q2 : (κ == 2) = true := beq_iff_eq.2 (by have := HK.out; omega)
    have q3 : (κ == 3) = false := beq_eq_false_iff_ne.2 (by have := HK.out; omega)
    have q4 : (κ == 4) = false := beq_eq_false_iff_ne.2 (by have := HK.out; omega)
    have q5 : (κ == 5) = false := beq_eq_false_iff_ne.2 (by have := HK.out; omega)
    have q6 : (κ == 6) = false := beq_eq_false_iff_ne.2 (by have := HK.out; omega)
    obtain ⟨⟨r1, l1, b1⟩, h1⟩ : ∃ p, Rp.next (l0, b0) = p := ⟨_, rfl⟩
    have HH1 := Lib.hid h1
    clear h1
    have c0 : X0.cell? ⟨gc, 0, none⟩ = some (.int .u8 κ) := S0.out.2.1.cell 0
    have c1 : X0.cell? ⟨gc, 1, none⟩ = some (.int .i64 0) := S0.out.2.1.cell 1
    have c2 : X0.cell? ⟨gc, 2, none⟩ = some (.slice none 0 0) := S0.out.2.1.cell 2
    have c3 : X0.cell? ⟨gc, 3, none⟩ = some (.int .i64 0) := S0.out.2.1.cell 3
    have c4 : X0.cell? ⟨gc, 4, none⟩ = some (.string ⟨#[]⟩) := S0.out.2.1.cell 4
    have c5 : X0.cell? ⟨gc, 5, none⟩ = some (.string ⟨#[]⟩) := S0.out.2.1.cell 5
    have c6 : X0.cell? ⟨gc, 6, none⟩ = some (.int .i64 0) := S0.out.2.1.cell 6
    have c7 : X0.cell? ⟨gc, 7, none⟩ = some (.int .i64 0) := S0.out.2.1.cell 7
    have c8 : X0.cell? ⟨gc, 8, none⟩ = some (.slice none 0 0) := S0.out.2.1.cell 8
    have c9 : X0.cell? ⟨gc, 9, none⟩ = some (.int .i64 0) := S0.out.2.1.cell 9
    have c10 : X0.cell? ⟨gc, 10, none⟩ = some (.int .i64 0) := S0.out.2.1.cell 10
    have c11 : X0.cell? ⟨gc, 11, none⟩ = some (.int .i64 0) := S0.out.2.1.cell 11
    have fz := S0.out.2.1.frozen
    go_wp2_with fail
    clear fz c0 c1 c2 c3 c4 c5 c6 c7 c8 c9 c10 c11
    refine (S0.out.num HH1.out).mono ?_
    rintro e Y1 ⟨rfl, s1⟩
    have Sb1 : Hid (RC w.heap.size B gr gc l1 b1 (⟨κ, 0, none, 0, 0, [], 0, ⟨#[]⟩, ⟨#[]⟩, (r1 : Int), 0, none, 0, 0, [], 0, 0, 0⟩ : HC) w (Y1.setCell ⟨gc, 6, none⟩ (.int .i64 (r1 : Int)))) := RC.set_ s1 rfl (fun ho => ⟨ho.og, ho.om, ho.kk, ho.bk, ho.bb, ho.ig, ho.im, ho.a1, ho.a2, next_inR HH1.out, ho.a4, ho.a5, ho.a6, ho.a7⟩)
    have fz1 := s1.2.1.frozen 6
    have cz1 := s1.2.1.cell 6
    have ck1 : Y1.cell? ⟨gc, 0, none⟩ = some (.int .u8 κ) := s1.2.1.cell 0
    clear s1
    go_upto_region 12 with fail
    generalize Y1.setCell ⟨gc, 6, none⟩ (.int .i64 (r1 : Int)) = X1 at *
    have S1 := Sb1
    clear Sb1 fz1 cz1 ck1
    obtain ⟨⟨r2, l2, b2⟩, h2⟩ : ∃ p, Rp.next (l1, b1) = p := ⟨_, rfl⟩
    have HH2 := Lib.hid h2
    clear h2
    have c0 : X1.cell? ⟨gc, 0, none⟩ = some (.int .u8 κ) := S1.out.2.1.cell 0
    have c1 : X1.cell? ⟨gc, 1, none⟩ = some (.int .i64 0) := S1.out.2.1.cell 1
    have c2 : X1.cell? ⟨gc, 2, none⟩ = some (.slice none 0 0) := S1.out.2.1.cell 2
    have c3 : X1.cell? ⟨gc, 3, none⟩ = some (.int .i64 0) := S1.out.2.1.cell 3
    have c4 : X1.cell? ⟨gc, 4, none⟩ = some (.string ⟨#[]⟩) := S1.out.2.1.cell 4
    have c5 : X1.cell? ⟨gc, 5, none⟩ = some (.string ⟨#[]⟩) := S1.out.2.1.cell 5
    have c6 : X1.cell? ⟨gc, 6, none⟩ = some (.int .i64 (r1 : Int)) := S1.out.2.1.cell 6
    have c7 : X1.cell? ⟨gc, 7, none⟩ = some (.int .i64 0) := S1.out.2.1.cell 7
    have c8 : X1.cell? ⟨gc, 8, none⟩ = some (.slice none 0 0) := S1.out.2.1.cell 8
    have c9 : X1.cell? ⟨gc, 9, none⟩ = some (.int .i64 0) := S1.out.2.1.cell 9
    have c10 : X1.cell? ⟨gc, 10, none⟩ = some (.int .i64 0) := S1.out.2.1.cell 10
    have c11 : X1.cell? ⟨gc, 11, none⟩ = some (.int .i64 0) := S1.out.2.1.cell 11
    have fz := S1.out.2.1.frozen
    go_wp2_with fail
    clear fz c0 c1 c2 c3 c4 c5 c6 c7 c8 c9 c10 c11
    refine (S1.out.num HH2.out).mono ?_
    rintro e Y2 ⟨rfl, s2⟩
    have Sb2 : Hid (RC w.heap.size B gr gc l2 b2 (⟨κ, 0, none, 0, 0, [], 0, ⟨#[]⟩, ⟨#[]⟩, (r1 : Int), (r2 : Int), none, 0, 0, [], 0, 0, 0⟩ : HC) w (Y2.setCell ⟨gc, 7, none⟩ (.int .i64 (r2 : Int)))) := RC.set_ s2 rfl (fun ho => ⟨ho.og, ho.om, ho.kk, ho.bk, ho.bb, ho.ig, ho.im, ho.a1, ho.a2, ho.a3, next_inR HH2.out, ho.a5, ho.a6, ho.a7⟩)
    have fz2 := s2.2.1.frozen 7
    have cz2 := s2.2.1.cell 7
    have ck2 : Y2.cell? ⟨gc, 0, none⟩ = some (.int .u8 κ) := s2.2.1.cell 0
    clear s2
    go_upto_region 23 with fail
    generalize Y2.setCell ⟨gc, 7, none⟩ (.int .i64 (r2 : Int)) = X2 at *
    have S2 := Sb2
    clear Sb2 fz2 cz2 ck2
    have c0 : X2.cell? ⟨gc, 0, none⟩ = some (.int .u8 κ) := S2.out.2.1.cell 0
    have c1 : X2.cell? ⟨gc, 1, none⟩ = some (.int .i64 0) := S2.out.2.1.cell 1
    have c2 : X2.cell? ⟨gc, 2, none⟩ = some (.slice none 0 0) := S2.out.2.1.cell 2
    have c3 : X2.cell? ⟨gc, 3, none⟩ = some (.int .i64 0) := S2.out.2.1.cell 3
    have c4 : X2.cell? ⟨gc, 4, none⟩ = some (.string ⟨#[]⟩) := S2.out.2.1.cell 4
    have c5 : X2.cell? ⟨gc, 5, none⟩ = some (.string ⟨#[]⟩) := S2.out.2.1.cell 5
    have c6 : X2.cell? ⟨gc, 6, none⟩ = some (.int .i64 (r1 : Int)) := S2.out.2.1.cell 6
    have c7 : X2.cell? ⟨gc, 7, none⟩ = some (.int .i64 (r2 : Int)) := S2.out.2.1.cell 7
    have c8 : X2.cell? ⟨gc, 8, none⟩ = some (.slice none 0 0) := S2.out.2.1.cell 8
    have c9 : X2.cell? ⟨gc, 9, none⟩ = some (.int .i64 0) := S2.out.2.1.cell 9
    have c10 : X2.cell? ⟨gc, 10, none⟩ = some (.int .i64 0) := S2.out.2.1.cell 10
    have c11 : X2.cell? ⟨gc, 11, none⟩ = some (.int .i64 0) := S2.out.2.1.cell 11
    have fz := S2.out.2.1.frozen
    obtain ⟨z1, z2, z3, z4, z5, z6, z7, z8⟩ := S2.out
    have k0 : X2.cell? ⟨w.heap.size, 0, none⟩ = some (.int .u8 0) := z8.cell 0
    have k1 : X2.cell? ⟨w.heap.size, 1, none⟩ = some (.int .i64 0) := z8.cell 1
    have k2 : X2.cell? ⟨w.heap.size, 2, none⟩ = some (.slice none 0 0) := z8.cell 2
    have k3 : X2.cell? ⟨w.heap.size, 3, none⟩ = some (.int .i64 0) := z8.cell 3
    have k4 : X2.cell? ⟨w.heap.size, 4, none⟩ = some (.string ⟨#[]⟩) := z8.cell 4
    have k5 : X2.cell? ⟨w.heap.size, 5, none⟩ = some (.string ⟨#[]⟩) := z8.cell 5
    have k6 : X2.cell? ⟨w.heap.size, 6, none⟩ = some (.int .i64 0) := z8.cell 6
    have k7 : X2.cell? ⟨w.heap.size, 7, none⟩ = some (.int .i64 0) := z8.cell 7
    have k8 : X2.cell? ⟨w.heap.size, 8, none⟩ = some (.slice none 0 0) := z8.cell 8
    have k9 : X2.cell? ⟨w.heap.size, 9, none⟩ = some (.int .i64 0) := z8.cell 9
    have k10 : X2.cell? ⟨w.heap.size, 10, none⟩ = some (.int .i64 0) := z8.cell 10
    have k11 : X2.cell? ⟨w.heap.size, 11, none⟩ = some (.int .i64 0) := z8.cell 11
    have kf := z8.frozen
    have Z1 := Lib.hid z1
    have Z3 := Lib.hid z3
    have Z4 := Lib.hid z4
    have Z8 := Lib.hid z8
    clear z1 z2 z3 z4 z8
    go_wp2_with fail
    refine bodyPost_ret (v := .agg #[.int .u8 κ, .int .i64 0, .slice none 0 0, .int .i64 0, .string ⟨#[]⟩, .string ⟨#[]⟩, .int .i64 (r1 : Int), .int .i64 (r2 : Int), .slice none 0 0, .int .i64 0, .int .i64 0, .int .i64 0]) (by simp [results, Try.results55, go_sem, k0, k1, k2, k3, k4, k5, k6, k7, k8, k9, k10, k11]) rfl ⟨(⟨κ, 0, none, 0, 0, [], 0, ⟨#[]⟩, ⟨#[]⟩, (r1 : Int), (r2 : Int), none, 0, 0, [], 0, 0, 0⟩ : HC), l2, b2, rfl, ?_, ?_, ?_, ?_⟩
    · rw [HK.out, Cp.fields2]
      simp only [Cp.rdF, Cp.rd1, HH1.out, HH2.out, HC.cmd, Cp.zeroC, S_data, HK.out]
      try rfl
    · exact rst12 Z1.out hgl _ _ _ _ _ _ _ _ _ _ _ _
    · exact own12 Z3.out Z8.out _ _ _ _ _ _ _ _ _ _ _ _
    · exact only12 Z4.out _ _ _ _ _ _ _ _ _ _ _ _
  · have HK := Lib.hid h
    clear h
    have q1 : (κ == 1) = false := beq_eq_false_iff_ne.2 (by have := HK.out; omega)
    have q2 : (κ == 2) = false := beq_eq_false_iff_ne.2 (by have := HK.out; omega)
    have q3 : (κ == 3) = true := beq_iff_eq.2 (by have := HK.out; omega)
    have q4 : (κ == 4) = false := beq_eq_false_iff_ne.2 (by have := HK.out; omega)
    have q5 : (κ == 5) = false := beq_eq_false_iff_ne.2 (by have := HK.out; omega)
    have q6 : (κ == 6) = false := beq_eq_false_iff_ne.2 (by have := HK.out; omega)
    obtain ⟨⟨r1, l1, b1⟩, h1⟩ : ∃ p, Cp.intsK 6 (l0, b0) = p := ⟨_, rfl⟩
    have HH1 := Lib.hid h1
    clear h1
    have c0 : X0.cell? ⟨gc, 0, none⟩ = some (.int .u8 κ) := S0.out.2.1.cell 0
    have c1 : X0.cell? ⟨gc, 1, none⟩ = some (.int .i64 0) := S0.out.2.1.cell 1
    have c2 : X0.cell? ⟨gc, 2, none⟩ = some (.slice none 0 0) := S0.out.2.1.cell 2
    have c3 : X0.cell? ⟨gc, 3, none⟩ = some (.int .i64 0) := S0.out.2.1.cell 3
    have c4 : X0.cell? ⟨gc, 4, none⟩ = some (.string ⟨#[]⟩) := S0.out.2.1.cell 4
    have c5 : X0.cell? ⟨gc, 5, none⟩ = some (.string ⟨#[]⟩) := S0.out.2.1.cell 5
    have c6 : X0.cell? ⟨gc, 6, none⟩ = some (.int .i64 0) := S0.out.2.1.cell 6
    have c7 : X0.cell? ⟨gc, 7, none⟩ = some (.int .i64 0) := S0.out.2.1.cell 7
    have c8 : X0.cell? ⟨gc, 8, none⟩ = some (.slice none 0 0) := S0.out.2.1.cell 8
    have c9 : X0.cell? ⟨gc, 9, none⟩ = some (.int .i64 0) := S0.out.2.1.cell 9
    have c10 : X0.cell? ⟨gc, 10, none⟩ = some (.int .i64 0) := S0.out.2.1.cell 10
    have c11 : X0.cell? ⟨gc, 11, none⟩ = some (.int .i64 0) := S0.out.2.1.cell 11
    have fz := S0.out.2.1.frozen
    go_wp2_with fail
    clear fz c0 c1 c2 c3 c4 c5 c6 c7 c8 c9 c10 c11
    refine (S0.out.ints (by omega) HH1.out).mono ?_
    rintro e Y1 ⟨⟨A1, ca1, rfl, ho1⟩, s1⟩
    have HO1 := Lib.hid ho1
    clear ho1
    have Sb1 : Hid (RC w.heap.size B gr gc l1 b1 (⟨κ, 0, none, 0, 0, [], 0, ⟨#[]⟩, ⟨#[]⟩, 0, 0, A1, r1.length, ca1, r1, 0, 0, 0⟩ : HC) w (Y1.setCell ⟨gc, 8, none⟩ (.slice A1 r1.length ca1))) := RC.set_ s1 rfl (fun ho => ⟨ho.og, HO1.out, ho.kk, ho.bk, ho.bb, ho.ig, (ints_inR HH1.out).2, ho.a1, ho.a2, ho.a3, ho.a4, ho.a5, ho.a6, ho.a7⟩)
    have fz1 := s1.2.1.frozen 8
    have cz1 := s1.2.1.cell 8
    have ck1 : Y1.cell? ⟨gc, 0, none⟩ = some (.int .u8 κ) := s1.2.1.cell 0
    clear s1
    go_upto_region 23 with fail
    generalize Y1.setCell ⟨gc, 8, none⟩ (.slice A1 r1.length ca1) = X1 at *
    have S1 := Sb1
    clear Sb1 fz1 cz1 ck1
    have c0 : X1.cell? ⟨gc, 0, none⟩ = some (.int .u8 κ) := S1.out.2.1.cell 0
    have c1 : X1.cell? ⟨gc, 1, none⟩ = some (.int .i64 0) := S1.out.2.1.cell 1
    have c2 : X1.cell? ⟨gc, 2, none⟩ = some (.slice none 0 0) := S1.out.2.1.cell 2
    have c3 : X1.cell? ⟨gc, 3, none⟩ = some (.int .i64 0) := S1.out.2.1.cell 3
    have c4 : X1.cell? ⟨gc, 4, none⟩ = some (.string ⟨#[]⟩) := S1.out.2.1.cell 4
    have c5 : X1.cell? ⟨gc, 5, none⟩ = some (.string ⟨#[]⟩) := S1.out.2.1.cell 5
    have c6 : X1.cell? ⟨gc, 6, none⟩ = some (.int .i64 0) := S1.out.2.1.cell 6
    have c7 : X1.cell? ⟨gc, 7, none⟩ = some (.int .i64 0) := S1.out.2.1.cell 7
    have c8 : X1.cell? ⟨gc, 8, none⟩ = some (.slice A1 (r1.length) ca1) := S1.out.2.1.cell 8
    have c9 : X1.cell? ⟨gc, 9, none⟩ = some (.int .i64 0) := S1.out.2.1.cell 9
    have c10 : X1.cell? ⟨gc, 10, none⟩ = some (.int .i64 0) := S1.out.2.1.cell 10
    have c11 : X1.cell? ⟨gc, 11, none⟩ = some (.int .i64 0) := S1.out.2.1.cell 11
    have fz := S1.out.2.1.frozen
    obtain ⟨z1, z2, z3, z4, z5, z6, z7, z8⟩ := S1.out
    have k0 : X1.cell? ⟨w.heap.size, 0, none⟩ = some (.int .u8 0) := z8.cell 0
    have k1 : X1.cell? ⟨w.heap.size, 1, none⟩ = some (.int .i64 0) := z8.cell 1
    have k2 : X1.cell? ⟨w.heap.size, 2, none⟩ = some (.slice none 0 0) := z8.cell 2
    have k3 : X1.cell? ⟨w.heap.size, 3, none⟩ = some (.int .i64 0) := z8.cell 3
    have k4 : X1.cell? ⟨w.heap.size, 4, none⟩ = some (.string ⟨#[]⟩) := z8.cell 4
    have k5 : X1.cell? ⟨w.heap.size, 5, none⟩ = some (.string ⟨#[]⟩) := z8.cell 5
    have k6 : X1.cell? ⟨w.heap.size, 6, none⟩ = some (.int .i64 0) := z8.cell 6
    have k7 : X1.cell? ⟨w.heap.size, 7, none⟩ = some (.int .i64 0) := z8.cell 7
    have k8 : X1.cell? ⟨w.heap.size, 8, none⟩ = some (.slice none 0 0) := z8.cell 8
    have k9 : X1.cell? ⟨w.heap.size, 9, none⟩ = some (.int .i64 0) := z8.cell 9
    have k10 : X1.cell? ⟨w.heap.size, 10, none⟩ = some (.int .i64 0) := z8.cell 10
    have k11 : X1.cell? ⟨w.heap.size, 11, none⟩ = some (.int .i64 0) := z8.cell 11
    have kf := z8.frozen
    have Z1 := Lib.hid z1
    have Z3 := Lib.hid z3
    have Z4 := Lib.hid z4
    have Z8 := Lib.hid z8
    clear z1 z2 z3 z4 z8
    go_wp2_with fail
    refine bodyPost_ret (v := .agg #[.int .u8 κ, .int .i64 0, .slice none 0 0, .int .i64 0, .string ⟨#[]⟩, .string ⟨#[]⟩, .int .i64 0, .int .i64 0, .slice A1 (r1.length) ca1, .int .i64 0, .int .i64 0, .int .i64 0]) (by simp [results, Try.results55, go_sem, k0, k1, k2, k3, k4, k5, k6, k7, k8, k9, k10, k11]) rfl ⟨(⟨κ, 0, none, 0, 0, [], 0, ⟨#[]⟩, ⟨#[]⟩, 0, 0, A1, r1.length, ca1, r1, 0, 0, 0⟩ : HC), l1, b1, rfl, ?_, ?_, ?_, ?_⟩
    · rw [HK.out, Cp.fields3]
      simp only [Cp.rdF, Cp.rd1, HH1.out, HC.cmd, Cp.zeroC, S_data, HK.out]
      try rfl
    · exact rst12 Z1.out hgl _ _ _ _ _ _ _ _ _ _ _ _
    · exact own12 Z3.out Z8.out _ _ _ _ _ _ _ _ _ _ _ _
    · exact only12 Z4.out _ _ _ _ _ _ _ _ _ _ _ _
  · have HK := Lib.hid h
    clear h
    have q1 : (κ == 1) = false := beq_eq_false_iff_ne.2 (by have := HK.out; omega)
    have q2 : (κ == 2) = false := beq_eq_false_iff_ne.2 (by have := HK.out; omega)
    have q3 : (κ == 3) = false := beq_eq_false_iff_ne.2 (by have := HK.out; omega)
    have q4 : (κ == 4) = true := beq_iff_eq.2 (by have := HK.out; omega)
    have q5 : (κ == 5) = false := beq_eq_false_iff_ne.2 (by have := HK.out; omega)
    have q6 : (κ == 6) = false := beq_eq_false_iff_ne.2 (by have := HK.out; omega)
    obtain ⟨⟨r1, l1, b1⟩, h1⟩ : ∃ p, Rp.next (l0, b0) = p := ⟨_, rfl⟩
    have HH1 := Lib.hid h1
    clear h1
    have c0 : X0.cell? ⟨gc, 0, none⟩ = some (.int .u8 κ) := S0.out.2.1.cell 0
    have c1 : X0.cell? ⟨gc, 1, none⟩ = some (.int .i64 0) := S0.out.2.1.cell 1
    have c2 : X0.cell? ⟨gc, 2, none⟩ = some (.slice none 0 0) := S0.out.2.1.cell 2
    have c3 : X0.cell? ⟨gc, 3, none⟩ = some (.int .i64 0) := S0.out.2.1.cell 3
    have c4 : X0.cell? ⟨gc, 4, none⟩ = some (.string ⟨#[]⟩) := S0.out.2.1.cell 4
    have c5 : X0.cell? ⟨gc, 5, none⟩ = some (.string ⟨#[]⟩) := S0.out.2.1.cell 5
    have c6 : X0.cell? ⟨gc, 6, none⟩ = some (.int .i64 0) := S0.out.2.1.cell 6
    have c7 : X0.cell? ⟨gc, 7, none⟩ = some (.int .i64 0) := S0.out.2.1.cell 7
    have c8 : X0.cell? ⟨gc, 8, none⟩ = some (.slice none 0 0) := S0.out.2.1.cell 8
    have c9 : X0.cell? ⟨gc, 9, none⟩ = some (.int .i64 0) := S0.out.2.1.cell 9
    have c10 : X0.cell? ⟨gc, 10, none⟩ = some (.int .i64 0) := S0.out.2.1.cell 10
    have c11 : X0.cell? ⟨gc, 11, none⟩ = some (.int .i64 0) := S0.out.2.1.cell 11
    have fz := S0.out.2.1.frozen
    go_wp2_with fail
    clear fz c0 c1 c2 c3 c4 c5 c6 c7 c8 c9 c10 c11
    refine (S0.out.num HH1.out).mono ?_
    rintro e Y1 ⟨rfl, s1⟩
    have Sb1 : Hid (RC w.heap.size B gr gc l1 b1 (⟨κ, 0, none, 0, 0, [], 0, ⟨#[]⟩, ⟨#[]⟩, (r1 : Int), 0, none, 0, 0, [], 0, 0, 0⟩ : HC) w (Y1.setCell ⟨gc, 6, none⟩ (.int .i64 (r1 : Int)))) := RC.set_ s1 rfl (fun ho => ⟨ho.og, ho.om, ho.kk, ho.bk, ho.bb, ho.ig, ho.im, ho.a1, ho.a2, next_inR HH1.out, ho.a4, ho.a5, ho.a6, ho.a7⟩)
    have fz1 := s1.2.1.frozen 6
    have cz1 := s1.2.1.cell 6
    have ck1 : Y1.cell? ⟨gc, 0, none⟩ = some (.int .u8 κ) := s1.2.1.cell 0
    clear s1
    go_upto_region 19 with fail
    generalize Y1.setCell ⟨gc, 6, none⟩ (.int .i64 (r1 : Int)) = X1 at *
    have S1 := Sb1
    clear Sb1 fz1 cz1 ck1
    obtain ⟨⟨r2, l2, b2⟩, h2⟩ : ∃ p, Rp.next (l1, b1) = p := ⟨_, rfl⟩
    have HH2 := Lib.hid h2
    clear h2
    have c0 : X1.cell? ⟨gc, 0, none⟩ = some (.int .u8 κ) := S1.out.2.1.cell 0
    have c1 : X1.cell? ⟨gc, 1, none⟩ = some (.int .i64 0) := S1.out.2.1.cell 1
    have c2 : X1.cell? ⟨gc, 2, none⟩ = some (.slice none 0 0) := S1.out.2.1.cell 2
    have c3 : X1.cell? ⟨gc, 3, none⟩ = some (.int .i64 0) := S1.out.2.1.cell 3
    have c4 : X1.cell? ⟨gc, 4, none⟩ = some (.string ⟨#[]⟩) := S1.out.2.1.cell 4
    have c5 : X1.cell? ⟨gc, 5, none⟩ = some (.string ⟨#[]⟩) := S1.out.2.1.cell 5
    have c6 : X1.cell? ⟨gc, 6, none⟩ = some (.int .i64 (r1 : Int)) := S1.out.2.1.cell 6
    have c7 : X1.cell? ⟨gc, 7, none⟩ = some (.int .i64 0) := S1.out.2.1.cell 7
    have c8 : X1.cell? ⟨gc, 8, none⟩ = some (.slice none 0 0) := S1.out.2.1.cell 8
    have c9 : X1.cell? ⟨gc, 9, none⟩ = some (.int .i64 0) := S1.out.2.1.cell 9
    have c10 : X1.cell? ⟨gc, 10, none⟩ = some (.int .i64 0) := S1.out.2.1.cell 10
    have c11 : X1.cell? ⟨gc, 11, none⟩ = some (.int .i64 0) := S1.out.2.1.cell 11
    have fz := S1.out.2.1.frozen
    go_wp2_with fail
    clear fz c0 c1 c2 c3 c4 c5 c6 c7 c8 c9 c10 c11
    refine (S1.out.num HH2.out).mono ?_
    rintro e Y2 ⟨rfl, s2⟩
    have Sb2 : Hid (RC w.heap.size B gr gc l2 b2 (⟨κ, 0, none, 0, 0, [], 0, ⟨#[]⟩, ⟨#[]⟩, (r1 : Int), 0, none, 0, 0, [], (r2 : Int), 0, 0⟩ : HC) w (Y2.setCell ⟨gc, 9, none⟩ (.int .i64 (r2 : Int)))) := RC.set_ s2 rfl (fun ho => ⟨ho.og, ho.om, ho.kk, ho.bk, ho.bb, ho.ig, ho.im, ho.a1, ho.a2, ho.a3, ho.a4, next_inR HH2.out, ho.a6, ho.a7⟩)
    have fz2 := s2.2.1.frozen 9
    have cz2 := s2.2.1.cell 9
    have ck2 : Y2.cell? ⟨gc, 0, none⟩ = some (.int .u8 κ) := s2.2.1.cell 0
    clear s2
    go_upto_region 20 with fail
    generalize Y2.setCell ⟨gc, 9, none⟩ (.int .i64 (r2 : Int)) = X2 at *
    have S2 := Sb2
    clear Sb2 fz2 cz2 ck2
    obtain ⟨⟨r3, l3, b3⟩, h3⟩ : ∃ p, Rp.next (l2, b2) = p := ⟨_, rfl⟩
    have HH3 := Lib.hid h3
    clear h3
    have c0 : X2.cell? ⟨gc, 0, none⟩ = some (.int .u8 κ) := S2.out.2.1.cell 0
    have c1 : X2.cell? ⟨gc, 1, none⟩ = some (.int .i64 0) := S2.out.2.1.cell 1
    have c2 : X2.cell? ⟨gc, 2, none⟩ = some (.slice none 0 0) := S2.out.2.1.cell 2
    have c3 : X2.cell? ⟨gc, 3, none⟩ = some (.int .i64 0) := S2.out.2.1.cell 3
    have c4 : X2.cell? ⟨gc, 4, none⟩ = some (.string ⟨#[]⟩) := S2.out.2.1.cell 4
    have c5 : X2.cell? ⟨gc, 5, none⟩ = some (.string ⟨#[]⟩) := S2.out.2.1.cell 5
    have c6 : X2.cell? ⟨gc, 6, none⟩ = some (.int .i64 (r1 : Int)) := S2.out.2.1.cell 6
    have c7 : X2.cell? ⟨gc, 7, none⟩ = some (.int .i64 0) := S2.out.2.1.cell 7
    have c8 : X2.cell? ⟨gc, 8, none⟩ = some (.slice none 0 0) := S2.out.2.1.cell 8
    have c9 : X2.cell? ⟨gc, 9, none⟩ = some (.int .i64 (r2 : Int)) := S2.out.2.1.cell 9
    have c10 : X2.cell? ⟨gc, 10, none⟩ = some (.int .i64 0) := S2.out.2.1.cell 10
    have c11 : X2.cell? ⟨gc, 11, none⟩ = some (.int .i64 0) := S2.out.2.1.cell 11
    have fz := S2.out.2.1.frozen
    go_wp2_with fail
    clear fz c0 c1 c2 c3 c4 c5 c6 c7 c8 c9 c10 c11
    refine (S2.out.num HH3.out).mono ?_
    rintro e Y3 ⟨rfl, s3⟩
    have Sb3 : Hid (RC w.heap.size B gr gc l3 b3 (⟨κ, 0, none, 0, 0, [], 0, ⟨#[]⟩, ⟨#[]⟩, (r1 : Int), 0, none, 0, 0, [], (r2 : Int), (r3 : Int), 0⟩ : HC) w (Y3.setCell ⟨gc, 10, none⟩ (.int .i64 (r3 : Int)))) := RC.set_ s3 rfl (fun ho => ⟨ho.og, ho.om, ho.kk, ho.bk, ho.bb, ho.ig, ho.im, ho.a1, ho.a2, ho.a3, ho.a4, ho.a5, next_inR HH3.out, ho.a7⟩)
    have fz3 := s3.2.1.frozen 10
    have cz3 := s3.2.1.cell 10
    have ck3 : Y3.cell? ⟨gc, 0, none⟩ = some (.int .u8 κ) := s3.2.1.cell 0
    clear s3
    go_upto_region 22 with fail
    generalize Y3.setCell ⟨gc, 10, none⟩ (.int .i64 (r3 : Int)) = X3 at *
    have S3 := Sb3
    clear Sb3 fz3 cz3 ck3
    obtain ⟨⟨r4, l4, b4⟩, h4⟩ : ∃ p, Rp.next (l3, b3) = p := ⟨_, rfl⟩
    have HH4 := Lib.hid h4
    clear h4
    have c0 : X3.cell? ⟨gc, 0, none⟩ = some (.int .u8 κ) := S3.out.2.1.cell 0
    have c1 : X3.cell? ⟨gc, 1, none⟩ = some (.int .i64 0) := S3.out.2.1.cell 1
    have c2 : X3.cell? ⟨gc, 2, none⟩ = some (.slice none 0 0) := S3.out.2.1.cell 2
    have c3 : X3.cell? ⟨gc, 3, none⟩ = some (.int .i64 0) := S3.out.2.1.cell 3
    have c4 : X3.cell? ⟨gc, 4, none⟩ = some (.string ⟨#[]⟩) := S3.out.2.1.cell 4
    have c5 : X3.cell? ⟨gc, 5, none⟩ = some (.string ⟨#[]⟩) := S3.out.2.1.cell 5
    have c6 : X3.cell? ⟨gc, 6, none⟩ = some (.int .i64 (r1 : Int)) := S3.out.2.1.cell 6
    have c7 : X3.cell? ⟨gc, 7, none⟩ = some (.int .i64 0) := S3.out.2.1.cell 7
    have c8 : X3.cell? ⟨gc, 8, none⟩ = some (.slice none 0 0) := S3.out.2.1.cell 8
    have c9 : X3.cell? ⟨gc, 9, none⟩ = some (.int .i64 (r2 : Int)) := S3.out.2.1.cell 9
    have c10 : X3.cell? ⟨gc, 10, none⟩ = some (.int .i64 (r3 : Int)) := S3.out.2.1.cell 10
    have c11 : X3.cell? ⟨gc, 11, none⟩ = some (.int .i64 0) := S3.out.2.1.cell 11
    have fz := S3.out.2.1.frozen
    go_wp2_with fail
    clear fz c0 c1 c2 c3 c4 c5 c6 c7 c8 c9 c10 c11
    refine (S3.out.num HH4.out).mono ?_
    rintro e Y4 ⟨rfl, s4⟩
    have Sb4 : Hid (RC w.heap.size B gr gc l4 b4 (⟨κ, 0, none, 0, 0, [], 0, ⟨#[]⟩, ⟨#[]⟩, (r1 : Int), 0, none, 0, 0, [], (r2 : Int), (r3 : Int), (r4 : Int)⟩ : HC) w (Y4.setCell ⟨gc, 11, none⟩ (.int .i64 (r4 : Int)))) := RC.set_ s4 rfl (fun ho => ⟨ho.og, ho.om, ho.kk, ho.bk, ho.bb, ho.ig, ho.im, ho.a1, ho.a2, ho.a3, ho.a4, ho.a5, ho.a6, next_inR HH4.out⟩)
    have fz4 := s4.2.1.frozen 11
    have cz4 := s4.2.1.cell 11
    have ck4 : Y4.cell? ⟨gc, 0, none⟩ = some (.int .u8 κ) := s4.2.1.cell 0
    clear s4
    go_upto_region 23 with fail
    generalize Y4.setCell ⟨gc, 11, none⟩ (.int .i64 (r4 : Int)) = X4 at *
    have S4 := Sb4
    clear Sb4 fz4 cz4 ck4
    have c0 : X4.cell? ⟨gc, 0, none⟩ = some (.int .u8 κ) := S4.out.2.1.cell 0
    have c1 : X4.cell? ⟨gc, 1, none⟩ = some (.int .i64 0) := S4.out.2.1.cell 1
    have c2 : X4.cell? ⟨gc, 2, none⟩ = some (.slice none 0 0) := S4.out.2.1.cell 2
    have c3 : X4.cell? ⟨gc, 3, none⟩ = some (.int .i64 0) := S4.out.2.1.cell 3
    have c4 : X4.cell? ⟨gc, 4, none⟩ = some (.string ⟨#[]⟩) := S4.out.2.1.cell 4
    have c5 : X4.cell? ⟨gc, 5, none⟩ = some (.string ⟨#[]⟩) := S4.out.2.1.cell 5
    have c6 : X4.cell? ⟨gc, 6, none⟩ = some (.int .i64 (r1 : Int)) := S4.out.2.1.cell 6
    have c7 : X4.cell? ⟨gc, 7, none⟩ = some (.int .i64 0) := S4.out.2.1.cell 7
    have c8 : X4.cell? ⟨gc, 8, none⟩ = some (.slice none 0 0) := S4.out.2.1.cell 8
    have c9 : X4.cell? ⟨gc, 9, none⟩ = some (.int .i64 (r2 : Int)) := S4.out.2.1.cell 9
    have c10 : X4.cell? ⟨gc, 10, none⟩ = some (.int .i64 (r3 : Int)) := S4.out.2.1.cell 10
    have c11 : X4.cell? ⟨gc, 11, none⟩ = some (.int .i64 (r4 : Int)) := S4.out.2.1.cell 11
    have fz := S4.out.2.1.frozen
    obtain ⟨z1, z2, z3, z4, z5, z6, z7, z8⟩ := S4.out
    have k0 : X4.cell? ⟨w.heap.size, 0, none⟩ = some (.int .u8 0) := z8.cell 0
    have k1 : X4.cell? ⟨w.heap.size, 1, none⟩ = some (.int .i64 0) := z8.cell 1
    have k2 : X4.cell? ⟨w.heap.size, 2, none⟩ = some (.slice none 0 0) := z8.cell 2
    have k3 : X4.cell? ⟨w.heap.size, 3, none⟩ = some (.int .i64 0) := z8.cell 3
    have k4 : X4.cell? ⟨w.heap.size, 4, none⟩ = some (.string ⟨#[]⟩) := z8.cell 4
    have k5 : X4.cell? ⟨w.heap.size, 5, none⟩ = some (.string ⟨#[]⟩) := z8.cell 5
    have k6 : X4.cell? ⟨w.heap.size, 6, none⟩ = some (.int .i64 0) := z8.cell 6
    have k7 : X4.cell? ⟨w.heap.size, 7, none⟩ = some (.int .i64 0) := z8.cell 7
    have k8 : X4.cell? ⟨w.heap.size, 8, none⟩ = some (.slice none 0 0) := z8.cell 8
    have k9 : X4.cell? ⟨w.heap.size, 9, none⟩ = some (.int .i64 0) := z8.cell 9
    have k10 : X4.cell? ⟨w.heap.size, 10, none⟩ = some (.int .i64 0) := z8.cell 10
    have k11 : X4.cell? ⟨w.heap.size, 11, none⟩ = some (.int .i64 0) := z8.cell 11
    have kf := z8.frozen
    have Z1 := Lib.hid z1
    have Z3 := Lib.hid z3
    have Z4 := Lib.hid z4
    have Z8 := Lib.hid z8
    clear z1 z2 z3 z4 z8
    go_wp2_with fail
    refine bodyPost_ret (v := .agg #[.int .u8 κ, .int .i64 0, .slice none 0 0, .int .i64 0, .string ⟨#[]⟩, .string ⟨#[]⟩, .int .i64 (r1 : Int), .int .i64 0, .slice none 0 0, .int .i64 (r2 : Int), .int .i64 (r3 : Int), .int .i64 (r4 : Int)]) (by simp [results, Try.results55, go_sem, k0, k1, k2, k3, k4, k5, k6, k7, k8, k9, k10, k11]) rfl ⟨(⟨κ, 0, none, 0, 0, [], 0, ⟨#[]⟩, ⟨#[]⟩, (r1 : Int), 0, none, 0, 0, [], (r2 : Int), (r3 : Int), (r4 : Int)⟩ : HC), l4, b4, rfl, ?_, ?_, ?_, ?_⟩
    · rw [HK.out, Cp.fields4]
      simp only [Cp.rdF, Cp.rd1, HH1.out, HH2.out, HH3.out, HH4.out, HC.cmd, Cp.zeroC, S_data, HK.out]
      try rfl
    · exact rst12 Z1.out hgl _ _ _ _ _ _ _ _ _ _ _ _
    · exact own12 Z3.out Z8.out _ _ _ _ _ _ _ _ _ _ _ _
    · exact only12 Z4.out _ _ _ _ _ _ _ _ _ _ _ _
  · have HK := Lib.hid h
    clear h
    have q1 : (κ == 1) = false := beq_eq_false_iff_ne.2 (by have := HK.out; omega)
    have q2 : (κ == 2) = false := beq_eq_false_iff_ne.2 (by have := HK.out; omega)
    have q3 : (κ == 3) = false := beq_eq_false_iff_ne.2 (by have := HK.out; omega)
    have q4 : (κ == 4) = false := beq_eq_false_iff_ne.2 (by have := HK.out; omega)
    have q5 : (κ == 5) = true := beq_iff_eq.2 (by have := HK.out; omega)
    have q6 : (κ == 6) = false := beq_eq_false_iff_ne.2 (by have := HK.out; omega)
    obtain ⟨⟨r1, l1, b1⟩, h1⟩ : ∃ p, Rp.next (l0, b0) = p := ⟨_, rfl⟩
    have HH1 := Lib.hid h1
    clear h1
    have c0 : X0.cell? ⟨gc, 0, none⟩ = some (.int .u8 κ) := S0.out.2.1.cell 0
    have c1 : X0.cell? ⟨gc, 1, none⟩ = some (.int .i64 0) := S0.out.2.1.cell 1
    have c2 : X0.cell? ⟨gc, 2, none⟩ = some (.slice none 0 0) := S0.out.2.1.cell 2
    have c3 : X0.cell? ⟨gc, 3, none⟩ = some (.int .i64 0) := S0.out.2.1.cell 3
    have c4 : X0.cell? ⟨gc, 4, none⟩ = some (.string ⟨#[]⟩) := S0.out.2.1.cell 4
    have c5 : X0.cell? ⟨gc, 5, none⟩ = some (.string ⟨#[]⟩) := S0.out.2.1.cell 5
    have c6 : X0.cell? ⟨gc, 6, none⟩ = some (.int .i64 0) := S0.out.2.1.cell 6
    have c7 : X0.cell? ⟨gc, 7, none⟩ = some (.int .i64 0) := S0.out.2.1.cell 7
    have c8 : X0.cell? ⟨gc, 8, none⟩ = some (.slice none 0 0) := S0.out.2.1.cell 8
    have c9 : X0.cell? ⟨gc, 9, none⟩ = some (.int .i64 0) := S0.out.2.1.cell 9
    have c10 : X0.cell? ⟨gc, 10, none⟩ = some (.int .i64 0) := S0.out.2.1.cell 10
    have c11 : X0.cell? ⟨gc, 11, none⟩ = some (.int .i64 0) := S0.out.2.1.cell 11
    have fz := S0.out.2.1.frozen
    go_wp2_with fail
    clear fz c0 c1 c2 c3 c4 c5 c6 c7 c8 c9 c10 c11
    refine (S0.out.num HH1.out).mono ?_
    rintro e Y1 ⟨rfl, s1⟩
    have Sb1 : Hid (RC w.heap.size B gr gc l1 b1 (⟨κ, 0, none, 0, 0, [], 0, ⟨#[]⟩, ⟨#[]⟩, (r1 : Int), 0, none, 0, 0, [], 0, 0, 0⟩ : HC) w (Y1.setCell ⟨gc, 6, none⟩ (.int .i64 (r1 : Int)))) := RC.set_ s1 rfl (fun ho => ⟨ho.og, ho.om, ho.kk, ho.bk, ho.bb, ho.ig, ho.im, ho.a1, ho.a2, next_inR HH1.out, ho.a4, ho.a5, ho.a6, ho.a7⟩)
    have fz1 := s1.2.1.frozen 6
    have cz1 := s1.2.1.cell 6
    have ck1 : Y1.cell? ⟨gc, 0, none⟩ = some (.int .u8 κ) := s1.2.1.cell 0
    clear s1
    go_upto_region 19 with fail
    generalize Y1.setCell ⟨gc, 6, none⟩ (.int .i64 (r1 : Int)) = X1 at *
    have S1 := Sb1
    clear Sb1 fz1 cz1 ck1
    obtain ⟨⟨r2, l2, b2⟩, h2⟩ : ∃ p, Rp.next (l1, b1) = p := ⟨_, rfl⟩
    have HH2 := Lib.hid h2
    clear h2
    have c0 : X1.cell? ⟨gc, 0, none⟩ = some (.int .u8 κ) := S1.out.2.1.cell 0
    have c1 : X1.cell? ⟨gc, 1, none⟩ = some (.int .i64 0) := S1.out.2.1.cell 1
    have c2 : X1.cell? ⟨gc, 2, none⟩ = some (.slice none 0 0) := S1.out.2.1.cell 2
    have c3 : X1.cell? ⟨gc, 3, none⟩ = some (.int .i64 0) := S1.out.2.1.cell 3
    have c4 : X1.cell? ⟨gc, 4, none⟩ = some (.string ⟨#[]⟩) := S1.out.2.1.cell 4
    have c5 : X1.cell? ⟨gc, 5, none⟩ = some (.string ⟨#[]⟩) := S1.out.2.1.cell 5
    have c6 : X1.cell? ⟨gc, 6, none⟩ = some (.int .i64 (r1 : Int)) := S1.out.2.1.cell 6
    have c7 : X1.cell? ⟨gc, 7, none⟩ = some (.int .i64 0) := S1.out.2.1.cell 7
    have c8 : X1.cell? ⟨gc, 8, none⟩ = some (.slice none 0 0) := S1.out.2.1.cell 8
    have c9 : X1.cell? ⟨gc, 9, none⟩ = some (.int .i64 0) := S1.out.2.1.cell 9
    have c10 : X1.cell? ⟨gc, 10, none⟩ = some (.int .i64 0) := S1.out.2.1.cell 10
    have c11 : X1.cell? ⟨gc, 11, none⟩ = some (.int .i64 0) := S1.out.2.1.cell 11
    have fz := S1.out.2.1.frozen
    go_wp2_with fail
    clear fz c0 c1 c2 c3 c4 c5 c6 c7 c8 c9 c10 c11
    refine (S1.out.num HH2.out).mono ?_
    rintro e Y2 ⟨rfl, s2⟩
    have Sb2 : Hid (RC w.heap.size B gr gc l2 b2 (⟨κ, 0, none, 0, 0, [], 0, ⟨#[]⟩, ⟨#[]⟩, (r1 : Int), 0, none, 0, 0, [], (r2 : Int), 0, 0⟩ : HC) w (Y2.setCell ⟨gc, 9, none⟩ (.int .i64 (r2 : Int)))) := RC.set_ s2 rfl (fun ho => ⟨ho.og, ho.om, ho.kk, ho.bk, ho.bb, ho.ig, ho.im, ho.a1, ho.a2, ho.a3, ho.a4, next_inR HH2.out, ho.a6, ho.a7⟩)
    have fz2 := s2.2.1.frozen 9
    have cz2 := s2.2.1.cell 9
    have ck2 : Y2.cell? ⟨gc, 0, none⟩ = some (.int .u8 κ) := s2.2.1.cell 0
    clear s2
    go_upto_region 20 with fail
    generalize Y2.setCell ⟨gc, 9, none⟩ (.int .i64 (r2 : Int)) = X2 at *
    have S2 := Sb2
    clear Sb2 fz2 cz2 ck2
    obtain ⟨⟨r3, l3, b3⟩, h3⟩ : ∃ p, Rp.next (l2, b2) = p := ⟨_, rfl⟩
    have HH3 := Lib.hid h3
    clear h3
    have c0 : X2.cell? ⟨gc, 0, none⟩ = some (.int .u8 κ) := S2.out.2.1.cell 0
    have c1 : X2.cell? ⟨gc, 1, none⟩ = some (.int .i64 0) := S2.out.2.1.cell 1
    have c2 : X2.cell? ⟨gc, 2, none⟩ = some (.slice none 0 0) := S2.out.2.1.cell 2
    have c3 : X2.cell? ⟨gc, 3, none⟩ = some (.int .i64 0) := S2.out.2.1.cell 3
    have c4 : X2.cell? ⟨gc, 4, none⟩ = some (.string ⟨#[]⟩) := S2.out.2.1.cell 4
    have c5 : X2.cell? ⟨gc, 5, none⟩ = some (.string ⟨#[]⟩) := S2.out.2.1.cell 5
    have c6 : X2.cell? ⟨gc, 6, none⟩ = some (.int .i64 (r1 : Int)) := S2.out.2.1.cell 6
    have c7 : X2.cell? ⟨gc, 7, none⟩ = some (.int .i64 0) := S2.out.2.1.cell 7
    have c8 : X2.cell? ⟨gc, 8, none⟩ = some (.slice none 0 0) := S2.out.2.1.cell 8
    have c9 : X2.cell? ⟨gc, 9, none⟩ = some (.int .i64 (r2 : Int)) := S2.out.2.1.cell 9
    have c10 : X2.cell? ⟨gc, 10, none⟩ = some (.int .i64 0) := S2.out.2.1.cell 10
    have c11 : X2.cell? ⟨gc, 11, none⟩ = some (.int .i64 0) := S2.out.2.1.cell 11
    have fz := S2.out.2.1.frozen
    go_wp2_with fail
    clear fz c0 c1 c2 c3 c4 c5 c6 c7 c8 c9 c10 c11
    refine (S2.out.num HH3.out).mono ?_
    rintro e Y3 ⟨rfl, s3⟩
    have Sb3 : Hid (RC w.heap.size B gr gc l3 b3 (⟨κ, 0, none, 0, 0, [], 0, ⟨#[]⟩, ⟨#[]⟩, (r1 : Int), 0, none, 0, 0, [], (r2 : Int), 0, (r3 : Int)⟩ : HC) w (Y3.setCell ⟨gc, 11, none⟩ (.int .i64 (r3 : Int)))) := RC.set_ s3 rfl (fun ho => ⟨ho.og, ho.om, ho.kk, ho.bk, ho.bb, ho.ig, ho.im, ho.a1, ho.a2, ho.a3, ho.a4, ho.a5, ho.a6, next_inR HH3.out⟩)
    have fz3 := s3.2.1.frozen 11
    have cz3 := s3.2.1.cell 11
    have ck3 : Y3.cell? ⟨gc, 0, none⟩ = some (.int .u8 κ) := s3.2.1.cell 0
    clear s3
    go_upto_region 23 with fail
    generalize Y3.setCell ⟨gc, 11, none⟩ (.int .i64 (r3 : Int)) = X3 at *
    have S3 := Sb3
    clear Sb3 fz3 cz3 ck3
    have c0 : X3.cell? ⟨gc, 0, none⟩ = some (.int .u8 κ) := S3.out.2.1.cell 0
    have c1 : X3.cell? ⟨gc, 1, none⟩ = some (.int .i64 0) := S3.out.2.1.cell 1
    have c2 : X3.cell? ⟨gc, 2, none⟩ = some (.slice none 0 0) := S3.out.2.1.cell 2
    have c3 : X3.cell? ⟨gc, 3, none⟩ = some (.int .i64 0) := S3.out.2.1.cell 3
    have c4 : X3.cell? ⟨gc, 4, none⟩ = some (.string ⟨#[]⟩) := S3.out.2.1.cell 4
    have c5 : X3.cell? ⟨gc, 5, none⟩ = some (.string ⟨#[]⟩) := S3.out.2.1.cell 5
    have c6 : X3.cell? ⟨gc, 6, none⟩ = some (.int .i64 (r1 : Int)) := S3.out.2.1.cell 6
    have c7 : X3.cell? ⟨gc, 7, none⟩ = some (.int .i64 0) := S3.out.2.1.cell 7
    have c8 : X3.cell? ⟨gc, 8, none⟩ = some (.slice none 0 0) := S3.out.2.1.cell 8
    have c9 : X3.cell? ⟨gc, 9, none⟩ = some (.int .i64 (r2 : Int)) := S3.out.2.1.cell 9
    have c10 : X3.cell? ⟨gc, 10, none⟩ = some (.int .i64 0) := S3.out.2.1.cell 10
    have c11 : X3.cell? ⟨gc, 11, none⟩ = some (.int .i64 (r3 : Int)) := S3.out.2.1.cell 11
    have fz := S3.out.2.1.frozen
    obtain ⟨z1, z2, z3, z4, z5, z6, z7, z8⟩ := S3.out
    have k0 : X3.cell? ⟨w.heap.size, 0, none⟩ = some (.int .u8 0) := z8.cell 0
    have k1 : X3.cell? ⟨w.heap.size, 1, none⟩ = some (.int .i64 0) := z8.cell 1
    have k2 : X3.cell? ⟨w.heap.size, 2, none⟩ = some (.slice none 0 0) := z8.cell 2
    have k3 : X3.cell? ⟨w.heap.size, 3, none⟩ = some (.int .i64 0) := z8.cell 3
    have k4 : X3.cell? ⟨w.heap.size, 4, none⟩ = some (.string ⟨#[]⟩) := z8.cell 4
    have k5 : X3.cell? ⟨w.heap.size, 5, none⟩ = some (.string ⟨#[]⟩) := z8.cell 5
    have k6 : X3.cell? ⟨w.heap.size, 6, none⟩ = some (.int .i64 0) := z8.cell 6
    have k7 : X3.cell? ⟨w.heap.size, 7, none⟩ = some (.int .i64 0) := z8.cell 7
    have k8 : X3.cell? ⟨w.heap.size, 8, none⟩ = some (.slice none 0 0) := z8.cell 8
    have k9 : X3.cell? ⟨w.heap.size, 9, none⟩ = some (.int .i64 0) := z8.cell 9
    have k10 : X3.cell? ⟨w.heap.size, 10, none⟩ = some (.int .i64 0) := z8.cell 10
    have k11 : X3.cell? ⟨w.heap.size, 11, none⟩ = some (.int .i64 0) := z8.cell 11
    have kf := z8.frozen
    have Z1 := Lib.hid z1
    have Z3 := Lib.hid z3
    have Z4 := Lib.hid z4
    have Z8 := Lib.hid z8
    clear z1 z2 z3 z4 z8
    go_wp2_with fail
    refine bodyPost_ret (v := .agg #[.int .u8 κ, .int .i64 0, .slice none 0 0, .int .i64 0, .string ⟨#[]⟩, .string ⟨#[]⟩, .int .i64 (r1 : Int), .int .i64 0, .slice none 0 0, .int .i64 (r2 : Int), .int .i64 0, .int .i64 (r3 : Int)]) (by simp [results, Try.results55, go_sem, k0, k1, k2, k3, k4, k5, k6, k7, k8, k9, k10, k11]) rfl ⟨(⟨κ, 0, none, 0, 0, [], 0, ⟨#[]⟩, ⟨#[]⟩, (r1 : Int), 0, none, 0, 0, [], (r2 : Int), 0, (r3 : Int)⟩ : HC), l3, b3, rfl, ?_, ?_, ?_, ?_⟩
    · rw [HK.out, Cp.fields5]
      simp only [Cp.rdF, Cp.rd1, HH1.out, HH2.out, HH3.out, HC.cmd, Cp.zeroC, S_data, HK.out]
      try rfl
    · exact rst12 Z1.out hgl _ _ _ _ _ _ _ _ _ _ _ _
    · exact own12 Z3.out Z8.out _ _ _ _ _ _ _ _ _ _ _ _
    · exact only12 Z4.out _ _ _ _ _ _ _ _ _ _ _ _
  · have HK := Lib.hid h
    clear h
    have q1 : (κ == 1) = false := beq_eq_false_iff_ne.2 (by have := HK.out; omega)
    have q2 : (κ == 2) = false := beq_eq_false_iff_ne.2 (by have := HK.out; omega)
    have q3 : (κ == 3) = false := beq_eq_false_iff_ne.2 (by have := HK.out; omega)
    have q4 : (κ == 4) = false := beq_eq_false_iff_ne.2 (by have := HK.out; omega)
    have q5 : (κ == 5) = false := beq_eq_false_iff_ne.2 (by have := HK.out; omega)
    have q6 : (κ == 6) = true := beq_iff_eq.2 (by have := HK.out; omega)
    obtain ⟨⟨r1, l1, b1⟩, h1⟩ : ∃ p, Rp.next (l0, b0) = p := ⟨_, rfl⟩
    have HH1 := Lib.hid h1
    clear h1
    have c0 : X0.cell? ⟨gc, 0, none⟩ = some (.int .u8 κ) := S0.out.2.1.cell 0
    have c1 : X0.cell? ⟨gc, 1, none⟩ = some (.int .i64 0) := S0.out.2.1.cell 1
    have c2 : X0.cell? ⟨gc, 2, none⟩ = some (.slice none 0 0) := S0.out.2.1.cell 2
    have c3 : X0.cell? ⟨gc, 3, none⟩ = some (.int .i64 0) := S0.out.2.1.cell 3
    have c4 : X0.cell? ⟨gc, 4, none⟩ = some (.string ⟨#[]⟩) := S0.out.2.1.cell 4
    have c5 : X0.cell? ⟨gc, 5, none⟩ = some (.string ⟨#[]⟩) := S0.out.2.1.cell 5
    have c6 : X0.cell? ⟨gc, 6, none⟩ = some (.int .i64 0) := S0.out.2.1.cell 6
    have c7 : X0.cell? ⟨gc, 7, none⟩ = some (.int .i64 0) := S0.out.2.1.cell 7
    have c8 : X0.cell? ⟨gc, 8, none⟩ = some (.slice none 0 0) := S0.out.2.1.cell 8
    have c9 : X0.cell? ⟨gc, 9, none⟩ = some (.int .i64 0) := S0.out.2.1.cell 9
    have c10 : X0.cell? ⟨gc, 10, none⟩ = some (.int .i64 0) := S0.out.2.1.cell 10
    have c11 : X0.cell? ⟨gc, 11, none⟩ = some (.int .i64 0) := S0.out.2.1.cell 11
    have fz := S0.out.2.1.frozen
    go_wp2_with fail
    clear fz c0 c1 c2 c3 c4 c5 c6 c7 c8 c9 c10 c11
    refine (S0.out.num HH1.out).mono ?_
    rintro e Y1 ⟨rfl, s1⟩
    have Sb1 : Hid (RC w.heap.size B gr gc l1 b1 (⟨κ, 0, none, 0, 0, [], 0, ⟨#[]⟩, ⟨#[]⟩, (r1 : Int), 0, none, 0, 0, [], 0, 0, 0⟩ : HC) w (Y1.setCell ⟨gc, 6, none⟩ (.int .i64 (r1 : Int)))) := RC.set_ s1 rfl (fun ho => ⟨ho.og, ho.om, ho.kk, ho.bk, ho.bb, ho.ig, ho.im, ho.a1, ho.a2, next_inR HH1.out, ho.a4, ho.a5, ho.a6, ho.a7⟩)
    have fz1 := s1.2.1.frozen 6
    have cz1 := s1.2.1.cell 6
    have ck1 : Y1.cell? ⟨gc, 0, none⟩ = some (.int .u8 κ) := s1.2.1.cell 0
    clear s1
    go_upto_region 19 with fail
    generalize Y1.setCell ⟨gc, 6, none⟩ (.int .i64 (r1 : Int)) = X1 at *
    have S1 := Sb1
    clear Sb1 fz1 cz1 ck1
    obtain ⟨⟨r2, l2, b2⟩, h2⟩ : ∃ p, Rp.next (l1, b1) = p := ⟨_, rfl⟩
    have HH2 := Lib.hid h2
    clear h2
    have c0 : X1.cell? ⟨gc, 0, none⟩ = some (.int .u8 κ) := S1.out.2.1.cell 0
    have c1 : X1.cell? ⟨gc, 1, none⟩ = some (.int .i64 0) := S1.out.2.1.cell 1
    have c2 : X1.cell? ⟨gc, 2, none⟩ = some (.slice none 0 0) := S1.out.2.1.cell 2
    have c3 : X1.cell? ⟨gc, 3, none⟩ = some (.int .i64 0) := S1.out.2.1.cell 3
    have c4 : X1.cell? ⟨gc, 4, none⟩ = some (.string ⟨#[]⟩) := S1.out.2.1.cell 4
    have c5 : X1.cell? ⟨gc, 5, none⟩ = some (.string ⟨#[]⟩) := S1.out.2.1.cell 5
    have c6 : X1.cell? ⟨gc, 6, none⟩ = some (.int .i64 (r1 : Int)) := S1.out.2.1.cell 6
    have c7 : X1.cell? ⟨gc, 7, none⟩ = some (.int .i64 0) := S1.out.2.1.cell 7
    have c8 : X1.cell? ⟨gc, 8, none⟩ = some (.slice none 0 0) := S1.out.2.1.cell 8
    have c9 : X1.cell? ⟨gc, 9, none⟩ = some (.int .i64 0) := S1.out.2.1.cell 9
    have c10 : X1.cell? ⟨gc, 10, none⟩ = some (.int .i64 0) := S1.out.2.1.cell 10
    have c11 : X1.cell? ⟨gc, 11, none⟩ = some (.int .i64 0) := S1.out.2.1.cell 11
    have fz := S1.out.2.1.frozen
    go_wp2_with fail
    clear fz c0 c1 c2 c3 c4 c5 c6 c7 c8 c9 c10 c11
    refine (S1.out.num HH2.out).mono ?_
    rintro e Y2 ⟨rfl, s2⟩
    have Sb2 : Hid (RC w.heap.size B gr gc l2 b2 (⟨κ, 0, none, 0, 0, [], 0, ⟨#[]⟩, ⟨#[]⟩, (r1 : Int), 0, none, 0, 0, [], (r2 : Int), 0, 0⟩ : HC) w (Y2.setCell ⟨gc, 9, none⟩ (.int .i64 (r2 : Int)))) := RC.set_ s2 rfl (fun ho => ⟨ho.og, ho.om, ho.kk, ho.bk, ho.bb, ho.ig, ho.im, ho.a1, ho.a2, ho.a3, ho.a4, next_inR HH2.out, ho.a6, ho.a7⟩)
    have fz2 := s2.2.1.frozen 9
    have cz2 := s2.2.1.cell 9
    have ck2 : Y2.cell? ⟨gc, 0, none⟩ = some (.int .u8 κ) := s2.2.1.cell 0
    clear s2
    go_upto_region 20 with fail
    generalize Y2.setCell ⟨gc, 9, none⟩ (.int .i64 (r2 : Int)) = X2 at *
    have S2 := Sb2
    clear Sb2 fz2 cz2 ck2
    obtain ⟨⟨r3, l3, b3⟩, h3⟩ : ∃ p, Rp.next (l2, b2) = p := ⟨_, rfl⟩
    have HH3 := Lib.hid h3
    clear h3
    have c0 : X2.cell? ⟨gc, 0, none⟩ = some (.int .u8 κ) := S2.out.2.1.cell 0
    have c1 : X2.cell? ⟨gc, 1, none⟩ = some (.int .i64 0) := S2.out.2.1.cell 1
    have c2 : X2.cell? ⟨gc, 2, none⟩ = some (.slice none 0 0) := S2.out.2.1.cell 2
    have c3 : X2.cell? ⟨gc, 3, none⟩ = some (.int .i64 0) := S2.out.2.1.cell 3
    have c4 : X2.cell? ⟨gc, 4, none⟩ = some (.string ⟨#[]⟩) := S2.out.2.1.cell 4
    have c5 : X2.cell? ⟨gc, 5, none⟩ = some (.string ⟨#[]⟩) := S2.out.2.1.cell 5
    have c6 : X2.cell? ⟨gc, 6, none⟩ = some (.int .i64 (r1 : Int)) := S2.out.2.1.cell 6
    have c7 : X2.cell? ⟨gc, 7, none⟩ = some (.int .i64 0) := S2.out.2.1.cell 7
    have c8 : X2.cell? ⟨gc, 8, none⟩ = some (.slice none 0 0) := S2.out.2.1.cell 8
    have c9 : X2.cell? ⟨gc, 9, none⟩ = some (.int .i64 (r2 : Int)) := S2.out.2.1.cell 9
    have c10 : X2.cell? ⟨gc, 10, none⟩ = some (.int .i64 0) := S2.out.2.1.cell 10
    have c11 : X2.cell? ⟨gc, 11, none⟩ = some (.int .i64 0) := S2.out.2.1.cell 11
    have fz := S2.out.2.1.frozen
    go_wp2_with fail
    clear fz c0 c1 c2 c3 c4 c5 c6 c7 c8 c9 c10 c11
    refine (S2.out.num HH3.out).mono ?_
    rintro e Y3 ⟨rfl, s3⟩
    have Sb3 : Hid (RC w.heap.size B gr gc l3 b3 (⟨κ, 0, none, 0, 0, [], 0, ⟨#[]⟩, ⟨#[]⟩, (r1 : Int), 0, none, 0, 0, [], (r2 : Int), 0, (r3 : Int)⟩ : HC) w (Y3.setCell ⟨gc, 11, none⟩ (.int .i64 (r3 : Int)))) := RC.set_ s3 rfl (fun ho => ⟨ho.og, ho.om, ho.kk, ho.bk, ho.bb, ho.ig, ho.im, ho.a1, ho.a2, ho.a3, ho.a4, ho.a5, ho.a6, next_inR HH3.out⟩)
    have fz3 := s3.2.1.frozen 11
    have cz3 := s3.2.1.cell 11
    have ck3 : Y3.cell? ⟨gc, 0, none⟩ = some (.int .u8 κ) := s3.2.1.cell 0
    clear s3
    go_upto_region 23 with fail
    generalize Y3.setCell ⟨gc, 11, none⟩ (.int .i64 (r3 : Int)) = X3 at *
    have S3 := Sb3
    clear Sb3 fz3 cz3 ck3
    have c0 : X3.cell? ⟨gc, 0, none⟩ = some (.int .u8 κ) := S3.out.2.1.cell 0
    have c1 : X3.cell? ⟨gc, 1, none⟩ = some (.int .i64 0) := S3.out.2.1.cell 1
    have c2 : X3.cell? ⟨gc, 2, none⟩ = some (.slice none 0 0) := S3.out.2.1.cell 2
    have c3 : X3.cell? ⟨gc, 3, none⟩ = some (.int .i64 0) := S3.out.2.1.cell 3
    have c4 : X3.cell? ⟨gc, 4, none⟩ = some (.string ⟨#[]⟩) := S3.out.2.1.cell 4
    have c5 : X3.cell? ⟨gc, 5, none⟩ = some (.string ⟨#[]⟩) := S3.out.2.1.cell 5
    have c6 : X3.cell? ⟨gc, 6, none⟩ = some (.int .i64 (r1 : Int)) := S3.out.2.1.cell 6
    have c7 : X3.cell? ⟨gc, 7, none⟩ = some (.int .i64 0) := S3.out.2.1.cell 7
    have c8 : X3.cell? ⟨gc, 8, none⟩ = some (.slice none 0 0) := S3.out.2.1.cell 8
    have c9 : X3.cell? ⟨gc, 9, none⟩ = some (.int .i64 (r2 : Int)) := S3.out.2.1.cell 9
    have c10 : X3.cell? ⟨gc, 10, none⟩ = some (.int .i64 0) := S3.out.2.1.cell 10
    have c11 : X3.cell? ⟨gc, 11, none⟩ = some (.int .i64 (r3 : Int)) := S3.out.2.1.cell 11
    have fz := S3.out.2.1.frozen
    obtain ⟨z1, z2, z3, z4, z5, z6, z7, z8⟩ := S3.out
    have k0 : X3.cell? ⟨w.heap.size, 0, none⟩ = some (.int .u8 0) := z8.cell 0
    have k1 : X3.cell? ⟨w.heap.size, 1, none⟩ = some (.int .i64 0) := z8.cell 1
    have k2 : X3.cell? ⟨w.heap.size, 2, none⟩ = some (.slice none 0 0) := z8.cell 2
    have k3 : X3.cell? ⟨w.heap.size, 3, none⟩ = some (.int .i64 0) := z8.cell 3
    have k4 : X3.cell? ⟨w.heap.size, 4, none⟩ = some (.string ⟨#[]⟩) := z8.cell 4
    have k5 : X3.cell? ⟨w.heap.size, 5, none⟩ = some (.string ⟨#[]⟩) := z8.cell 5
    have k6 : X3.cell? ⟨w.heap.size, 6, none⟩ = some (.int .i64 0) := z8.cell 6
    have k7 : X3.cell? ⟨w.heap.size, 7, none⟩ = some (.int .i64 0) := z8.cell 7
    have k8 : X3.cell? ⟨w.heap.size, 8, none⟩ = some (.slice none 0 0) := z8.cell 8
    have k9 : X3.cell? ⟨w.heap.size, 9, none⟩ = some (.int .i64 0) := z8.cell 9
    have k10 : X3.cell? ⟨w.heap.size, 10, none⟩ = some (.int .i64 0) := z8.cell 10
    have k11 : X3.cell? ⟨w.heap.size, 11, none⟩ = some (.int .i64 0) := z8.cell 11
    have kf := z8.frozen
    have Z1 := Lib.hid z1
    have Z3 := Lib.hid z3
    have Z4 := Lib.hid z4
    have Z8 := Lib.hid z8
    clear z1 z2 z3 z4 z8
    go_wp2_with fail
    refine bodyPost_ret (v := .agg #[.int .u8 κ, .int .i64 0, .slice none 0 0, .int .i64 0, .string ⟨#[]⟩, .string ⟨#[]⟩, .int .i64 (r1 : Int), .int .i64 0, .slice none 0 0, .int .i64 (r2 : Int), .int .i64 0, .int .i64 (r3 : Int)]) (by simp [results, Try.results55, go_sem, k0, k1, k2, k3, k4, k5, k6, k7, k8, k9, k10, k11]) rfl ⟨(⟨κ, 0, none, 0, 0, [], 0, ⟨#[]⟩, ⟨#[]⟩, (r1 : Int), 0, none, 0, 0, [], (r2 : Int), 0, (r3 : Int)⟩ : HC), l3, b3, rfl, ?_, ?_, ?_, ?_⟩
    · rw [HK.out, Cp.fields6]
      simp only [Cp.rdF, Cp.rd1, HH1.out, HH2.out, HH3.out, HC.cmd, Cp.zeroC, S_data, HK.out]
      try rfl
    · exact rst12 Z1.out hgl _ _ _ _ _ _ _ _ _ _ _ _
    · exact own12 Z3.out Z8.out _ _ _ _ _ _ _ _ _ _ _ _
    · exact only12 Z4.out _ _ _ _ _ _ _ _ _ _ _ _
  · have HK := Lib.hid h
    clear h
    have q1 : (κ == 1) = false := beq_eq_false_iff_ne.2 (by have := HK.out; omega)
    have q2 : (κ == 2) = false := beq_eq_false_iff_ne.2 (by have := HK.out; omega)
    have q3 : (κ == 3) = false := beq_eq_false_iff_ne.2 (by have := HK.out; omega)
    have q4 : (κ == 4) = false := beq_eq_false_iff_ne.2 (by have := HK.out; omega)
    have q5 : (κ == 5) = false := beq_eq_false_iff_ne.2 (by have := HK.out; omega)
    have q6 : (κ == 6) = false := beq_eq_false_iff_ne.2 (by have := HK.out; omega)
    have c0 : X0.cell? ⟨gc, 0, none⟩ = some (.int .u8 κ) := S0.out.2.1.cell 0
    go_upto_region 23 with fail
    clear c0
    have c0 : X0.cell? ⟨gc, 0, none⟩ = some (.int .u8 κ) := S0.out.2.1.cell 0
    have c1 : X0.cell? ⟨gc, 1, none⟩ = some (.int .i64 0) := S0.out.2.1.cell 1
    have c2 : X0.cell? ⟨gc, 2, none⟩ = some (.slice none 0 0) := S0.out.2.1.cell 2
    have c3 : X0.cell? ⟨gc, 3, none⟩ = some (.int .i64 0) := S0.out.2.1.cell 3
    have c4 : X0.cell? ⟨gc, 4, none⟩ = some (.string ⟨#[]⟩) := S0.out.2.1.cell 4
    have c5 : X0.cell? ⟨gc, 5, none⟩ = some (.string ⟨#[]⟩) := S0.out.2.1.cell 5
    have c6 : X0.cell? ⟨gc, 6, none⟩ = some (.int .i64 0) := S0.out.2.1.cell 6
    have c7 : X0.cell? ⟨gc, 7, none⟩ = some (.int .i64 0) := S0.out.2.1.cell 7
    have c8 : X0.cell? ⟨gc, 8, none⟩ = some (.slice none 0 0) := S0.out.2.1.cell 8
    have c9 : X0.cell? ⟨gc, 9, none⟩ = some (.int .i64 0) := S0.out.2.1.cell 9
    have c10 : X0.cell? ⟨gc, 10, none⟩ = some (.int .i64 0) := S0.out.2.1.cell 10
    have c11 : X0.cell? ⟨gc, 11, none⟩ = some (.int .i64 0) := S0.out.2.1.cell 11
    have fz := S0.out.2.1.frozen
    obtain ⟨z1, z2, z3, z4, z5, z6, z7, z8⟩ := S0.out
    have k0 : X0.cell? ⟨w.heap.size, 0, none⟩ = some (.int .u8 0) := z8.cell 0
    have k1 : X0.cell? ⟨w.heap.size, 1, none⟩ = some (.int .i64 0) := z8.cell 1
    have k2 : X0.cell? ⟨w.heap.size, 2, none⟩ = some (.slice none 0 0) := z8.cell 2
    have k3 : X0.cell? ⟨w.heap.size, 3, none⟩ = some (.int .i64 0) := z8.cell 3
    have k4 : X0.cell? ⟨w.heap.size, 4, none⟩ = some (.string ⟨#[]⟩) := z8.cell 4
    have k5 : X0.cell? ⟨w.heap.size, 5, none⟩ = some (.string ⟨#[]⟩) := z8.cell 5
    have k6 : X0.cell? ⟨w.heap.size, 6, none⟩ = some (.int .i64 0) := z8.cell 6
    have k7 : X0.cell? ⟨w.heap.size, 7, none⟩ = some (.int .i64 0) := z8.cell 7
    have k8 : X0.cell? ⟨w.heap.size, 8, none⟩ = some (.slice none 0 0) := z8.cell 8
    have k9 : X0.cell? ⟨w.heap.size, 9, none⟩ = some (.int .i64 0) := z8.cell 9
    have k10 : X0.cell? ⟨w.heap.size, 10, none⟩ = some (.int .i64 0) := z8.cell 10
    have k11 : X0.cell? ⟨w.heap.size, 11, none⟩ = some (.int .i64 0) := z8.cell 11
    have kf := z8.frozen
    have Z1 := Lib.hid z1
    have Z3 := Lib.hid z3
    have Z4 := Lib.hid z4
    have Z8 := Lib.hid z8
    clear z1 z2 z3 z4 z8
    go_wp2_with fail
    refine bodyPost_ret (v := .agg #[.int .u8 κ, .int .i64 0, .slice none 0 0, .int .i64 0, .string ⟨#[]⟩, .string ⟨#[]⟩, .int .i64 0, .int .i64 0, .slice none 0 0, .int .i64 0, .int .i64 0, .int .i64 0]) (by simp [results, Try.results55, go_sem, k0, k1, k2, k3, k4, k5, k6, k7, k8, k9, k10, k11]) rfl ⟨(⟨κ, 0, none, 0, 0, [], 0, ⟨#[]⟩, ⟨#[]⟩, 0, 0, none, 0, 0, [], 0, 0, 0⟩ : HC), l0, b0, rfl, ?_, ?_, ?_, ?_⟩
    · rw [show Cp.fieldsC κ = [] from by unfold Cp.fieldsC; rw [if_neg (by have := HK.out; omega), if_neg (by have := HK.out; omega), if_neg (by have := HK.out; omega), if_neg (by have := HK.out; omega), if_neg (by have := HK.out; omega), if_neg (by have := HK.out; omega)]]
      simp only [Cp.rdF, Cp.rd1, HC.cmd, Cp.zeroC, S_data]
      try rfl
    · exact rst12 Z1.out hgl _ _ _ _ _ _ _ _ _ _ _ _
    · exact own12 Z3.out Z8.out _ _ _ _ _ _ _ _ _ _ _ _
    · exact only12 Z4.out _ _ _ _ _ _ _ _ _ _ _ _
end Go.Proofs.Ytaoekfgeggopbaa
