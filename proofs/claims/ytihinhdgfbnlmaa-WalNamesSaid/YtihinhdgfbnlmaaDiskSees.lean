/-
  The walk of DiskSees. No condition.
-/
import Derived.Test.YtihinhdgfbnlmaaDiskSome
import Derived.Test.YtihinhdgfbnlmaaDiskIn
namespace Go.Proofs.Ytihinhdgfbnlmaa
open Go.RowKit
set_option maxHeartbeats 8000000
set_option maxRecDepth 100000
set_option linter.unusedVariables false
set_option linter.unusedSimpArgs false

theorem S_app2 (l m : List UInt8) : S l ++ S m = S (l ++ m) := by
  apply ByteArray.ext
  apply Array.toList_inj.1
  simp [S]
theorem below_alloc {a b : World} (h : Below a.heap.size a b) (o : Obj) : Below a.heap.size a (b.alloc o) := h.alloc h.size o
theorem Reads.up_alloc {w : World} {size n : Nat} {A : Option Addr} {xs : List Value} (h : Reads w w.heap.size size A n xs) (o : Obj) : Reads (w.alloc o) (w.alloc o).heap.size size A n xs := (h.alloc (Nat.le_refl _) o).more (by simp)
theorem step_f_len (s l : List UInt8) : (Dp.step s ⟨false, l⟩).length = s.length + l.length := by simp [Dp.step]
theorem step_t_len (s l : List UInt8) : (Dp.step s ⟨true, l⟩).length = l.length := by simp [Dp.step]
def rf (b : Bool) : Int := if b then 0 else 9
theorem write_not {d : Dp.Disk} {p : Dp.Put} (h : Dp.mayD d = true) : Dp.write d p = if (decide ((Dp.step (Dp.seen d) p).length ≤ 1048576) && decide (d.wait.length < 1024)) = true then (⟨d.data, d.wait ++ [p]⟩, 0) else (Dp.zeroD, 9) := by
  unfold Dp.write
  rw [if_pos h, Dp.mayD_more d p h, Bool.and_comm]
/-- What a write answers, of whether it may be. -/
theorem write_b {d : Dp.Disk} {p : Dp.Put} (h : Dp.mayD d = true) {b1 b2 : Bool} (h1 : decide ((Dp.step (Dp.seen d) p).length ≤ 1048576) = b1) (h2 : decide (d.wait.length < 1024) = b2) :
    ∃ R, Dp.write d p = (R, rf (b1 && b2)) ∧ ((b1 && b2) = true → Dp.see R = (Dp.step (Dp.seen d) p, 0) ∧ R.wait.length = d.wait.length + 1) ∧ ((b1 && b2) = false → Dp.see R = ([], 0) ∧ R.wait.length = 0) := by
  have e := write_not (p := p) h
  rw [h1, h2] at e
  cases hb : (b1 && b2) with
  | true =>
    rw [hb, if_pos rfl] at e
    refine ⟨_, e, fun _ => ?_, by simp⟩
    have := Dp.write_see (d := d) (p := p) (by rw [e])
    rw [e] at this
    exact this
  | false =>
    rw [hb, if_neg (by simp)] at e
    exact ⟨_, e, by simp, fun _ => ⟨by decide, rfl⟩⟩
theorem wait_n {D : HD} {w : World} {B : Nat} (h : DiskAt w B D) : D.disk.wait.length = D.Wn := by rw [HD.disk]; simp only [List.length_map, h.len_l]

theorem sees (D : HD) (A : Option Addr) (n c : Nat) (l : List UInt8) (w : World) (hD : DiskAt w w.heap.size D) (hB : IsBytes w A n c l) :
    Calls Try.prog 3 #[.agg #[.slice D.A D.n D.c, .slice D.WA D.Wn D.Wc], .slice A n c] w fun e w' => e = .returned (.bool true) ∧ Below w.heap.size w w' := by
  have hln := hB.1.len_b
  have hwl := hD.wlim
  have HWN := Lib.hid (wait_n hD)
  have HD0 := Lib.hid hD
  have HB0 := Lib.hid hB
  have B0 := Lib.hid ((Below.refl _ w).alloc (Nat.le_refl w.heap.size) (.cells #[.slice D.A D.n D.c, .slice D.WA D.Wn D.Wc] 25))
  have K0 := Lib.hid (Blk.new w 25 #[.slice D.A D.n D.c, .slice D.WA D.Wn D.Wc])
  have HLN := Lib.hid hln
  clear hD hB hln
  go_enter Try.func3, Try.ntmps3
  go_wp2_with fail
  refine (alive03_any _).mono ?_
  rintro e w1 ⟨rfl, hb⟩
  have K1 := Lib.hid (K0.out.below hb K0.out.lt)
  have B1 := Lib.hid (B0.out.trans (hb.mono B0.out.size))
  have D1 := Lib.hid ((HD0.out.below B1.out).more B1.out.size)
  clear hb K0 B0
  have y0 := K1.out.cell 0
  have y1 := K1.out.cell 1
  cases hm : Dp.mayD D.disk with
  | false =>
    have e0 : Dp.see D.disk = ([], 30) := by rw [Dp.see, if_neg (by rw [hm]; simp)]
    have HS := Lib.hid e0
    clear e0 hm
    go_wp2_with fail
    refine (see_is D _ _ _ HS.out D1.out).mono ?_
    rintro e w2 ⟨A2, c2, m, rfl, -, -, hb⟩
    have K2 := Lib.hid (K1.out.below hb K1.out.lt)
    have B2 := Lib.hid (B1.out.trans (hb.mono B1.out.size))
    have D2 := Lib.hid ((HD0.out.below B2.out).more B2.out.size)
    clear hb K1 B1 D1 y0 y1
    have y0 := K2.out.cell 0
    have y1 := K2.out.cell 1
    go_wp2_with fail
    refine (rgreat_any D _ D2.out).mono ?_
    rintro e w3 ⟨⟨r, rfl, -⟩, hb⟩
    have B3 := Lib.hid (B2.out.trans (hb.mono B2.out.size))
    clear hb K2 B2 D2 y0 y1
    by_cases hn : (2000000 : Int) < (n : Int)
    · have d1 : decide ((2000000 : Int) < (n : Int)) = true := decide_eq_true hn
      cases r <;> (go_wp2; go_ret; exact ⟨rfl, B3.out⟩)
    · have d1 : decide ((2000000 : Int) < (n : Int)) = false := decide_eq_false hn
      cases r <;> (go_wp2; go_ret; exact ⟨rfl, B3.out⟩)
  | true =>
    have e0 : Dp.see D.disk = (Dp.seen D.disk, 0) := by rw [Dp.see, if_pos hm]
    have HS := Lib.hid e0
    have HM := Lib.hid hm
    clear e0 hm
    go_wp2_with fail
    refine (see_is D _ _ _ HS.out D1.out).mono ?_
    rintro e w2 ⟨A2, c2, m, rfl, hm, ho, hb⟩
    have K2 := Lib.hid (K1.out.below hb K1.out.lt)
    have B2 := Lib.hid (B1.out.trans (hb.mono B1.out.size))
    have D2 := Lib.hid ((HD0.out.below B2.out).more B2.out.size)
    have R2 := Lib.hid (Reads.of_own ho)
    have HMM := Lib.hid hm
    clear hb K1 B1 D1 y0 y1 ho hm
    have y0 := K2.out.cell 0
    have y1 := K2.out.cell 1
    go_wp2_with fail
    refine (rgreat_any D _ D2.out).mono ?_
    rintro e w3 ⟨⟨r, rfl, -⟩, hb⟩
    have K3 := Lib.hid (K2.out.below hb K2.out.lt)
    have B3 := Lib.hid (B2.out.trans (hb.mono B2.out.size))
    have D3 := Lib.hid ((HD0.out.below B3.out).more B3.out.size)
    have R3 := Lib.hid ((R2.out.below hb).more hb.size)
    clear hb K2 B2 D2 R2 y0 y1
    have y0 := K3.out.cell 0
    have y1 := K3.out.cell 1
    by_cases hn : (2000000 : Int) < (n : Int)
    · have d1 : decide ((2000000 : Int) < (n : Int)) = true := decide_eq_true hn
      cases r <;> (go_wp2; go_ret; exact ⟨rfl, B3.out⟩)
    have d1 : decide ((2000000 : Int) < (n : Int)) = false := decide_eq_false hn
    cases r with
    | true => go_wp2; go_ret; exact ⟨rfl, B3.out⟩
    | false =>
    have hn2 : n ≤ 2000000 := by omega
    -- what the two writes answer
    obtain ⟨b1, hb1⟩ : ∃ b1, decide (m + n ≤ 1048576) = b1 := ⟨_, rfl⟩
    obtain ⟨b3, hb3⟩ : ∃ b3, decide (n ≤ 1048576) = b3 := ⟨_, rfl⟩
    obtain ⟨b2, hb2⟩ : ∃ b2, decide (D.Wn < 1024) = b2 := ⟨_, rfl⟩
    obtain ⟨X, hX, hX1, hX2⟩ := write_b (d := D.disk) (p := ⟨false, l⟩) HM.out (b1 := b1) (b2 := b2) (by rw [← hb1, step_f_len, HMM.out, HLN.out]) (by rw [HWN.out]; exact hb2)
    obtain ⟨Y, hY, hY1, hY2⟩ := write_b (d := D.disk) (p := ⟨true, l⟩) HM.out (b1 := b3) (b2 := b2) (by rw [← hb3, step_t_len, HLN.out]) (by rw [HWN.out]; exact hb2)
    have HX := Lib.hid hX
    have HX1 := Lib.hid hX1
    have HX2 := Lib.hid hX2
    have HY := Lib.hid hY
    have HY1 := Lib.hid hY1
    have HY2 := Lib.hid hY2
    have Hb1 := Lib.hid hb1
    have Hb2 := Lib.hid hb2
    have Hb3 := Lib.hid hb3
    have HZ := Lib.hid (Dp.sync_see HM.out)
    clear hX hX1 hX2 hY hY1 hY2 hb1 hb2 hb3
    have P3 : Hid (∀ sw, PutAt w3 w3.heap.size ⟨sw, A, n, c, l⟩) := fun sw => ⟨(HB0.out.1.below B3.out).more B3.out.size, HB0.out.2.1, HB0.out.2.2, by show n ≤ _; omega⟩
    have K0 := Lib.hid K3.out
    have C0 := Lib.hid B3.out
    have D0 := Lib.hid D3.out
    have R0 := Lib.hid R3.out
    have PT := Lib.hid (P3.out true)
    have PF := Lib.hid (P3.out false)
    clear y0 y1 K3 B3 D3 R3 P3
    have y0 := K0.out.cell 0
    have y1 := K0.out.cell 1
    go_wp2_with fail
    refine (append_is D A n c l _ _ _ HX.out D0.out PF.out).mono ?_
    rintro e w4 ⟨DX, rfl, hx, hex, hb⟩
    have KX := Lib.hid (Blk.new w4 25 #[.slice DX.A DX.n DX.c, .slice DX.WA DX.Wn DX.Wc])
    have X0 := Lib.hid (hx.at_.alloc (.cells #[.slice DX.A DX.n DX.c, .slice DX.WA DX.Wn DX.Wc] 25))
    have HEX := Lib.hid hex
    replace K0 := Lib.hid ((K0.out.below hb K0.out.lt).alloc (.cells #[.slice DX.A DX.n DX.c, .slice DX.WA DX.Wn DX.Wc] 25))
    replace C0 := Lib.hid (below_alloc (C0.out.trans (hb.mono C0.out.size)) (.cells #[.slice DX.A DX.n DX.c, .slice DX.WA DX.Wn DX.Wc] 25))
    replace D0 := Lib.hid ((D0.out.up hb).alloc (.cells #[.slice DX.A DX.n DX.c, .slice DX.WA DX.Wn DX.Wc] 25))
    replace R0 := Lib.hid (((R0.out.below hb).more hb.size).up_alloc (.cells #[.slice DX.A DX.n DX.c, .slice DX.WA DX.Wn DX.Wc] 25))
    replace PT := Lib.hid ((PT.out.up hb).alloc (.cells #[.slice DX.A DX.n DX.c, .slice DX.WA DX.Wn DX.Wc] 25))
    replace PF := Lib.hid ((PF.out.up hb).alloc (.cells #[.slice DX.A DX.n DX.c, .slice DX.WA DX.Wn DX.Wc] 25))
    clear hx hex hb y0 y1
    have y0 := K0.out.cell 0
    have y1 := K0.out.cell 1
    go_wp2_with fail
    refine (swap_is D A n c l _ _ _ HY.out D0.out PT.out).mono ?_
    rintro e w5 ⟨DY, rfl, hx, hex, hb⟩
    have KY := Lib.hid (Blk.new w5 25 #[.slice DY.A DY.n DY.c, .slice DY.WA DY.Wn DY.Wc])
    have Y0 := Lib.hid (hx.at_.alloc (.cells #[.slice DY.A DY.n DY.c, .slice DY.WA DY.Wn DY.Wc] 25))
    have HEY := Lib.hid hex
    replace K0 := Lib.hid ((K0.out.below hb K0.out.lt).alloc (.cells #[.slice DY.A DY.n DY.c, .slice DY.WA DY.Wn DY.Wc] 25))
    replace C0 := Lib.hid (below_alloc (C0.out.trans (hb.mono C0.out.size)) (.cells #[.slice DY.A DY.n DY.c, .slice DY.WA DY.Wn DY.Wc] 25))
    replace D0 := Lib.hid ((D0.out.up hb).alloc (.cells #[.slice DY.A DY.n DY.c, .slice DY.WA DY.Wn DY.Wc] 25))
    replace R0 := Lib.hid (((R0.out.below hb).more hb.size).up_alloc (.cells #[.slice DY.A DY.n DY.c, .slice DY.WA DY.Wn DY.Wc] 25))
    replace PT := Lib.hid ((PT.out.up hb).alloc (.cells #[.slice DY.A DY.n DY.c, .slice DY.WA DY.Wn DY.Wc] 25))
    replace PF := Lib.hid ((PF.out.up hb).alloc (.cells #[.slice DY.A DY.n DY.c, .slice DY.WA DY.Wn DY.Wc] 25))
    replace KX := Lib.hid ((KX.out.below hb KX.out.lt).alloc (.cells #[.slice DY.A DY.n DY.c, .slice DY.WA DY.Wn DY.Wc] 25))
    replace X0 := Lib.hid ((X0.out.up hb).alloc (.cells #[.slice DY.A DY.n DY.c, .slice DY.WA DY.Wn DY.Wc] 25))
    clear hx hex hb y0 y1
    have y0 := K0.out.cell 0
    have y1 := K0.out.cell 1
    go_wp2_with fail
    refine (sync_is D _ _ _ HZ.out.1 D0.out).mono ?_
    rintro e w6 ⟨DZ, rfl, hx, hex, hb⟩
    have KZ := Lib.hid (Blk.new w6 25 #[.slice DZ.A DZ.n DZ.c, .slice DZ.WA DZ.Wn DZ.Wc])
    have Z0 := Lib.hid (hx.at_.alloc (.cells #[.slice DZ.A DZ.n DZ.c, .slice DZ.WA DZ.Wn DZ.Wc] 25))
    have HEZ := Lib.hid hex
    replace K0 := Lib.hid ((K0.out.below hb K0.out.lt).alloc (.cells #[.slice DZ.A DZ.n DZ.c, .slice DZ.WA DZ.Wn DZ.Wc] 25))
    replace C0 := Lib.hid (below_alloc (C0.out.trans (hb.mono C0.out.size)) (.cells #[.slice DZ.A DZ.n DZ.c, .slice DZ.WA DZ.Wn DZ.Wc] 25))
    replace D0 := Lib.hid ((D0.out.up hb).alloc (.cells #[.slice DZ.A DZ.n DZ.c, .slice DZ.WA DZ.Wn DZ.Wc] 25))
    replace R0 := Lib.hid (((R0.out.below hb).more hb.size).up_alloc (.cells #[.slice DZ.A DZ.n DZ.c, .slice DZ.WA DZ.Wn DZ.Wc] 25))
    replace PT := Lib.hid ((PT.out.up hb).alloc (.cells #[.slice DZ.A DZ.n DZ.c, .slice DZ.WA DZ.Wn DZ.Wc] 25))
    replace PF := Lib.hid ((PF.out.up hb).alloc (.cells #[.slice DZ.A DZ.n DZ.c, .slice DZ.WA DZ.Wn DZ.Wc] 25))
    replace KX := Lib.hid ((KX.out.below hb KX.out.lt).alloc (.cells #[.slice DZ.A DZ.n DZ.c, .slice DZ.WA DZ.Wn DZ.Wc] 25))
    replace X0 := Lib.hid ((X0.out.up hb).alloc (.cells #[.slice DZ.A DZ.n DZ.c, .slice DZ.WA DZ.Wn DZ.Wc] 25))
    replace KY := Lib.hid ((KY.out.below hb KY.out.lt).alloc (.cells #[.slice DZ.A DZ.n DZ.c, .slice DZ.WA DZ.Wn DZ.Wc] 25))
    replace Y0 := Lib.hid ((Y0.out.up hb).alloc (.cells #[.slice DZ.A DZ.n DZ.c, .slice DZ.WA DZ.Wn DZ.Wc] 25))
    clear hx hex hb y0 y1
    obtain ⟨SX, sx, HSX0⟩ : ∃ S s, Dp.see X = (S, s) := ⟨_, _, rfl⟩
    obtain ⟨SY, sy, HSY0⟩ : ∃ S s, Dp.see Y = (S, s) := ⟨_, _, rfl⟩
    have HSX := Lib.hid HSX0
    have HSY := Lib.hid HSY0
    clear HSX0 HSY0
    have y0 := KX.out.cell 0
    have y1 := KX.out.cell 1
    go_wp2_with fail
    refine (see_is DX _ SX sx (by rw [HEX.out]; exact HSX.out) X0.out).mono ?_
    rintro e w7 ⟨Ap, cp, mp, rfl, hmm, ho, hb⟩
    have Rp := Lib.hid (Reads.of_own ho)
    have Mp := Lib.hid hmm
    replace K0 := Lib.hid (K0.out.below hb K0.out.lt)
    replace C0 := Lib.hid (C0.out.trans (hb.mono C0.out.size))
    replace D0 := Lib.hid (D0.out.up hb)
    replace R0 := Lib.hid ((R0.out.below hb).more hb.size)
    replace PT := Lib.hid (PT.out.up hb)
    replace PF := Lib.hid (PF.out.up hb)
    replace KX := Lib.hid (KX.out.below hb KX.out.lt)
    replace X0 := Lib.hid (X0.out.up hb)
    replace KY := Lib.hid (KY.out.below hb KY.out.lt)
    replace Y0 := Lib.hid (Y0.out.up hb)
    replace KZ := Lib.hid (KZ.out.below hb KZ.out.lt)
    replace Z0 := Lib.hid (Z0.out.up hb)
    clear hmm ho hb y0 y1
    have y0 := KY.out.cell 0
    have y1 := KY.out.cell 1
    go_wp2_with fail
    refine (see_is DY _ SY sy (by rw [HEY.out]; exact HSY.out) Y0.out).mono ?_
    rintro e w8 ⟨Aq, cq, mq, rfl, hmm, ho, hb⟩
    have Rq := Lib.hid (Reads.of_own ho)
    have Mq := Lib.hid hmm
    replace K0 := Lib.hid (K0.out.below hb K0.out.lt)
    replace C0 := Lib.hid (C0.out.trans (hb.mono C0.out.size))
    replace D0 := Lib.hid (D0.out.up hb)
    replace R0 := Lib.hid ((R0.out.below hb).more hb.size)
    replace PT := Lib.hid (PT.out.up hb)
    replace PF := Lib.hid (PF.out.up hb)
    replace KX := Lib.hid (KX.out.below hb KX.out.lt)
    replace X0 := Lib.hid (X0.out.up hb)
    replace KY := Lib.hid (KY.out.below hb KY.out.lt)
    replace Y0 := Lib.hid (Y0.out.up hb)
    replace KZ := Lib.hid (KZ.out.below hb KZ.out.lt)
    replace Z0 := Lib.hid (Z0.out.up hb)
    replace Rp := Lib.hid ((Rp.out.below hb).more hb.size)
    clear hmm ho hb y0 y1
    have y0 := KZ.out.cell 0
    have y1 := KZ.out.cell 1
    go_wp2_with fail
    refine (see_is DZ _ (Dp.seen D.disk) 0 (by rw [HEZ.out]; exact HZ.out.2) Z0.out).mono ?_
    rintro e w9 ⟨Ar, cr, mr, rfl, hmm, ho, hb⟩
    have Rr := Lib.hid (Reads.of_own ho)
    have Mr := Lib.hid hmm
    replace K0 := Lib.hid (K0.out.below hb K0.out.lt)
    replace C0 := Lib.hid (C0.out.trans (hb.mono C0.out.size))
    replace D0 := Lib.hid (D0.out.up hb)
    replace R0 := Lib.hid ((R0.out.below hb).more hb.size)
    replace PT := Lib.hid (PT.out.up hb)
    replace PF := Lib.hid (PF.out.up hb)
    replace KX := Lib.hid (KX.out.below hb KX.out.lt)
    replace X0 := Lib.hid (X0.out.up hb)
    replace KY := Lib.hid (KY.out.below hb KY.out.lt)
    replace Y0 := Lib.hid (Y0.out.up hb)
    replace KZ := Lib.hid (KZ.out.below hb KZ.out.lt)
    replace Z0 := Lib.hid (Z0.out.up hb)
    replace Rp := Lib.hid ((Rp.out.below hb).more hb.size)
    replace Rq := Lib.hid ((Rq.out.below hb).more hb.size)
    clear hmm ho hb y0 y1
    have v0 := conv_b (c := c2) R0.out
    have v1 := conv_b (c := c) PT.out.1
    have v2 := conv_b (c := cp) Rp.out
    have v3 := conv_b (c := cq) Rq.out
    have v4 := conv_b (c := cr) Rr.out
    have hml : m ≤ 1048576 := by rw [← HMM.out]; exact Dp.seen_len HM.out
    have hsz : ¬ 9223372036854775807 < (S (Dp.seen D.disk)).size + (S l).size := by rw [S_size, S_size, HMM.out, HLN.out]; omega
    have rT : rf true = 0 := rfl
    have rF : rf false = 9 := rfl
    have sS := S_app2 (Dp.seen D.disk) l
    have y1 := K0.out.cell 1
    have x1 := KX.out.cell 1
    have z1 := KZ.out.cell 1
    have d1 : decide ((m : Int) + (n : Int) ≤ 1048576) = b1 := by rw [← Hb1.out]; exact decide_eq_decide.2 (by omega)
    have d2 : decide ((n : Int) ≤ 1048576) = b3 := by rw [← Hb3.out]; exact decide_eq_decide.2 (by omega)
    have d3 : decide ((D.Wn : Int) < 1024) = b2 := by rw [← Hb2.out]; exact decide_eq_decide.2 (by omega)
    have WX : Hid (X.wait.length = DX.Wn) := by rw [Hid, ← HEX.out]; exact wait_n X0.out
    have WZ : Hid (DZ.Wn = 0) := by rw [Hid, ← wait_n Z0.out, HEZ.out]; rfl
    rw [WZ.out] at z1
    clear R0 PT PF Rp Rq Rr D0 X0 Y0 Z0 HX HY
    cases b1 <;> cases b2 <;> cases b3
    · obtain ⟨hx1, hx2⟩ := HX2.out (by first | rfl | decide)
      obtain ⟨hy1, hy2⟩ := HY2.out (by first | rfl | decide)
      rw [HSX.out] at hx1
      rw [HSY.out] at hy1
      obtain ⟨e1, e2⟩ := Prod.mk.inj hx1
      obtain ⟨e3, e4⟩ := Prod.mk.inj hy1
      rw [e1] at v2
      rw [e3] at v3
      subst e2
      subst e4
      clear e1 e3 hx1 hx2 hy1 hy2 HX1 HX2 HY1 HY2 HSX HSY Mp Mq Mr
      go_wp2
      go_ret
      exact ⟨rfl, C0.out⟩
    · obtain ⟨hx1, hx2⟩ := HX2.out (by first | rfl | decide)
      obtain ⟨hy1, hy2⟩ := HY2.out (by first | rfl | decide)
      rw [HSX.out] at hx1
      rw [HSY.out] at hy1
      obtain ⟨e1, e2⟩ := Prod.mk.inj hx1
      obtain ⟨e3, e4⟩ := Prod.mk.inj hy1
      rw [e1] at v2
      rw [e3] at v3
      subst e2
      subst e4
      clear e1 e3 hx1 hx2 hy1 hy2 HX1 HX2 HY1 HY2 HSX HSY Mp Mq Mr
      go_wp2
      go_ret
      exact ⟨rfl, C0.out⟩
    · obtain ⟨hx1, hx2⟩ := HX2.out (by first | rfl | decide)
      obtain ⟨hy1, hy2⟩ := HY2.out (by first | rfl | decide)
      rw [HSX.out] at hx1
      rw [HSY.out] at hy1
      obtain ⟨e1, e2⟩ := Prod.mk.inj hx1
      obtain ⟨e3, e4⟩ := Prod.mk.inj hy1
      rw [e1] at v2
      rw [e3] at v3
      subst e2
      subst e4
      clear e1 e3 hx1 hx2 hy1 hy2 HX1 HX2 HY1 HY2 HSX HSY Mp Mq Mr
      go_wp2
      go_ret
      exact ⟨rfl, C0.out⟩
    · obtain ⟨hx1, hx2⟩ := HX2.out (by first | rfl | decide)
      obtain ⟨hy1, hy2⟩ := HY1.out (by first | rfl | decide)
      rw [HSX.out] at hx1
      rw [HSY.out] at hy1
      obtain ⟨e1, e2⟩ := Prod.mk.inj hx1
      obtain ⟨e3, e4⟩ := Prod.mk.inj hy1
      rw [e1] at v2
      rw [e3] at v3
      subst e2
      subst e4
      rw [show Dp.step (Dp.seen D.disk) ⟨true, l⟩ = l by simp [Dp.step]] at v3
      clear e1 e3 hx1 hx2 hy1 hy2 HX1 HX2 HY1 HY2 HSX HSY Mp Mq Mr
      go_wp2
      go_ret
      exact ⟨rfl, C0.out⟩
    · exact absurd (of_decide_eq_true Hb1.out) (by have := of_decide_eq_false Hb3.out; omega)
    · obtain ⟨hx1, hx2⟩ := HX2.out (by first | rfl | decide)
      obtain ⟨hy1, hy2⟩ := HY2.out (by first | rfl | decide)
      rw [HSX.out] at hx1
      rw [HSY.out] at hy1
      obtain ⟨e1, e2⟩ := Prod.mk.inj hx1
      obtain ⟨e3, e4⟩ := Prod.mk.inj hy1
      rw [e1] at v2
      rw [e3] at v3
      subst e2
      subst e4
      clear e1 e3 hx1 hx2 hy1 hy2 HX1 HX2 HY1 HY2 HSX HSY Mp Mq Mr
      go_wp2
      go_ret
      exact ⟨rfl, C0.out⟩
    · exact absurd (of_decide_eq_true Hb1.out) (by have := of_decide_eq_false Hb3.out; omega)
    · obtain ⟨hx1, hx2⟩ := HX1.out (by first | rfl | decide)
      obtain ⟨hy1, hy2⟩ := HY1.out (by first | rfl | decide)
      rw [HSX.out] at hx1
      rw [HSY.out] at hy1
      obtain ⟨e1, e2⟩ := Prod.mk.inj hx1
      obtain ⟨e3, e4⟩ := Prod.mk.inj hy1
      rw [e1] at v2
      rw [e3] at v3
      subst e2
      subst e4
      have hxw : DX.Wn = D.Wn + 1 := by rw [← WX.out, hx2, HWN.out]
      rw [hxw] at x1
      rw [show Dp.step (Dp.seen D.disk) ⟨false, l⟩ = Dp.seen D.disk ++ l by simp [Dp.step]] at v2
      rw [show Dp.step (Dp.seen D.disk) ⟨true, l⟩ = l by simp [Dp.step]] at v3
      clear e1 e3 hx1 hx2 hy1 hy2 HX1 HX2 HY1 HY2 HSX HSY Mp Mq Mr hxw
      go_wp2
      go_ret
      exact ⟨rfl, C0.out⟩
end Go.Proofs.Ytihinhdgfbnlmaa
