/-
  The reference of layer 12: Text, Write.
-/
import Derived.Test.YtaoekfgeggopbaaCmdMayR
import Derived.Test.YtaoekfgeggopbaaNumRef
import Derived.Test.YtaoekfgeggopbaaNumRefInts
import Derived.Test.YtaoekfgeggopbaaConv
namespace Go.Proofs.Ytaoekfgeggopbaa
open Go.RowKit
set_option maxHeartbeats 8000000
set_option maxRecDepth 100000
set_option linter.unusedVariables false
set_option linter.unusedSimpArgs false

namespace Cp
theorem bytesR_0 {c : Cmd} (h : c.k = 0) : bytesC c = Nm.enc (0 : Int).toNat := by
  unfold bytesC
  rw [h, fields0]
  simp [wrF, wr1]
theorem bytesR_1 {c : Cmd} (h : c.k = 1) : bytesC c = (((((Nm.enc (1 : Int).toNat ++ Nm.enc c.mi.toNat) ++ Nm.intsB c.gs) ++ Nm.enc c.mt.toNat) ++ Nm.txt c.key) ++ Nm.txt c.body) := by
  unfold bytesC
  rw [h, fields1]
  simp [wrF, wr1]
theorem bytesR_2 {c : Cmd} (h : c.k = 2) : bytesC c = ((Nm.enc (2 : Int).toNat ++ Nm.enc c.i.toNat) ++ Nm.enc c.tm.toNat) := by
  unfold bytesC
  rw [h, fields2]
  simp [wrF, wr1]
theorem bytesR_3 {c : Cmd} (h : c.k = 3) : bytesC c = (Nm.enc (3 : Int).toNat ++ Nm.intsB c.mem) := by
  unfold bytesC
  rw [h, fields3]
  simp [wrF, wr1]
theorem bytesR_4 {c : Cmd} (h : c.k = 4) : bytesC c = ((((Nm.enc (4 : Int).toNat ++ Nm.enc c.i.toNat) ++ Nm.enc c.tp.toNat) ++ Nm.enc c.who.toNat) ++ Nm.enc c.n.toNat) := by
  unfold bytesC
  rw [h, fields4]
  simp [wrF, wr1]
theorem bytesR_5 {c : Cmd} (h : c.k = 5) : bytesC c = (((Nm.enc (5 : Int).toNat ++ Nm.enc c.i.toNat) ++ Nm.enc c.tp.toNat) ++ Nm.enc c.n.toNat) := by
  unfold bytesC
  rw [h, fields5]
  simp [wrF, wr1]
theorem bytesR_6 {c : Cmd} (h : c.k = 6) : bytesC c = (((Nm.enc (6 : Int).toNat ++ Nm.enc c.i.toNat) ++ Nm.enc c.tp.toNat) ++ Nm.enc c.n.toNat) := by
  unfold bytesC
  rw [h, fields6]
  simp [wrF, wr1]
end Cp
theorem rbytes_isC (n : Int) (l : List UInt8) (w : World) (h0 : 0 ≤ n) (h1 : n ≤ 9223372036854775807) (hl : Nm.enc n.toNat = l) :
    Calls Try.prog 78 #[.int .i64 n] w fun e w' => ∃ A c, e = .returned (.slice A l.length c) ∧ w'.ownsRow w.heap.size 5 1 (.slice A l.length c) l.length (cb l) ∧ Below w.heap.size w w' := by
  subst hl
  exact rbytes_any n w h0 h1

theorem rtext12_any (D : HC) (w : World) (hD : CmdAt w w.heap.size D) (hm : Cp.mayC D.cmd = true) (U : ByteArray) (hU : S (Cp.bytesC D.cmd) = U) :
    Calls Try.prog 49 #[.agg #[.int .u8 D.k, .int .i64 D.mi, .slice D.GA D.Gn D.Gc, .int .i64 D.mt, .string D.key, .string D.body, .int .i64 D.i, .int .i64 D.tm, .slice D.MA D.Mn D.Mc, .int .i64 D.tp, .int .i64 D.who, .int .i64 D.n]] w fun e w' => e = .returned (.string U) ∧ Below w.heap.size w w' := by
  have hk := hD.kk
  obtain ⟨hk0, hk6, hok, -, hkey, hbody⟩ := Cp.mayC_cases hm
  have HOK := Lib.hid hok
  have HKEY : Hid (D.key.size ≤ 100) := by have := size_data D.key; have h2 : D.key.data.toList.length ≤ 16 := hkey; rw [Hid]; omega
  have HBODY : Hid (D.body.size ≤ 100) := by have := size_data D.body; have h2 : D.body.data.toList.length ≤ 64 := hbody; rw [Hid]; omega
  have HU := Lib.hid hU
  have hk6' : D.k ≤ 6 := hk6
  have B0 := Lib.hid ((Below.refl _ w).alloc (Nat.le_refl w.heap.size) (.cells #[.int .u8 D.k, .int .i64 D.mi, .slice D.GA D.Gn D.Gc, .int .i64 D.mt, .string D.key, .string D.body, .int .i64 D.i, .int .i64 D.tm, .slice D.MA D.Mn D.Mc, .int .i64 D.tp, .int .i64 D.who, .int .i64 D.n] 26))
  have HD0 := Lib.hid (hD.below B0.out)
  have K0 := Lib.hid (Blk.new w 26 #[.int .u8 D.k, .int .i64 D.mi, .slice D.GA D.Gn D.Gc, .int .i64 D.mt, .string D.key, .string D.body, .int .i64 D.i, .int .i64 D.tm, .slice D.MA D.Mn D.Mc, .int .i64 D.tp, .int .i64 D.who, .int .i64 D.n])
  have Z0 : Hid (w.heap.size + 1 = (w.alloc (.cells #[.int .u8 D.k, .int .i64 D.mi, .slice D.GA D.Gn D.Gc, .int .i64 D.mt, .string D.key, .string D.body, .int .i64 D.i, .int .i64 D.tm, .slice D.MA D.Mn D.Mc, .int .i64 D.tp, .int .i64 D.who, .int .i64 D.n] 26)).heap.size) := by rw [Hid]; simp
  obtain ⟨l0, hl0⟩ : ∃ l, Nm.enc D.k.toNat = l := ⟨_, rfl⟩
  have L0 : Hid (l0.length ≤ 6) := by rw [Hid, ← hl0]; exact Nm.enc_len6 (by omega)
  have HL0 := Lib.hid hl0
  have CB := Lib.hid (rbytes_isC D.k l0 (w.alloc (.cells #[.int .u8 D.k, .int .i64 D.mi, .slice D.GA D.Gn D.Gc, .int .i64 D.mt, .string D.key, .string D.body, .int .i64 D.i, .int .i64 D.tm, .slice D.MA D.Mn D.Mc, .int .i64 D.tp, .int .i64 D.who, .int .i64 D.n] 26)) hk.1 (by omega) hl0)
  clear hD hm hok hkey hbody hU hk0 hk6 hl0
  have c0 := K0.out.cell 0
  have c1 := K0.out.cell 1
  have c2 := K0.out.cell 2
  have c3 := K0.out.cell 3
  have c4 := K0.out.cell 4
  have c5 := K0.out.cell 5
  have c6 := K0.out.cell 6
  have c7 := K0.out.cell 7
  have c8 := K0.out.cell 8
  have c9 := K0.out.cell 9
  have c10 := K0.out.cell 10
  have c11 := K0.out.cell 11
  go_enter Try.func49, Try.ntmps49
  go_wp2_with fail
  refine CB.out.mono ?_
  rintro e w1 ⟨A0, ca0, rfl, ho, hb⟩
  have S1 : Hid (w1.ownsRow (w.heap.size + 1) 5 1 (.slice A0 l0.length ca0) l0.length (cb l0)) := by rw [Hid]; rw [← Z0.out] at ho; exact ho
  have K1 := Lib.hid (K0.out.below hb K0.out.lt)
  have B1 := Lib.hid (then_ B0.out hb)
  have HD1 := Lib.hid (HD0.out.below (hb.mono (by have := Z0.out; omega)))
  have Z1 : Hid (w.heap.size + 1 ≤ w1.heap.size) := by have := hb.size; have := Z0.out; rw [Hid]; omega
  clear ho hb CB B0 HD0 K0 Z0
  clear c0 c1 c2 c3 c4 c5 c6 c7 c8 c9 c10 c11
  have c0 := K1.out.cell 0
  have c1 := K1.out.cell 1
  have c2 := K1.out.cell 2
  have c3 := K1.out.cell 3
  have c4 := K1.out.cell 4
  have c5 := K1.out.cell 5
  have c6 := K1.out.cell 6
  have c7 := K1.out.cell 7
  have c8 := K1.out.cell 8
  have c9 := K1.out.cell 9
  have c10 := K1.out.cell 10
  have c11 := K1.out.cell 11
  rcases (by omega : D.k = 0 ∨ D.k = 1 ∨ D.k = 2 ∨ D.k = 3 ∨ D.k = 4 ∨ D.k = 5 ∨ D.k = 6) with h | h | h | h | h | h | h
  · have HK := Lib.hid h
    clear h
    have q1 : (D.k == 1) = false := beq_eq_false_iff_ne.2 (by have := HK.out; omega)
    have q2 : (D.k == 2) = false := beq_eq_false_iff_ne.2 (by have := HK.out; omega)
    have q3 : (D.k == 3) = false := beq_eq_false_iff_ne.2 (by have := HK.out; omega)
    have q4 : (D.k == 4) = false := beq_eq_false_iff_ne.2 (by have := HK.out; omega)
    have q5 : (D.k == 5) = false := beq_eq_false_iff_ne.2 (by have := HK.out; omega)
    have q6 : (D.k == 6) = false := beq_eq_false_iff_ne.2 (by have := HK.out; omega)
    have EB : Hid (S l0 = U) := by
      rw [Hid, ← HU.out, Cp.bytesR_0 (c := D.cmd) HK.out, ← HL0.out, HK.out] <;> rfl
    have okf : ∀ f ∈ Cp.fieldsC D.k, Cp.okF D.cmd f := HOK.out
    rw [HK.out, Cp.fields0] at okf
    have OKF := Lib.hid okf
    clear okf HOK HU HL0
    have hcv := run_conv (P := Try.prog) Try.underlying46 Try.underlying5 Try.underlying9 (c := ca0) (Reads.of_own S1.out)
    rw [EB.out] at hcv
    go_wp2
    go_ret
    exact ⟨rfl, B1.out⟩
  · have HK := Lib.hid h
    clear h
    have q1 : (D.k == 1) = true := beq_iff_eq.2 (by have := HK.out; omega)
    have q2 : (D.k == 2) = false := beq_eq_false_iff_ne.2 (by have := HK.out; omega)
    have q3 : (D.k == 3) = false := beq_eq_false_iff_ne.2 (by have := HK.out; omega)
    have q4 : (D.k == 4) = false := beq_eq_false_iff_ne.2 (by have := HK.out; omega)
    have q5 : (D.k == 5) = false := beq_eq_false_iff_ne.2 (by have := HK.out; omega)
    have q6 : (D.k == 6) = false := beq_eq_false_iff_ne.2 (by have := HK.out; omega)
    have EB : Hid (S (((((l0 ++ Nm.enc D.mi.toNat) ++ Nm.intsB D.gs) ++ Nm.enc D.mt.toNat) ++ Nm.txt D.key.data.toList) ++ Nm.txt D.body.data.toList) = U) := by
      rw [Hid, ← HU.out, Cp.bytesR_1 (c := D.cmd) HK.out, ← HL0.out, HK.out] <;> rfl
    have okf : ∀ f ∈ Cp.fieldsC D.k, Cp.okF D.cmd f := HOK.out
    rw [HK.out, Cp.fields1] at okf
    have OKF := Lib.hid okf
    clear okf HOK HU HL0
    obtain ⟨x1, hx1⟩ : ∃ x, Nm.enc D.mi.toNat = x := ⟨_, rfl⟩
    have HX1 := Lib.hid hx1
    have IN1 : Hid (0 ≤ D.mi ∧ D.mi ≤ 1099511627776) := OKF.out .mi (by simp)
    have LX1 : Hid (x1.length ≤ 6) := by rw [Hid, ← hx1]; exact Nm.enc_len6 (by have := IN1.out; omega)
    clear hx1
    go_wp2_with fail
    clear c0 c1 c2 c3 c4 c5 c6 c7 c8 c9 c10 c11
    have HCL := Lib.hid (rbytes_isC D.mi x1 w1 IN1.out.1 (by have := IN1.out; omega) HX1.out)
    refine HCL.out.mono ?_
    rintro e y1 ⟨AX1, cx1, rfl, ho, hb⟩
    have HR1 := Lib.hid (Reads.of_own ho)
    have SS1 := Lib.hid (own_kept S1.out hb)
    have KK1 := Lib.hid (K1.out.below hb K1.out.lt)
    have BB1 := Lib.hid (B1.out.trans (hb.mono B1.out.size))
    have DD1 := Lib.hid (HD1.out.below (hb.mono B1.out.size))
    have ZZ1 : Hid (w.heap.size + 1 ≤ y1.heap.size) := by have := hb.size; have := Z1.out; rw [Hid]; omega
    clear ho hb HCL
    go_wp2_with (at_builtin; refine app_bs rfl (.tmp 12) (.tmp 16) rfl (w.heap.size + 1) _ _ l0 rfl SS1.out y1.heap.size AX1 _ cx1 x1 rfl HR1.out ?d1 ?d2 ?_)
    case d1 => have := L0.out; have := LX1.out; omega
    case d2 => exact ZZ1.out
    intro v1 w2 ho hg
    obtain ⟨AV1, cv1, rfl, -, -, -⟩ := own_form ho
    have K2 := Lib.hid (KK1.out.grown hg.1 (Ne.symm (own_blk_ne SS1.out KK1.out (by decide))))
    have bb1 := hg.below BB1.out.size (fun k hk => by have := (SS1.out.lt k hk).1; omega)
    have B2 := Lib.hid (BB1.out.trans bb1)
    have HD2 := Lib.hid (DD1.out.below bb1)
    have Z2 : Hid (w.heap.size + 1 ≤ w2.heap.size) := by have := K2.out.lt; have := bb1.size; have := ZZ1.out; have := hg.1.size; rw [Hid]; omega
    have L1 : Hid ((l0 ++ x1).length ≤ 12) := by rw [Hid, List.length_append]; have := L0.out; have := LX1.out; omega
    rw [← List.length_append] at ho ⊢
    obtain ⟨l1, hl1⟩ : ∃ l, l0 ++ x1 = l := ⟨_, rfl⟩
    rw [hl1] at ho L1 ⊢
    have S2 := Lib.hid ho
    rw [HX1.out, hl1] at EB
    clear ho hg bb1 hl1 HX1 SS1 KK1 BB1 DD1 ZZ1 HR1
    obtain ⟨x2, hx2⟩ : ∃ x, Nm.intsB D.gs = x := ⟨_, rfl⟩
    have HX2 := Lib.hid hx2
    have IN2 : Hid (D.gs.length ≤ 4 ∧ ∀ x ∈ D.gs, Nm.inR x = true) := OKF.out .gs (by simp)
    have LX2 : Hid (x2.length ≤ 42) := by rw [Hid, ← hx2]; exact Cp.intsB_len (m := 6) (by have := IN2.out.1; omega) (by omega) IN2.out.2
    have LN2 : Hid (D.gs.length = D.Gn) := HD1.out.rg.len_i
    clear hx2
    have c0 := K2.out.cell 0
    have c1 := K2.out.cell 1
    have c2 := K2.out.cell 2
    have c3 := K2.out.cell 3
    have c4 := K2.out.cell 4
    have c5 := K2.out.cell 5
    have c6 := K2.out.cell 6
    have c7 := K2.out.cell 7
    have c8 := K2.out.cell 8
    have c9 := K2.out.cell 9
    have c10 := K2.out.cell 10
    have c11 := K2.out.cell 11
    go_wp2_with fail
    clear c0 c1 c2 c3 c4 c5 c6 c7 c8 c9 c10 c11
    have HCL := Lib.hid (rintsBytes D.GA D.Gn D.Gc D.gs w2 (HD2.out.rg.more (by have := Z2.out; omega)) (by have h1 := LN2.out; have h2 := IN2.out.1; omega) IN2.out.2)
    rw [HX2.out] at HCL
    refine HCL.out.mono ?_
    rintro e y2 ⟨AX2, cx2, rfl, ho, hb⟩
    have HR2 := Lib.hid (Reads.of_own ho)
    have SS2 := Lib.hid (own_kept S2.out hb)
    have KK2 := Lib.hid (K2.out.below hb K2.out.lt)
    have BB2 := Lib.hid (B2.out.trans (hb.mono B2.out.size))
    have DD2 := Lib.hid (HD2.out.below (hb.mono B2.out.size))
    have ZZ2 : Hid (w.heap.size + 1 ≤ y2.heap.size) := by have := hb.size; have := Z2.out; rw [Hid]; omega
    clear ho hb HCL
    go_wp2_with (at_builtin; refine app_bs rfl (.tmp 18) (.tmp 22) rfl (w.heap.size + 1) _ _ l1 rfl SS2.out y2.heap.size AX2 _ cx2 x2 rfl HR2.out ?d1 ?d2 ?_)
    case d1 => have := L1.out; have := LX2.out; omega
    case d2 => exact ZZ2.out
    intro v2 w3 ho hg
    obtain ⟨AV2, cv2, rfl, -, -, -⟩ := own_form ho
    have K3 := Lib.hid (KK2.out.grown hg.1 (Ne.symm (own_blk_ne SS2.out KK2.out (by decide))))
    have bb2 := hg.below BB2.out.size (fun k hk => by have := (SS2.out.lt k hk).1; omega)
    have B3 := Lib.hid (BB2.out.trans bb2)
    have HD3 := Lib.hid (DD2.out.below bb2)
    have Z3 : Hid (w.heap.size + 1 ≤ w3.heap.size) := by have := K3.out.lt; have := bb2.size; have := ZZ2.out; have := hg.1.size; rw [Hid]; omega
    have L2 : Hid ((l1 ++ x2).length ≤ 54) := by rw [Hid, List.length_append]; have := L1.out; have := LX2.out; omega
    rw [← List.length_append] at ho ⊢
    obtain ⟨l2, hl2⟩ : ∃ l, l1 ++ x2 = l := ⟨_, rfl⟩
    rw [hl2] at ho L2 ⊢
    have S3 := Lib.hid ho
    rw [HX2.out, hl2] at EB
    clear ho hg bb2 hl2 HX2 SS2 KK2 BB2 DD2 ZZ2 HR2
    obtain ⟨x3, hx3⟩ : ∃ x, Nm.enc D.mt.toNat = x := ⟨_, rfl⟩
    have HX3 := Lib.hid hx3
    have IN3 : Hid (0 ≤ D.mt ∧ D.mt ≤ 1099511627776) := OKF.out .mt (by simp)
    have LX3 : Hid (x3.length ≤ 6) := by rw [Hid, ← hx3]; exact Nm.enc_len6 (by have := IN3.out; omega)
    clear hx3
    have c0 := K3.out.cell 0
    have c1 := K3.out.cell 1
    have c2 := K3.out.cell 2
    have c3 := K3.out.cell 3
    have c4 := K3.out.cell 4
    have c5 := K3.out.cell 5
    have c6 := K3.out.cell 6
    have c7 := K3.out.cell 7
    have c8 := K3.out.cell 8
    have c9 := K3.out.cell 9
    have c10 := K3.out.cell 10
    have c11 := K3.out.cell 11
    go_wp2_with fail
    clear c0 c1 c2 c3 c4 c5 c6 c7 c8 c9 c10 c11
    have HCL := Lib.hid (rbytes_isC D.mt x3 w3 IN3.out.1 (by have := IN3.out; omega) HX3.out)
    refine HCL.out.mono ?_
    rintro e y3 ⟨AX3, cx3, rfl, ho, hb⟩
    have HR3 := Lib.hid (Reads.of_own ho)
    have SS3 := Lib.hid (own_kept S3.out hb)
    have KK3 := Lib.hid (K3.out.below hb K3.out.lt)
    have BB3 := Lib.hid (B3.out.trans (hb.mono B3.out.size))
    have DD3 := Lib.hid (HD3.out.below (hb.mono B3.out.size))
    have ZZ3 : Hid (w.heap.size + 1 ≤ y3.heap.size) := by have := hb.size; have := Z3.out; rw [Hid]; omega
    clear ho hb HCL
    go_wp2_with (at_builtin; refine app_bs rfl (.tmp 24) (.tmp 28) rfl (w.heap.size + 1) _ _ l2 rfl SS3.out y3.heap.size AX3 _ cx3 x3 rfl HR3.out ?d1 ?d2 ?_)
    case d1 => have := L2.out; have := LX3.out; omega
    case d2 => exact ZZ3.out
    intro v3 w4 ho hg
    obtain ⟨AV3, cv3, rfl, -, -, -⟩ := own_form ho
    have K4 := Lib.hid (KK3.out.grown hg.1 (Ne.symm (own_blk_ne SS3.out KK3.out (by decide))))
    have bb3 := hg.below BB3.out.size (fun k hk => by have := (SS3.out.lt k hk).1; omega)
    have B4 := Lib.hid (BB3.out.trans bb3)
    have HD4 := Lib.hid (DD3.out.below bb3)
    have Z4 : Hid (w.heap.size + 1 ≤ w4.heap.size) := by have := K4.out.lt; have := bb3.size; have := ZZ3.out; have := hg.1.size; rw [Hid]; omega
    have L3 : Hid ((l2 ++ x3).length ≤ 60) := by rw [Hid, List.length_append]; have := L2.out; have := LX3.out; omega
    rw [← List.length_append] at ho ⊢
    obtain ⟨l3, hl3⟩ : ∃ l, l2 ++ x3 = l := ⟨_, rfl⟩
    rw [hl3] at ho L3 ⊢
    have S4 := Lib.hid ho
    rw [HX3.out, hl3] at EB
    clear ho hg bb3 hl3 HX3 SS3 KK3 BB3 DD3 ZZ3 HR3
    obtain ⟨x4, hx4⟩ : ∃ x, Nm.txt D.key.data.toList = x := ⟨_, rfl⟩
    have HX4 := Lib.hid hx4
    have LX4 : Hid (x4.length ≤ 106) := by
      have h2 := Nm.enc_len6 (n := D.key.data.toList.length) (by have := size_data D.key; have := HKEY.out; omega)
      have h3 := size_data D.key
      have h4 := HKEY.out
      rw [Hid, ← hx4]
      unfold Nm.txt
      rw [List.length_append]
      omega
    clear hx4
    have c0 := K4.out.cell 0
    have c1 := K4.out.cell 1
    have c2 := K4.out.cell 2
    have c3 := K4.out.cell 3
    have c4 := K4.out.cell 4
    have c5 := K4.out.cell 5
    have c6 := K4.out.cell 6
    have c7 := K4.out.cell 7
    have c8 := K4.out.cell 8
    have c9 := K4.out.cell 9
    have c10 := K4.out.cell 10
    have c11 := K4.out.cell 11
    go_wp2_with fail
    clear c0 c1 c2 c3 c4 c5 c6 c7 c8 c9 c10 c11
    have HCL := Lib.hid (rtextBytes D.key x4 x4.length w4 (by have := HKEY.out; omega) HX4.out rfl)
    refine HCL.out.mono ?_
    rintro e y4 ⟨AX4, cx4, rfl, ho, hb⟩
    have HR4 := Lib.hid (Reads.of_own ho)
    have SS4 := Lib.hid (own_kept S4.out hb)
    have KK4 := Lib.hid (K4.out.below hb K4.out.lt)
    have BB4 := Lib.hid (B4.out.trans (hb.mono B4.out.size))
    have DD4 := Lib.hid (HD4.out.below (hb.mono B4.out.size))
    have ZZ4 : Hid (w.heap.size + 1 ≤ y4.heap.size) := by have := hb.size; have := Z4.out; rw [Hid]; omega
    clear ho hb HCL
    go_wp2_with (at_builtin; refine app_bs rfl (.tmp 30) (.tmp 34) rfl (w.heap.size + 1) _ _ l3 rfl SS4.out y4.heap.size AX4 _ cx4 x4 rfl HR4.out ?d1 ?d2 ?_)
    case d1 => have := L3.out; have := LX4.out; omega
    case d2 => exact ZZ4.out
    intro v4 w5 ho hg
    obtain ⟨AV4, cv4, rfl, -, -, -⟩ := own_form ho
    have K5 := Lib.hid (KK4.out.grown hg.1 (Ne.symm (own_blk_ne SS4.out KK4.out (by decide))))
    have bb4 := hg.below BB4.out.size (fun k hk => by have := (SS4.out.lt k hk).1; omega)
    have B5 := Lib.hid (BB4.out.trans bb4)
    have HD5 := Lib.hid (DD4.out.below bb4)
    have Z5 : Hid (w.heap.size + 1 ≤ w5.heap.size) := by have := K5.out.lt; have := bb4.size; have := ZZ4.out; have := hg.1.size; rw [Hid]; omega
    have L4 : Hid ((l3 ++ x4).length ≤ 166) := by rw [Hid, List.length_append]; have := L3.out; have := LX4.out; omega
    rw [← List.length_append] at ho ⊢
    obtain ⟨l4, hl4⟩ : ∃ l, l3 ++ x4 = l := ⟨_, rfl⟩
    rw [hl4] at ho L4 ⊢
    have S5 := Lib.hid ho
    rw [HX4.out, hl4] at EB
    clear ho hg bb4 hl4 HX4 SS4 KK4 BB4 DD4 ZZ4 HR4
    obtain ⟨x5, hx5⟩ : ∃ x, Nm.txt D.body.data.toList = x := ⟨_, rfl⟩
    have HX5 := Lib.hid hx5
    have LX5 : Hid (x5.length ≤ 106) := by
      have h2 := Nm.enc_len6 (n := D.body.data.toList.length) (by have := size_data D.body; have := HBODY.out; omega)
      have h3 := size_data D.body
      have h4 := HBODY.out
      rw [Hid, ← hx5]
      unfold Nm.txt
      rw [List.length_append]
      omega
    clear hx5
    have c0 := K5.out.cell 0
    have c1 := K5.out.cell 1
    have c2 := K5.out.cell 2
    have c3 := K5.out.cell 3
    have c4 := K5.out.cell 4
    have c5 := K5.out.cell 5
    have c6 := K5.out.cell 6
    have c7 := K5.out.cell 7
    have c8 := K5.out.cell 8
    have c9 := K5.out.cell 9
    have c10 := K5.out.cell 10
    have c11 := K5.out.cell 11
    go_wp2_with fail
    clear c0 c1 c2 c3 c4 c5 c6 c7 c8 c9 c10 c11
    have HCL := Lib.hid (rtextBytes D.body x5 x5.length w5 (by have := HBODY.out; omega) HX5.out rfl)
    refine HCL.out.mono ?_
    rintro e y5 ⟨AX5, cx5, rfl, ho, hb⟩
    have HR5 := Lib.hid (Reads.of_own ho)
    have SS5 := Lib.hid (own_kept S5.out hb)
    have KK5 := Lib.hid (K5.out.below hb K5.out.lt)
    have BB5 := Lib.hid (B5.out.trans (hb.mono B5.out.size))
    have DD5 := Lib.hid (HD5.out.below (hb.mono B5.out.size))
    have ZZ5 : Hid (w.heap.size + 1 ≤ y5.heap.size) := by have := hb.size; have := Z5.out; rw [Hid]; omega
    clear ho hb HCL
    go_wp2_with (at_builtin; refine app_bs rfl (.tmp 36) (.tmp 40) rfl (w.heap.size + 1) _ _ l4 rfl SS5.out y5.heap.size AX5 _ cx5 x5 rfl HR5.out ?d1 ?d2 ?_)
    case d1 => have := L4.out; have := LX5.out; omega
    case d2 => exact ZZ5.out
    intro v5 w6 ho hg
    obtain ⟨AV5, cv5, rfl, -, -, -⟩ := own_form ho
    have K6 := Lib.hid (KK5.out.grown hg.1 (Ne.symm (own_blk_ne SS5.out KK5.out (by decide))))
    have bb5 := hg.below BB5.out.size (fun k hk => by have := (SS5.out.lt k hk).1; omega)
    have B6 := Lib.hid (BB5.out.trans bb5)
    have HD6 := Lib.hid (DD5.out.below bb5)
    have Z6 : Hid (w.heap.size + 1 ≤ w6.heap.size) := by have := K6.out.lt; have := bb5.size; have := ZZ5.out; have := hg.1.size; rw [Hid]; omega
    have L5 : Hid ((l4 ++ x5).length ≤ 272) := by rw [Hid, List.length_append]; have := L4.out; have := LX5.out; omega
    rw [← List.length_append] at ho ⊢
    obtain ⟨l5, hl5⟩ : ∃ l, l4 ++ x5 = l := ⟨_, rfl⟩
    rw [hl5] at ho L5 ⊢
    have S6 := Lib.hid ho
    rw [HX5.out, hl5] at EB
    clear ho hg bb5 hl5 HX5 SS5 KK5 BB5 DD5 ZZ5 HR5
    have hcv := run_conv (P := Try.prog) Try.underlying46 Try.underlying5 Try.underlying9 (c := cv5) (Reads.of_own S6.out)
    rw [EB.out] at hcv
    go_wp2
    go_ret
    exact ⟨rfl, B6.out⟩
  · have HK := Lib.hid h
    clear h
    have q1 : (D.k == 1) = false := beq_eq_false_iff_ne.2 (by have := HK.out; omega)
    have q2 : (D.k == 2) = true := beq_iff_eq.2 (by have := HK.out; omega)
    have q3 : (D.k == 3) = false := beq_eq_false_iff_ne.2 (by have := HK.out; omega)
    have q4 : (D.k == 4) = false := beq_eq_false_iff_ne.2 (by have := HK.out; omega)
    have q5 : (D.k == 5) = false := beq_eq_false_iff_ne.2 (by have := HK.out; omega)
    have q6 : (D.k == 6) = false := beq_eq_false_iff_ne.2 (by have := HK.out; omega)
    have EB : Hid (S ((l0 ++ Nm.enc D.i.toNat) ++ Nm.enc D.tm.toNat) = U) := by
      rw [Hid, ← HU.out, Cp.bytesR_2 (c := D.cmd) HK.out, ← HL0.out, HK.out] <;> rfl
    have okf : ∀ f ∈ Cp.fieldsC D.k, Cp.okF D.cmd f := HOK.out
    rw [HK.out, Cp.fields2] at okf
    have OKF := Lib.hid okf
    clear okf HOK HU HL0
    obtain ⟨x1, hx1⟩ : ∃ x, Nm.enc D.i.toNat = x := ⟨_, rfl⟩
    have HX1 := Lib.hid hx1
    have IN1 : Hid (0 ≤ D.i ∧ D.i ≤ 1099511627776) := OKF.out .i (by simp)
    have LX1 : Hid (x1.length ≤ 6) := by rw [Hid, ← hx1]; exact Nm.enc_len6 (by have := IN1.out; omega)
    clear hx1
    go_wp2_with fail
    clear c0 c1 c2 c3 c4 c5 c6 c7 c8 c9 c10 c11
    have HCL := Lib.hid (rbytes_isC D.i x1 w1 IN1.out.1 (by have := IN1.out; omega) HX1.out)
    refine HCL.out.mono ?_
    rintro e y1 ⟨AX1, cx1, rfl, ho, hb⟩
    have HR1 := Lib.hid (Reads.of_own ho)
    have SS1 := Lib.hid (own_kept S1.out hb)
    have KK1 := Lib.hid (K1.out.below hb K1.out.lt)
    have BB1 := Lib.hid (B1.out.trans (hb.mono B1.out.size))
    have DD1 := Lib.hid (HD1.out.below (hb.mono B1.out.size))
    have ZZ1 : Hid (w.heap.size + 1 ≤ y1.heap.size) := by have := hb.size; have := Z1.out; rw [Hid]; omega
    clear ho hb HCL
    go_wp2_with (at_builtin; refine app_bs rfl (.tmp 44) (.tmp 47) rfl (w.heap.size + 1) _ _ l0 rfl SS1.out y1.heap.size AX1 _ cx1 x1 rfl HR1.out ?d1 ?d2 ?_)
    case d1 => have := L0.out; have := LX1.out; omega
    case d2 => exact ZZ1.out
    intro v1 w2 ho hg
    obtain ⟨AV1, cv1, rfl, -, -, -⟩ := own_form ho
    have K2 := Lib.hid (KK1.out.grown hg.1 (Ne.symm (own_blk_ne SS1.out KK1.out (by decide))))
    have bb1 := hg.below BB1.out.size (fun k hk => by have := (SS1.out.lt k hk).1; omega)
    have B2 := Lib.hid (BB1.out.trans bb1)
    have HD2 := Lib.hid (DD1.out.below bb1)
    have Z2 : Hid (w.heap.size + 1 ≤ w2.heap.size) := by have := K2.out.lt; have := bb1.size; have := ZZ1.out; have := hg.1.size; rw [Hid]; omega
    have L1 : Hid ((l0 ++ x1).length ≤ 12) := by rw [Hid, List.length_append]; have := L0.out; have := LX1.out; omega
    rw [← List.length_append] at ho ⊢
    obtain ⟨l1, hl1⟩ : ∃ l, l0 ++ x1 = l := ⟨_, rfl⟩
    rw [hl1] at ho L1 ⊢
    have S2 := Lib.hid ho
    rw [HX1.out, hl1] at EB
    clear ho hg bb1 hl1 HX1 SS1 KK1 BB1 DD1 ZZ1 HR1
    obtain ⟨x2, hx2⟩ : ∃ x, Nm.enc D.tm.toNat = x := ⟨_, rfl⟩
    have HX2 := Lib.hid hx2
    have IN2 : Hid (0 ≤ D.tm ∧ D.tm ≤ 1099511627776) := OKF.out .tm (by simp)
    have LX2 : Hid (x2.length ≤ 6) := by rw [Hid, ← hx2]; exact Nm.enc_len6 (by have := IN2.out; omega)
    clear hx2
    have c0 := K2.out.cell 0
    have c1 := K2.out.cell 1
    have c2 := K2.out.cell 2
    have c3 := K2.out.cell 3
    have c4 := K2.out.cell 4
    have c5 := K2.out.cell 5
    have c6 := K2.out.cell 6
    have c7 := K2.out.cell 7
    have c8 := K2.out.cell 8
    have c9 := K2.out.cell 9
    have c10 := K2.out.cell 10
    have c11 := K2.out.cell 11
    go_wp2_with fail
    clear c0 c1 c2 c3 c4 c5 c6 c7 c8 c9 c10 c11
    have HCL := Lib.hid (rbytes_isC D.tm x2 w2 IN2.out.1 (by have := IN2.out; omega) HX2.out)
    refine HCL.out.mono ?_
    rintro e y2 ⟨AX2, cx2, rfl, ho, hb⟩
    have HR2 := Lib.hid (Reads.of_own ho)
    have SS2 := Lib.hid (own_kept S2.out hb)
    have KK2 := Lib.hid (K2.out.below hb K2.out.lt)
    have BB2 := Lib.hid (B2.out.trans (hb.mono B2.out.size))
    have DD2 := Lib.hid (HD2.out.below (hb.mono B2.out.size))
    have ZZ2 : Hid (w.heap.size + 1 ≤ y2.heap.size) := by have := hb.size; have := Z2.out; rw [Hid]; omega
    clear ho hb HCL
    go_wp2_with (at_builtin; refine app_bs rfl (.tmp 49) (.tmp 52) rfl (w.heap.size + 1) _ _ l1 rfl SS2.out y2.heap.size AX2 _ cx2 x2 rfl HR2.out ?d1 ?d2 ?_)
    case d1 => have := L1.out; have := LX2.out; omega
    case d2 => exact ZZ2.out
    intro v2 w3 ho hg
    obtain ⟨AV2, cv2, rfl, -, -, -⟩ := own_form ho
    have K3 := Lib.hid (KK2.out.grown hg.1 (Ne.symm (own_blk_ne SS2.out KK2.out (by decide))))
    have bb2 := hg.below BB2.out.size (fun k hk => by have := (SS2.out.lt k hk).1; omega)
    have B3 := Lib.hid (BB2.out.trans bb2)
    have HD3 := Lib.hid (DD2.out.below bb2)
    have Z3 : Hid (w.heap.size + 1 ≤ w3.heap.size) := by have := K3.out.lt; have := bb2.size; have := ZZ2.out; have := hg.1.size; rw [Hid]; omega
    have L2 : Hid ((l1 ++ x2).length ≤ 18) := by rw [Hid, List.length_append]; have := L1.out; have := LX2.out; omega
    rw [← List.length_append] at ho ⊢
    obtain ⟨l2, hl2⟩ : ∃ l, l1 ++ x2 = l := ⟨_, rfl⟩
    rw [hl2] at ho L2 ⊢
    have S3 := Lib.hid ho
    rw [HX2.out, hl2] at EB
    clear ho hg bb2 hl2 HX2 SS2 KK2 BB2 DD2 ZZ2 HR2
    have hcv := run_conv (P := Try.prog) Try.underlying46 Try.underlying5 Try.underlying9 (c := cv2) (Reads.of_own S3.out)
    rw [EB.out] at hcv
    go_wp2
    go_ret
    exact ⟨rfl, B3.out⟩
  · have HK := Lib.hid h
    clear h
    have q1 : (D.k == 1) = false := beq_eq_false_iff_ne.2 (by have := HK.out; omega)
    have q2 : (D.k == 2) = false := beq_eq_false_iff_ne.2 (by have := HK.out; omega)
    have q3 : (D.k == 3) = true := beq_iff_eq.2 (by have := HK.out; omega)
    have q4 : (D.k == 4) = false := beq_eq_false_iff_ne.2 (by have := HK.out; omega)
    have q5 : (D.k == 5) = false := beq_eq_false_iff_ne.2 (by have := HK.out; omega)
    have q6 : (D.k == 6) = false := beq_eq_false_iff_ne.2 (by have := HK.out; omega)
    have EB : Hid (S (l0 ++ Nm.intsB D.mem) = U) := by
      rw [Hid, ← HU.out, Cp.bytesR_3 (c := D.cmd) HK.out, ← HL0.out, HK.out] <;> rfl
    have okf : ∀ f ∈ Cp.fieldsC D.k, Cp.okF D.cmd f := HOK.out
    rw [HK.out, Cp.fields3] at okf
    have OKF := Lib.hid okf
    clear okf HOK HU HL0
    obtain ⟨x1, hx1⟩ : ∃ x, Nm.intsB D.mem = x := ⟨_, rfl⟩
    have HX1 := Lib.hid hx1
    have IN1 : Hid (D.mem.length ≤ 6 ∧ ∀ x ∈ D.mem, Nm.inR x = true) := OKF.out .mem (by simp)
    have LX1 : Hid (x1.length ≤ 42) := by rw [Hid, ← hx1]; exact Cp.intsB_len (m := 6) (by have := IN1.out.1; omega) (by omega) IN1.out.2
    have LN1 : Hid (D.mem.length = D.Mn) := HD1.out.rm.len_i
    clear hx1
    go_wp2_with fail
    clear c0 c1 c2 c3 c4 c5 c6 c7 c8 c9 c10 c11
    have HCL := Lib.hid (rintsBytes D.MA D.Mn D.Mc D.mem w1 (HD1.out.rm.more (by have := Z1.out; omega)) (by have h1 := LN1.out; have h2 := IN1.out.1; omega) IN1.out.2)
    rw [HX1.out] at HCL
    refine HCL.out.mono ?_
    rintro e y1 ⟨AX1, cx1, rfl, ho, hb⟩
    have HR1 := Lib.hid (Reads.of_own ho)
    have SS1 := Lib.hid (own_kept S1.out hb)
    have KK1 := Lib.hid (K1.out.below hb K1.out.lt)
    have BB1 := Lib.hid (B1.out.trans (hb.mono B1.out.size))
    have DD1 := Lib.hid (HD1.out.below (hb.mono B1.out.size))
    have ZZ1 : Hid (w.heap.size + 1 ≤ y1.heap.size) := by have := hb.size; have := Z1.out; rw [Hid]; omega
    clear ho hb HCL
    go_wp2_with (at_builtin; refine app_bs rfl (.tmp 56) (.tmp 59) rfl (w.heap.size + 1) _ _ l0 rfl SS1.out y1.heap.size AX1 _ cx1 x1 rfl HR1.out ?d1 ?d2 ?_)
    case d1 => have := L0.out; have := LX1.out; omega
    case d2 => exact ZZ1.out
    intro v1 w2 ho hg
    obtain ⟨AV1, cv1, rfl, -, -, -⟩ := own_form ho
    have K2 := Lib.hid (KK1.out.grown hg.1 (Ne.symm (own_blk_ne SS1.out KK1.out (by decide))))
    have bb1 := hg.below BB1.out.size (fun k hk => by have := (SS1.out.lt k hk).1; omega)
    have B2 := Lib.hid (BB1.out.trans bb1)
    have HD2 := Lib.hid (DD1.out.below bb1)
    have Z2 : Hid (w.heap.size + 1 ≤ w2.heap.size) := by have := K2.out.lt; have := bb1.size; have := ZZ1.out; have := hg.1.size; rw [Hid]; omega
    have L1 : Hid ((l0 ++ x1).length ≤ 48) := by rw [Hid, List.length_append]; have := L0.out; have := LX1.out; omega
    rw [← List.length_append] at ho ⊢
    obtain ⟨l1, hl1⟩ : ∃ l, l0 ++ x1 = l := ⟨_, rfl⟩
    rw [hl1] at ho L1 ⊢
    have S2 := Lib.hid ho
    rw [HX1.out, hl1] at EB
    clear ho hg bb1 hl1 HX1 SS1 KK1 BB1 DD1 ZZ1 HR1
    have hcv := run_conv (P := Try.prog) Try.underlying46 Try.underlying5 Try.underlying9 (c := cv1) (Reads.of_own S2.out)
    rw [EB.out] at hcv
    go_wp2
    go_ret
    exact ⟨rfl, B2.out⟩
  · have HK := Lib.hid h
    clear h
    have q1 : (D.k == 1) = false := beq_eq_false_iff_ne.2 (by have := HK.out; omega)
    have q2 : (D.k == 2) = false := beq_eq_false_iff_ne.2 (by have := HK.out; omega)
    have q3 : (D.k == 3) = false := beq_eq_false_iff_ne.2 (by have := HK.out; omega)
    have q4 : (D.k == 4) = true := beq_iff_eq.2 (by have := HK.out; omega)
    have q5 : (D.k == 5) = false := beq_eq_false_iff_ne.2 (by have := HK.out; omega)
    have q6 : (D.k == 6) = false := beq_eq_false_iff_ne.2 (by have := HK.out; omega)
    have EB : Hid (S ((((l0 ++ Nm.enc D.i.toNat) ++ Nm.enc D.tp.toNat) ++ Nm.enc D.who.toNat) ++ Nm.enc D.n.toNat) = U) := by
      rw [Hid, ← HU.out, Cp.bytesR_4 (c := D.cmd) HK.out, ← HL0.out, HK.out] <;> rfl
    have okf : ∀ f ∈ Cp.fieldsC D.k, Cp.okF D.cmd f := HOK.out
    rw [HK.out, Cp.fields4] at okf
    have OKF := Lib.hid okf
    clear okf HOK HU HL0
    obtain ⟨x1, hx1⟩ : ∃ x, Nm.enc D.i.toNat = x := ⟨_, rfl⟩
    have HX1 := Lib.hid hx1
    have IN1 : Hid (0 ≤ D.i ∧ D.i ≤ 1099511627776) := OKF.out .i (by simp)
    have LX1 : Hid (x1.length ≤ 6) := by rw [Hid, ← hx1]; exact Nm.enc_len6 (by have := IN1.out; omega)
    clear hx1
    go_wp2_with fail
    clear c0 c1 c2 c3 c4 c5 c6 c7 c8 c9 c10 c11
    have HCL := Lib.hid (rbytes_isC D.i x1 w1 IN1.out.1 (by have := IN1.out; omega) HX1.out)
    refine HCL.out.mono ?_
    rintro e y1 ⟨AX1, cx1, rfl, ho, hb⟩
    have HR1 := Lib.hid (Reads.of_own ho)
    have SS1 := Lib.hid (own_kept S1.out hb)
    have KK1 := Lib.hid (K1.out.below hb K1.out.lt)
    have BB1 := Lib.hid (B1.out.trans (hb.mono B1.out.size))
    have DD1 := Lib.hid (HD1.out.below (hb.mono B1.out.size))
    have ZZ1 : Hid (w.heap.size + 1 ≤ y1.heap.size) := by have := hb.size; have := Z1.out; rw [Hid]; omega
    clear ho hb HCL
    go_wp2_with (at_builtin; refine app_bs rfl (.tmp 65) (.tmp 68) rfl (w.heap.size + 1) _ _ l0 rfl SS1.out y1.heap.size AX1 _ cx1 x1 rfl HR1.out ?d1 ?d2 ?_)
    case d1 => have := L0.out; have := LX1.out; omega
    case d2 => exact ZZ1.out
    intro v1 w2 ho hg
    obtain ⟨AV1, cv1, rfl, -, -, -⟩ := own_form ho
    have K2 := Lib.hid (KK1.out.grown hg.1 (Ne.symm (own_blk_ne SS1.out KK1.out (by decide))))
    have bb1 := hg.below BB1.out.size (fun k hk => by have := (SS1.out.lt k hk).1; omega)
    have B2 := Lib.hid (BB1.out.trans bb1)
    have HD2 := Lib.hid (DD1.out.below bb1)
    have Z2 : Hid (w.heap.size + 1 ≤ w2.heap.size) := by have := K2.out.lt; have := bb1.size; have := ZZ1.out; have := hg.1.size; rw [Hid]; omega
    have L1 : Hid ((l0 ++ x1).length ≤ 12) := by rw [Hid, List.length_append]; have := L0.out; have := LX1.out; omega
    rw [← List.length_append] at ho ⊢
    obtain ⟨l1, hl1⟩ : ∃ l, l0 ++ x1 = l := ⟨_, rfl⟩
    rw [hl1] at ho L1 ⊢
    have S2 := Lib.hid ho
    rw [HX1.out, hl1] at EB
    clear ho hg bb1 hl1 HX1 SS1 KK1 BB1 DD1 ZZ1 HR1
    obtain ⟨x2, hx2⟩ : ∃ x, Nm.enc D.tp.toNat = x := ⟨_, rfl⟩
    have HX2 := Lib.hid hx2
    have IN2 : Hid (0 ≤ D.tp ∧ D.tp ≤ 1099511627776) := OKF.out .tp (by simp)
    have LX2 : Hid (x2.length ≤ 6) := by rw [Hid, ← hx2]; exact Nm.enc_len6 (by have := IN2.out; omega)
    clear hx2
    have c0 := K2.out.cell 0
    have c1 := K2.out.cell 1
    have c2 := K2.out.cell 2
    have c3 := K2.out.cell 3
    have c4 := K2.out.cell 4
    have c5 := K2.out.cell 5
    have c6 := K2.out.cell 6
    have c7 := K2.out.cell 7
    have c8 := K2.out.cell 8
    have c9 := K2.out.cell 9
    have c10 := K2.out.cell 10
    have c11 := K2.out.cell 11
    go_wp2_with fail
    clear c0 c1 c2 c3 c4 c5 c6 c7 c8 c9 c10 c11
    have HCL := Lib.hid (rbytes_isC D.tp x2 w2 IN2.out.1 (by have := IN2.out; omega) HX2.out)
    refine HCL.out.mono ?_
    rintro e y2 ⟨AX2, cx2, rfl, ho, hb⟩
    have HR2 := Lib.hid (Reads.of_own ho)
    have SS2 := Lib.hid (own_kept S2.out hb)
    have KK2 := Lib.hid (K2.out.below hb K2.out.lt)
    have BB2 := Lib.hid (B2.out.trans (hb.mono B2.out.size))
    have DD2 := Lib.hid (HD2.out.below (hb.mono B2.out.size))
    have ZZ2 : Hid (w.heap.size + 1 ≤ y2.heap.size) := by have := hb.size; have := Z2.out; rw [Hid]; omega
    clear ho hb HCL
    go_wp2_with (at_builtin; refine app_bs rfl (.tmp 70) (.tmp 73) rfl (w.heap.size + 1) _ _ l1 rfl SS2.out y2.heap.size AX2 _ cx2 x2 rfl HR2.out ?d1 ?d2 ?_)
    case d1 => have := L1.out; have := LX2.out; omega
    case d2 => exact ZZ2.out
    intro v2 w3 ho hg
    obtain ⟨AV2, cv2, rfl, -, -, -⟩ := own_form ho
    have K3 := Lib.hid (KK2.out.grown hg.1 (Ne.symm (own_blk_ne SS2.out KK2.out (by decide))))
    have bb2 := hg.below BB2.out.size (fun k hk => by have := (SS2.out.lt k hk).1; omega)
    have B3 := Lib.hid (BB2.out.trans bb2)
    have HD3 := Lib.hid (DD2.out.below bb2)
    have Z3 : Hid (w.heap.size + 1 ≤ w3.heap.size) := by have := K3.out.lt; have := bb2.size; have := ZZ2.out; have := hg.1.size; rw [Hid]; omega
    have L2 : Hid ((l1 ++ x2).length ≤ 18) := by rw [Hid, List.length_append]; have := L1.out; have := LX2.out; omega
    rw [← List.length_append] at ho ⊢
    obtain ⟨l2, hl2⟩ : ∃ l, l1 ++ x2 = l := ⟨_, rfl⟩
    rw [hl2] at ho L2 ⊢
    have S3 := Lib.hid ho
    rw [HX2.out, hl2] at EB
    clear ho hg bb2 hl2 HX2 SS2 KK2 BB2 DD2 ZZ2 HR2
    obtain ⟨x3, hx3⟩ : ∃ x, Nm.enc D.who.toNat = x := ⟨_, rfl⟩
    have HX3 := Lib.hid hx3
    have IN3 : Hid (0 ≤ D.who ∧ D.who ≤ 1099511627776) := OKF.out .who (by simp)
    have LX3 : Hid (x3.length ≤ 6) := by rw [Hid, ← hx3]; exact Nm.enc_len6 (by have := IN3.out; omega)
    clear hx3
    have c0 := K3.out.cell 0
    have c1 := K3.out.cell 1
    have c2 := K3.out.cell 2
    have c3 := K3.out.cell 3
    have c4 := K3.out.cell 4
    have c5 := K3.out.cell 5
    have c6 := K3.out.cell 6
    have c7 := K3.out.cell 7
    have c8 := K3.out.cell 8
    have c9 := K3.out.cell 9
    have c10 := K3.out.cell 10
    have c11 := K3.out.cell 11
    go_wp2_with fail
    clear c0 c1 c2 c3 c4 c5 c6 c7 c8 c9 c10 c11
    have HCL := Lib.hid (rbytes_isC D.who x3 w3 IN3.out.1 (by have := IN3.out; omega) HX3.out)
    refine HCL.out.mono ?_
    rintro e y3 ⟨AX3, cx3, rfl, ho, hb⟩
    have HR3 := Lib.hid (Reads.of_own ho)
    have SS3 := Lib.hid (own_kept S3.out hb)
    have KK3 := Lib.hid (K3.out.below hb K3.out.lt)
    have BB3 := Lib.hid (B3.out.trans (hb.mono B3.out.size))
    have DD3 := Lib.hid (HD3.out.below (hb.mono B3.out.size))
    have ZZ3 : Hid (w.heap.size + 1 ≤ y3.heap.size) := by have := hb.size; have := Z3.out; rw [Hid]; omega
    clear ho hb HCL
    go_wp2_with (at_builtin; refine app_bs rfl (.tmp 78) (.tmp 81) rfl (w.heap.size + 1) _ _ l2 rfl SS3.out y3.heap.size AX3 _ cx3 x3 rfl HR3.out ?d1 ?d2 ?_)
    case d1 => have := L2.out; have := LX3.out; omega
    case d2 => exact ZZ3.out
    intro v3 w4 ho hg
    obtain ⟨AV3, cv3, rfl, -, -, -⟩ := own_form ho
    have K4 := Lib.hid (KK3.out.grown hg.1 (Ne.symm (own_blk_ne SS3.out KK3.out (by decide))))
    have bb3 := hg.below BB3.out.size (fun k hk => by have := (SS3.out.lt k hk).1; omega)
    have B4 := Lib.hid (BB3.out.trans bb3)
    have HD4 := Lib.hid (DD3.out.below bb3)
    have Z4 : Hid (w.heap.size + 1 ≤ w4.heap.size) := by have := K4.out.lt; have := bb3.size; have := ZZ3.out; have := hg.1.size; rw [Hid]; omega
    have L3 : Hid ((l2 ++ x3).length ≤ 24) := by rw [Hid, List.length_append]; have := L2.out; have := LX3.out; omega
    rw [← List.length_append] at ho ⊢
    obtain ⟨l3, hl3⟩ : ∃ l, l2 ++ x3 = l := ⟨_, rfl⟩
    rw [hl3] at ho L3 ⊢
    have S4 := Lib.hid ho
    rw [HX3.out, hl3] at EB
    clear ho hg bb3 hl3 HX3 SS3 KK3 BB3 DD3 ZZ3 HR3
    obtain ⟨x4, hx4⟩ : ∃ x, Nm.enc D.n.toNat = x := ⟨_, rfl⟩
    have HX4 := Lib.hid hx4
    have IN4 : Hid (0 ≤ D.n ∧ D.n ≤ 1099511627776) := OKF.out .n (by simp)
    have LX4 : Hid (x4.length ≤ 6) := by rw [Hid, ← hx4]; exact Nm.enc_len6 (by have := IN4.out; omega)
    clear hx4
    have c0 := K4.out.cell 0
    have c1 := K4.out.cell 1
    have c2 := K4.out.cell 2
    have c3 := K4.out.cell 3
    have c4 := K4.out.cell 4
    have c5 := K4.out.cell 5
    have c6 := K4.out.cell 6
    have c7 := K4.out.cell 7
    have c8 := K4.out.cell 8
    have c9 := K4.out.cell 9
    have c10 := K4.out.cell 10
    have c11 := K4.out.cell 11
    go_wp2_with fail
    clear c0 c1 c2 c3 c4 c5 c6 c7 c8 c9 c10 c11
    have HCL := Lib.hid (rbytes_isC D.n x4 w4 IN4.out.1 (by have := IN4.out; omega) HX4.out)
    refine HCL.out.mono ?_
    rintro e y4 ⟨AX4, cx4, rfl, ho, hb⟩
    have HR4 := Lib.hid (Reads.of_own ho)
    have SS4 := Lib.hid (own_kept S4.out hb)
    have KK4 := Lib.hid (K4.out.below hb K4.out.lt)
    have BB4 := Lib.hid (B4.out.trans (hb.mono B4.out.size))
    have DD4 := Lib.hid (HD4.out.below (hb.mono B4.out.size))
    have ZZ4 : Hid (w.heap.size + 1 ≤ y4.heap.size) := by have := hb.size; have := Z4.out; rw [Hid]; omega
    clear ho hb HCL
    go_wp2_with (at_builtin; refine app_bs rfl (.tmp 83) (.tmp 86) rfl (w.heap.size + 1) _ _ l3 rfl SS4.out y4.heap.size AX4 _ cx4 x4 rfl HR4.out ?d1 ?d2 ?_)
    case d1 => have := L3.out; have := LX4.out; omega
    case d2 => exact ZZ4.out
    intro v4 w5 ho hg
    obtain ⟨AV4, cv4, rfl, -, -, -⟩ := own_form ho
    have K5 := Lib.hid (KK4.out.grown hg.1 (Ne.symm (own_blk_ne SS4.out KK4.out (by decide))))
    have bb4 := hg.below BB4.out.size (fun k hk => by have := (SS4.out.lt k hk).1; omega)
    have B5 := Lib.hid (BB4.out.trans bb4)
    have HD5 := Lib.hid (DD4.out.below bb4)
    have Z5 : Hid (w.heap.size + 1 ≤ w5.heap.size) := by have := K5.out.lt; have := bb4.size; have := ZZ4.out; have := hg.1.size; rw [Hid]; omega
    have L4 : Hid ((l3 ++ x4).length ≤ 30) := by rw [Hid, List.length_append]; have := L3.out; have := LX4.out; omega
    rw [← List.length_append] at ho ⊢
    obtain ⟨l4, hl4⟩ : ∃ l, l3 ++ x4 = l := ⟨_, rfl⟩
    rw [hl4] at ho L4 ⊢
    have S5 := Lib.hid ho
    rw [HX4.out, hl4] at EB
    clear ho hg bb4 hl4 HX4 SS4 KK4 BB4 DD4 ZZ4 HR4
    have hcv := run_conv (P := Try.prog) Try.underlying46 Try.underlying5 Try.underlying9 (c := cv4) (Reads.of_own S5.out)
    rw [EB.out] at hcv
    go_wp2
    go_ret
    exact ⟨rfl, B5.out⟩
  · have HK := Lib.hid h
    clear h
    have q1 : (D.k == 1) = false := beq_eq_false_iff_ne.2 (by have := HK.out; omega)
    have q2 : (D.k == 2) = false := beq_eq_false_iff_ne.2 (by have := HK.out; omega)
    have q3 : (D.k == 3) = false := beq_eq_false_iff_ne.2 (by have := HK.out; omega)
    have q4 : (D.k == 4) = false := beq_eq_false_iff_ne.2 (by have := HK.out; omega)
    have q5 : (D.k == 5) = true := beq_iff_eq.2 (by have := HK.out; omega)
    have q6 : (D.k == 6) = false := beq_eq_false_iff_ne.2 (by have := HK.out; omega)
    have EB : Hid (S (((l0 ++ Nm.enc D.i.toNat) ++ Nm.enc D.tp.toNat) ++ Nm.enc D.n.toNat) = U) := by
      rw [Hid, ← HU.out, Cp.bytesR_5 (c := D.cmd) HK.out, ← HL0.out, HK.out] <;> rfl
    have okf : ∀ f ∈ Cp.fieldsC D.k, Cp.okF D.cmd f := HOK.out
    rw [HK.out, Cp.fields5] at okf
    have OKF := Lib.hid okf
    clear okf HOK HU HL0
    obtain ⟨x1, hx1⟩ : ∃ x, Nm.enc D.i.toNat = x := ⟨_, rfl⟩
    have HX1 := Lib.hid hx1
    have IN1 : Hid (0 ≤ D.i ∧ D.i ≤ 1099511627776) := OKF.out .i (by simp)
    have LX1 : Hid (x1.length ≤ 6) := by rw [Hid, ← hx1]; exact Nm.enc_len6 (by have := IN1.out; omega)
    clear hx1
    go_wp2_with fail
    clear c0 c1 c2 c3 c4 c5 c6 c7 c8 c9 c10 c11
    have HCL := Lib.hid (rbytes_isC D.i x1 w1 IN1.out.1 (by have := IN1.out; omega) HX1.out)
    refine HCL.out.mono ?_
    rintro e y1 ⟨AX1, cx1, rfl, ho, hb⟩
    have HR1 := Lib.hid (Reads.of_own ho)
    have SS1 := Lib.hid (own_kept S1.out hb)
    have KK1 := Lib.hid (K1.out.below hb K1.out.lt)
    have BB1 := Lib.hid (B1.out.trans (hb.mono B1.out.size))
    have DD1 := Lib.hid (HD1.out.below (hb.mono B1.out.size))
    have ZZ1 : Hid (w.heap.size + 1 ≤ y1.heap.size) := by have := hb.size; have := Z1.out; rw [Hid]; omega
    clear ho hb HCL
    go_wp2_with (at_builtin; refine app_bs rfl (.tmp 65) (.tmp 68) rfl (w.heap.size + 1) _ _ l0 rfl SS1.out y1.heap.size AX1 _ cx1 x1 rfl HR1.out ?d1 ?d2 ?_)
    case d1 => have := L0.out; have := LX1.out; omega
    case d2 => exact ZZ1.out
    intro v1 w2 ho hg
    obtain ⟨AV1, cv1, rfl, -, -, -⟩ := own_form ho
    have K2 := Lib.hid (KK1.out.grown hg.1 (Ne.symm (own_blk_ne SS1.out KK1.out (by decide))))
    have bb1 := hg.below BB1.out.size (fun k hk => by have := (SS1.out.lt k hk).1; omega)
    have B2 := Lib.hid (BB1.out.trans bb1)
    have HD2 := Lib.hid (DD1.out.below bb1)
    have Z2 : Hid (w.heap.size + 1 ≤ w2.heap.size) := by have := K2.out.lt; have := bb1.size; have := ZZ1.out; have := hg.1.size; rw [Hid]; omega
    have L1 : Hid ((l0 ++ x1).length ≤ 12) := by rw [Hid, List.length_append]; have := L0.out; have := LX1.out; omega
    rw [← List.length_append] at ho ⊢
    obtain ⟨l1, hl1⟩ : ∃ l, l0 ++ x1 = l := ⟨_, rfl⟩
    rw [hl1] at ho L1 ⊢
    have S2 := Lib.hid ho
    rw [HX1.out, hl1] at EB
    clear ho hg bb1 hl1 HX1 SS1 KK1 BB1 DD1 ZZ1 HR1
    obtain ⟨x2, hx2⟩ : ∃ x, Nm.enc D.tp.toNat = x := ⟨_, rfl⟩
    have HX2 := Lib.hid hx2
    have IN2 : Hid (0 ≤ D.tp ∧ D.tp ≤ 1099511627776) := OKF.out .tp (by simp)
    have LX2 : Hid (x2.length ≤ 6) := by rw [Hid, ← hx2]; exact Nm.enc_len6 (by have := IN2.out; omega)
    clear hx2
    have c0 := K2.out.cell 0
    have c1 := K2.out.cell 1
    have c2 := K2.out.cell 2
    have c3 := K2.out.cell 3
    have c4 := K2.out.cell 4
    have c5 := K2.out.cell 5
    have c6 := K2.out.cell 6
    have c7 := K2.out.cell 7
    have c8 := K2.out.cell 8
    have c9 := K2.out.cell 9
    have c10 := K2.out.cell 10
    have c11 := K2.out.cell 11
    go_wp2_with fail
    clear c0 c1 c2 c3 c4 c5 c6 c7 c8 c9 c10 c11
    have HCL := Lib.hid (rbytes_isC D.tp x2 w2 IN2.out.1 (by have := IN2.out; omega) HX2.out)
    refine HCL.out.mono ?_
    rintro e y2 ⟨AX2, cx2, rfl, ho, hb⟩
    have HR2 := Lib.hid (Reads.of_own ho)
    have SS2 := Lib.hid (own_kept S2.out hb)
    have KK2 := Lib.hid (K2.out.below hb K2.out.lt)
    have BB2 := Lib.hid (B2.out.trans (hb.mono B2.out.size))
    have DD2 := Lib.hid (HD2.out.below (hb.mono B2.out.size))
    have ZZ2 : Hid (w.heap.size + 1 ≤ y2.heap.size) := by have := hb.size; have := Z2.out; rw [Hid]; omega
    clear ho hb HCL
    go_wp2_with (at_builtin; refine app_bs rfl (.tmp 70) (.tmp 73) rfl (w.heap.size + 1) _ _ l1 rfl SS2.out y2.heap.size AX2 _ cx2 x2 rfl HR2.out ?d1 ?d2 ?_)
    case d1 => have := L1.out; have := LX2.out; omega
    case d2 => exact ZZ2.out
    intro v2 w3 ho hg
    obtain ⟨AV2, cv2, rfl, -, -, -⟩ := own_form ho
    have K3 := Lib.hid (KK2.out.grown hg.1 (Ne.symm (own_blk_ne SS2.out KK2.out (by decide))))
    have bb2 := hg.below BB2.out.size (fun k hk => by have := (SS2.out.lt k hk).1; omega)
    have B3 := Lib.hid (BB2.out.trans bb2)
    have HD3 := Lib.hid (DD2.out.below bb2)
    have Z3 : Hid (w.heap.size + 1 ≤ w3.heap.size) := by have := K3.out.lt; have := bb2.size; have := ZZ2.out; have := hg.1.size; rw [Hid]; omega
    have L2 : Hid ((l1 ++ x2).length ≤ 18) := by rw [Hid, List.length_append]; have := L1.out; have := LX2.out; omega
    rw [← List.length_append] at ho ⊢
    obtain ⟨l2, hl2⟩ : ∃ l, l1 ++ x2 = l := ⟨_, rfl⟩
    rw [hl2] at ho L2 ⊢
    have S3 := Lib.hid ho
    rw [HX2.out, hl2] at EB
    clear ho hg bb2 hl2 HX2 SS2 KK2 BB2 DD2 ZZ2 HR2
    obtain ⟨x3, hx3⟩ : ∃ x, Nm.enc D.n.toNat = x := ⟨_, rfl⟩
    have HX3 := Lib.hid hx3
    have IN3 : Hid (0 ≤ D.n ∧ D.n ≤ 1099511627776) := OKF.out .n (by simp)
    have LX3 : Hid (x3.length ≤ 6) := by rw [Hid, ← hx3]; exact Nm.enc_len6 (by have := IN3.out; omega)
    clear hx3
    have c0 := K3.out.cell 0
    have c1 := K3.out.cell 1
    have c2 := K3.out.cell 2
    have c3 := K3.out.cell 3
    have c4 := K3.out.cell 4
    have c5 := K3.out.cell 5
    have c6 := K3.out.cell 6
    have c7 := K3.out.cell 7
    have c8 := K3.out.cell 8
    have c9 := K3.out.cell 9
    have c10 := K3.out.cell 10
    have c11 := K3.out.cell 11
    go_wp2_with fail
    clear c0 c1 c2 c3 c4 c5 c6 c7 c8 c9 c10 c11
    have HCL := Lib.hid (rbytes_isC D.n x3 w3 IN3.out.1 (by have := IN3.out; omega) HX3.out)
    refine HCL.out.mono ?_
    rintro e y3 ⟨AX3, cx3, rfl, ho, hb⟩
    have HR3 := Lib.hid (Reads.of_own ho)
    have SS3 := Lib.hid (own_kept S3.out hb)
    have KK3 := Lib.hid (K3.out.below hb K3.out.lt)
    have BB3 := Lib.hid (B3.out.trans (hb.mono B3.out.size))
    have DD3 := Lib.hid (HD3.out.below (hb.mono B3.out.size))
    have ZZ3 : Hid (w.heap.size + 1 ≤ y3.heap.size) := by have := hb.size; have := Z3.out; rw [Hid]; omega
    clear ho hb HCL
    go_wp2_with (at_builtin; refine app_bs rfl (.tmp 83) (.tmp 86) rfl (w.heap.size + 1) _ _ l2 rfl SS3.out y3.heap.size AX3 _ cx3 x3 rfl HR3.out ?d1 ?d2 ?_)
    case d1 => have := L2.out; have := LX3.out; omega
    case d2 => exact ZZ3.out
    intro v3 w4 ho hg
    obtain ⟨AV3, cv3, rfl, -, -, -⟩ := own_form ho
    have K4 := Lib.hid (KK3.out.grown hg.1 (Ne.symm (own_blk_ne SS3.out KK3.out (by decide))))
    have bb3 := hg.below BB3.out.size (fun k hk => by have := (SS3.out.lt k hk).1; omega)
    have B4 := Lib.hid (BB3.out.trans bb3)
    have HD4 := Lib.hid (DD3.out.below bb3)
    have Z4 : Hid (w.heap.size + 1 ≤ w4.heap.size) := by have := K4.out.lt; have := bb3.size; have := ZZ3.out; have := hg.1.size; rw [Hid]; omega
    have L3 : Hid ((l2 ++ x3).length ≤ 24) := by rw [Hid, List.length_append]; have := L2.out; have := LX3.out; omega
    rw [← List.length_append] at ho ⊢
    obtain ⟨l3, hl3⟩ : ∃ l, l2 ++ x3 = l := ⟨_, rfl⟩
    rw [hl3] at ho L3 ⊢
    have S4 := Lib.hid ho
    rw [HX3.out, hl3] at EB
    clear ho hg bb3 hl3 HX3 SS3 KK3 BB3 DD3 ZZ3 HR3
    have hcv := run_conv (P := Try.prog) Try.underlying46 Try.underlying5 Try.underlying9 (c := cv3) (Reads.of_own S4.out)
    rw [EB.out] at hcv
    go_wp2
    go_ret
    exact ⟨rfl, B4.out⟩
  · have HK := Lib.hid h
    clear h
    have q1 : (D.k == 1) = false := beq_eq_false_iff_ne.2 (by have := HK.out; omega)
    have q2 : (D.k == 2) = false := beq_eq_false_iff_ne.2 (by have := HK.out; omega)
    have q3 : (D.k == 3) = false := beq_eq_false_iff_ne.2 (by have := HK.out; omega)
    have q4 : (D.k == 4) = false := beq_eq_false_iff_ne.2 (by have := HK.out; omega)
    have q5 : (D.k == 5) = false := beq_eq_false_iff_ne.2 (by have := HK.out; omega)
    have q6 : (D.k == 6) = true := beq_iff_eq.2 (by have := HK.out; omega)
    have EB : Hid (S (((l0 ++ Nm.enc D.i.toNat) ++ Nm.enc D.tp.toNat) ++ Nm.enc D.n.toNat) = U) := by
      rw [Hid, ← HU.out, Cp.bytesR_6 (c := D.cmd) HK.out, ← HL0.out, HK.out] <;> rfl
    have okf : ∀ f ∈ Cp.fieldsC D.k, Cp.okF D.cmd f := HOK.out
    rw [HK.out, Cp.fields6] at okf
    have OKF := Lib.hid okf
    clear okf HOK HU HL0
    obtain ⟨x1, hx1⟩ : ∃ x, Nm.enc D.i.toNat = x := ⟨_, rfl⟩
    have HX1 := Lib.hid hx1
    have IN1 : Hid (0 ≤ D.i ∧ D.i ≤ 1099511627776) := OKF.out .i (by simp)
    have LX1 : Hid (x1.length ≤ 6) := by rw [Hid, ← hx1]; exact Nm.enc_len6 (by have := IN1.out; omega)
    clear hx1
    go_wp2_with fail
    clear c0 c1 c2 c3 c4 c5 c6 c7 c8 c9 c10 c11
    have HCL := Lib.hid (rbytes_isC D.i x1 w1 IN1.out.1 (by have := IN1.out; omega) HX1.out)
    refine HCL.out.mono ?_
    rintro e y1 ⟨AX1, cx1, rfl, ho, hb⟩
    have HR1 := Lib.hid (Reads.of_own ho)
    have SS1 := Lib.hid (own_kept S1.out hb)
    have KK1 := Lib.hid (K1.out.below hb K1.out.lt)
    have BB1 := Lib.hid (B1.out.trans (hb.mono B1.out.size))
    have DD1 := Lib.hid (HD1.out.below (hb.mono B1.out.size))
    have ZZ1 : Hid (w.heap.size + 1 ≤ y1.heap.size) := by have := hb.size; have := Z1.out; rw [Hid]; omega
    clear ho hb HCL
    go_wp2_with (at_builtin; refine app_bs rfl (.tmp 65) (.tmp 68) rfl (w.heap.size + 1) _ _ l0 rfl SS1.out y1.heap.size AX1 _ cx1 x1 rfl HR1.out ?d1 ?d2 ?_)
    case d1 => have := L0.out; have := LX1.out; omega
    case d2 => exact ZZ1.out
    intro v1 w2 ho hg
    obtain ⟨AV1, cv1, rfl, -, -, -⟩ := own_form ho
    have K2 := Lib.hid (KK1.out.grown hg.1 (Ne.symm (own_blk_ne SS1.out KK1.out (by decide))))
    have bb1 := hg.below BB1.out.size (fun k hk => by have := (SS1.out.lt k hk).1; omega)
    have B2 := Lib.hid (BB1.out.trans bb1)
    have HD2 := Lib.hid (DD1.out.below bb1)
    have Z2 : Hid (w.heap.size + 1 ≤ w2.heap.size) := by have := K2.out.lt; have := bb1.size; have := ZZ1.out; have := hg.1.size; rw [Hid]; omega
    have L1 : Hid ((l0 ++ x1).length ≤ 12) := by rw [Hid, List.length_append]; have := L0.out; have := LX1.out; omega
    rw [← List.length_append] at ho ⊢
    obtain ⟨l1, hl1⟩ : ∃ l, l0 ++ x1 = l := ⟨_, rfl⟩
    rw [hl1] at ho L1 ⊢
    have S2 := Lib.hid ho
    rw [HX1.out, hl1] at EB
    clear ho hg bb1 hl1 HX1 SS1 KK1 BB1 DD1 ZZ1 HR1
    obtain ⟨x2, hx2⟩ : ∃ x, Nm.enc D.tp.toNat = x := ⟨_, rfl⟩
    have HX2 := Lib.hid hx2
    have IN2 : Hid (0 ≤ D.tp ∧ D.tp ≤ 1099511627776) := OKF.out .tp (by simp)
    have LX2 : Hid (x2.length ≤ 6) := by rw [Hid, ← hx2]; exact Nm.enc_len6 (by have := IN2.out; omega)
    clear hx2
    have c0 := K2.out.cell 0
    have c1 := K2.out.cell 1
    have c2 := K2.out.cell 2
    have c3 := K2.out.cell 3
    have c4 := K2.out.cell 4
    have c5 := K2.out.cell 5
    have c6 := K2.out.cell 6
    have c7 := K2.out.cell 7
    have c8 := K2.out.cell 8
    have c9 := K2.out.cell 9
    have c10 := K2.out.cell 10
    have c11 := K2.out.cell 11
    go_wp2_with fail
    clear c0 c1 c2 c3 c4 c5 c6 c7 c8 c9 c10 c11
    have HCL := Lib.hid (rbytes_isC D.tp x2 w2 IN2.out.1 (by have := IN2.out; omega) HX2.out)
    refine HCL.out.mono ?_
    rintro e y2 ⟨AX2, cx2, rfl, ho, hb⟩
    have HR2 := Lib.hid (Reads.of_own ho)
    have SS2 := Lib.hid (own_kept S2.out hb)
    have KK2 := Lib.hid (K2.out.below hb K2.out.lt)
    have BB2 := Lib.hid (B2.out.trans (hb.mono B2.out.size))
    have DD2 := Lib.hid (HD2.out.below (hb.mono B2.out.size))
    have ZZ2 : Hid (w.heap.size + 1 ≤ y2.heap.size) := by have := hb.size; have := Z2.out; rw [Hid]; omega
    clear ho hb HCL
    go_wp2_with (at_builtin; refine app_bs rfl (.tmp 70) (.tmp 73) rfl (w.heap.size + 1) _ _ l1 rfl SS2.out y2.heap.size AX2 _ cx2 x2 rfl HR2.out ?d1 ?d2 ?_)
    case d1 => have := L1.out; have := LX2.out; omega
    case d2 => exact ZZ2.out
    intro v2 w3 ho hg
    obtain ⟨AV2, cv2, rfl, -, -, -⟩ := own_form ho
    have K3 := Lib.hid (KK2.out.grown hg.1 (Ne.symm (own_blk_ne SS2.out KK2.out (by decide))))
    have bb2 := hg.below BB2.out.size (fun k hk => by have := (SS2.out.lt k hk).1; omega)
    have B3 := Lib.hid (BB2.out.trans bb2)
    have HD3 := Lib.hid (DD2.out.below bb2)
    have Z3 : Hid (w.heap.size + 1 ≤ w3.heap.size) := by have := K3.out.lt; have := bb2.size; have := ZZ2.out; have := hg.1.size; rw [Hid]; omega
    have L2 : Hid ((l1 ++ x2).length ≤ 18) := by rw [Hid, List.length_append]; have := L1.out; have := LX2.out; omega
    rw [← List.length_append] at ho ⊢
    obtain ⟨l2, hl2⟩ : ∃ l, l1 ++ x2 = l := ⟨_, rfl⟩
    rw [hl2] at ho L2 ⊢
    have S3 := Lib.hid ho
    rw [HX2.out, hl2] at EB
    clear ho hg bb2 hl2 HX2 SS2 KK2 BB2 DD2 ZZ2 HR2
    obtain ⟨x3, hx3⟩ : ∃ x, Nm.enc D.n.toNat = x := ⟨_, rfl⟩
    have HX3 := Lib.hid hx3
    have IN3 : Hid (0 ≤ D.n ∧ D.n ≤ 1099511627776) := OKF.out .n (by simp)
    have LX3 : Hid (x3.length ≤ 6) := by rw [Hid, ← hx3]; exact Nm.enc_len6 (by have := IN3.out; omega)
    clear hx3
    have c0 := K3.out.cell 0
    have c1 := K3.out.cell 1
    have c2 := K3.out.cell 2
    have c3 := K3.out.cell 3
    have c4 := K3.out.cell 4
    have c5 := K3.out.cell 5
    have c6 := K3.out.cell 6
    have c7 := K3.out.cell 7
    have c8 := K3.out.cell 8
    have c9 := K3.out.cell 9
    have c10 := K3.out.cell 10
    have c11 := K3.out.cell 11
    go_wp2_with fail
    clear c0 c1 c2 c3 c4 c5 c6 c7 c8 c9 c10 c11
    have HCL := Lib.hid (rbytes_isC D.n x3 w3 IN3.out.1 (by have := IN3.out; omega) HX3.out)
    refine HCL.out.mono ?_
    rintro e y3 ⟨AX3, cx3, rfl, ho, hb⟩
    have HR3 := Lib.hid (Reads.of_own ho)
    have SS3 := Lib.hid (own_kept S3.out hb)
    have KK3 := Lib.hid (K3.out.below hb K3.out.lt)
    have BB3 := Lib.hid (B3.out.trans (hb.mono B3.out.size))
    have DD3 := Lib.hid (HD3.out.below (hb.mono B3.out.size))
    have ZZ3 : Hid (w.heap.size + 1 ≤ y3.heap.size) := by have := hb.size; have := Z3.out; rw [Hid]; omega
    clear ho hb HCL
    go_wp2_with (at_builtin; refine app_bs rfl (.tmp 83) (.tmp 86) rfl (w.heap.size + 1) _ _ l2 rfl SS3.out y3.heap.size AX3 _ cx3 x3 rfl HR3.out ?d1 ?d2 ?_)
    case d1 => have := L2.out; have := LX3.out; omega
    case d2 => exact ZZ3.out
    intro v3 w4 ho hg
    obtain ⟨AV3, cv3, rfl, -, -, -⟩ := own_form ho
    have K4 := Lib.hid (KK3.out.grown hg.1 (Ne.symm (own_blk_ne SS3.out KK3.out (by decide))))
    have bb3 := hg.below BB3.out.size (fun k hk => by have := (SS3.out.lt k hk).1; omega)
    have B4 := Lib.hid (BB3.out.trans bb3)
    have HD4 := Lib.hid (DD3.out.below bb3)
    have Z4 : Hid (w.heap.size + 1 ≤ w4.heap.size) := by have := K4.out.lt; have := bb3.size; have := ZZ3.out; have := hg.1.size; rw [Hid]; omega
    have L3 : Hid ((l2 ++ x3).length ≤ 24) := by rw [Hid, List.length_append]; have := L2.out; have := LX3.out; omega
    rw [← List.length_append] at ho ⊢
    obtain ⟨l3, hl3⟩ : ∃ l, l2 ++ x3 = l := ⟨_, rfl⟩
    rw [hl3] at ho L3 ⊢
    have S4 := Lib.hid ho
    rw [HX3.out, hl3] at EB
    clear ho hg bb3 hl3 HX3 SS3 KK3 BB3 DD3 ZZ3 HR3
    have hcv := run_conv (P := Try.prog) Try.underlying46 Try.underlying5 Try.underlying9 (c := cv3) (Reads.of_own S4.out)
    rw [EB.out] at hcv
    go_wp2
    go_ret
    exact ⟨rfl, B4.out⟩

theorem rwrite12_any (D : HC) (w : World) (hD : CmdAt w w.heap.size D) (b : Bool) (hb : Cp.mayC D.cmd = b) (U : ByteArray) (hU : (if b = true then S (Cp.bytesC D.cmd) else ⟨#[]⟩) = U) :
    Calls Try.prog 15 #[.agg #[.int .u8 D.k, .int .i64 D.mi, .slice D.GA D.Gn D.Gc, .int .i64 D.mt, .string D.key, .string D.body, .int .i64 D.i, .int .i64 D.tm, .slice D.MA D.Mn D.Mc, .int .i64 D.tp, .int .i64 D.who, .int .i64 D.n]] w fun e w' => e = .returned (.tuple #[.string U, .int .i64 (errK b)]) ∧ Below w.heap.size w w' := by
  have B0 := Lib.hid ((Below.refl _ w).alloc (Nat.le_refl w.heap.size) (.cells #[.int .u8 D.k, .int .i64 D.mi, .slice D.GA D.Gn D.Gc, .int .i64 D.mt, .string D.key, .string D.body, .int .i64 D.i, .int .i64 D.tm, .slice D.MA D.Mn D.Mc, .int .i64 D.tp, .int .i64 D.who, .int .i64 D.n] 26))
  have HD0 := Lib.hid (hD.alloc (.cells #[.int .u8 D.k, .int .i64 D.mi, .slice D.GA D.Gn D.Gc, .int .i64 D.mt, .string D.key, .string D.body, .int .i64 D.i, .int .i64 D.tm, .slice D.MA D.Mn D.Mc, .int .i64 D.tp, .int .i64 D.who, .int .i64 D.n] 26))
  have HB := Lib.hid hb
  have HU := Lib.hid hU
  have K0 := Lib.hid (Blk.new w 26 #[.int .u8 D.k, .int .i64 D.mi, .slice D.GA D.Gn D.Gc, .int .i64 D.mt, .string D.key, .string D.body, .int .i64 D.i, .int .i64 D.tm, .slice D.MA D.Mn D.Mc, .int .i64 D.tp, .int .i64 D.who, .int .i64 D.n])
  clear hD hb hU
  have c0 := K0.out.cell 0
  have c1 := K0.out.cell 1
  have c2 := K0.out.cell 2
  have c3 := K0.out.cell 3
  have c4 := K0.out.cell 4
  have c5 := K0.out.cell 5
  have c6 := K0.out.cell 6
  have c7 := K0.out.cell 7
  have c8 := K0.out.cell 8
  have c9 := K0.out.cell 9
  have c10 := K0.out.cell 10
  have c11 := K0.out.cell 11
  go_enter Try.func15, Try.ntmps15
  go_wp2_with fail
  refine (rmay12_any D _ HD0.out b HB.out).mono ?_
  rintro e w1 ⟨rfl, hb⟩
  have B1 := Lib.hid (then_ B0.out hb)
  have HD1 := Lib.hid (HD0.out.up hb)
  have K1 := Lib.hid (K0.out.below hb K0.out.lt)
  clear hb c0 c1 c2 c3 c4 c5 c6 c7 c8 c9 c10 c11
  have c0 := K1.out.cell 0
  have c1 := K1.out.cell 1
  have c2 := K1.out.cell 2
  have c3 := K1.out.cell 3
  have c4 := K1.out.cell 4
  have c5 := K1.out.cell 5
  have c6 := K1.out.cell 6
  have c7 := K1.out.cell 7
  have c8 := K1.out.cell 8
  have c9 := K1.out.cell 9
  have c10 := K1.out.cell 10
  have c11 := K1.out.cell 11
  cases b with
  | false =>
    have hu : U = ⟨#[]⟩ := HU.out.symm
    subst hu
    go_wp2
    go_ret2
    exact ⟨rfl, B1.out⟩
  | true =>
    go_wp2_with fail
    refine (rtext12_any D _ HD1.out HB.out U HU.out).mono ?_
    rintro e w2 ⟨rfl, hb⟩
    have B2 := Lib.hid (B1.out.trans (hb.mono B1.out.size))
    clear hb c0 c1 c2 c3 c4 c5 c6 c7 c8 c9 c10 c11
    go_wp2
    go_ret2
    exact ⟨rfl, B2.out⟩
end Go.Proofs.Ytaoekfgeggopbaa
