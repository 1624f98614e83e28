/-
  Layer 12: is, alive, bad; the walks of CommandBack and CommandOnly.
-/
import Derived.Test.YtaoekfgeggopbaaCmdTextW
import Derived.Test.YtaoekfgeggopbaaCmdReadW
import Derived.Test.YtaoekfgeggopbaaCmdTwin
import Derived.Test.YtaoekfgeggopbaaCmdIn
namespace Go.Proofs.Ytaoekfgeggopbaa
open Go.RowKit
set_option maxHeartbeats 8000000
set_option maxRecDepth 100000
set_option linter.unusedVariables false
set_option linter.unusedSimpArgs false

theorem bytes_conv {w : World} {B n c : Nat} {A : Option Addr} {l : List UInt8} (h : Reads w B 1 A n (cb l)) : (convert 46 9 (.slice A n c)).run Try.prog w = .ok (.string (S l)) w :=
  run_conv Try.underlying46 Try.underlying5 Try.underlying9 h

theorem new_b {w : World} (cs : Array Value) (l : List UInt8) (n : Nat) (h : cs.toList = cb l) (hn : l.length = n) : Reads (w.alloc (.cells cs 5)) (w.alloc (.cells cs 5)).heap.size 1 (some ⟨w.heap.size, 0, none⟩) n (cb l) := by
  have := Reads.new w 5 cs
  have e : cs.size = n := by rw [← Array.length_toList, h, cb_length, hn]
  rw [h, e] at this
  exact this.more (by simp)
theorem cis_yes (D : HC) (A : Option Addr) (n c : Nat) (l : List UInt8) (w : World) (hD : CmdAt w w.heap.size D) (hr : Reads w w.heap.size 1 A n (cb l)) (hm : Cp.mayC D.cmd = true) (hb : Cp.bytesC D.cmd = l) :
    Calls Try.prog 26 #[.agg #[.int .u8 D.k, .int .i64 D.mi, .slice D.GA D.Gn D.Gc, .int .i64 D.mt, .string D.key, .string D.body, .int .i64 D.i, .int .i64 D.tm, .slice D.MA D.Mn D.Mc, .int .i64 D.tp, .int .i64 D.who, .int .i64 D.n], .slice A n c] w fun e w' => e = .returned (.bool true) ∧ Below w.heap.size w w' := by
  have B0 := Lib.hid ((Below.refl _ w).alloc (Nat.le_refl w.heap.size) (.cells #[.int .u8 D.k, .int .i64 D.mi, .slice D.GA D.Gn D.Gc, .int .i64 D.mt, .string D.key, .string D.body, .int .i64 D.i, .int .i64 D.tm, .slice D.MA D.Mn D.Mc, .int .i64 D.tp, .int .i64 D.who, .int .i64 D.n] 26))
  have HD0 := Lib.hid (hD.alloc (.cells #[.int .u8 D.k, .int .i64 D.mi, .slice D.GA D.Gn D.Gc, .int .i64 D.mt, .string D.key, .string D.body, .int .i64 D.i, .int .i64 D.tm, .slice D.MA D.Mn D.Mc, .int .i64 D.tp, .int .i64 D.who, .int .i64 D.n] 26))
  have HR := Lib.hid hr
  have HM := Lib.hid hm
  obtain ⟨U, hU⟩ : ∃ U, S l = U := ⟨_, rfl⟩
  have HU := Lib.hid hU
  have HBU : Hid ((if true = true then S (Cp.bytesC D.cmd) else (⟨#[]⟩ : ByteArray)) = U) := by rw [Hid, if_pos rfl, hb]; exact hU
  clear hD hr hm hb hU
  go_enter Try.func26, Try.ntmps26
  go_wp2_with fail
  refine (cwrite_any D _ HD0.out true HM.out U HBU.out).mono ?_
  rintro e w1 ⟨rfl, hb⟩
  rw [show errK true = 0 from rfl]
  have B1 := Lib.hid (then_ B0.out hb)
  have hcv := bytes_conv (c := c) ((HR.out.below B1.out))
  rw [HU.out] at hcv
  clear hb
  go_wp2
  go_ret
  exact ⟨rfl, B1.out⟩

theorem cbad_yes (A : Option Addr) (n c : Nat) (l : List UInt8) (w : World) (hr : Reads w w.heap.size 1 A n (cb l)) (hn : l.length ≤ 1024) (hb : Cp.readC l = none) :
    Calls Try.prog 28 #[.slice A n c] w fun e w' => e = .returned (.bool true) ∧ Below w.heap.size w w' := by
  obtain ⟨U, hU⟩ : ∃ U, S l = U := ⟨_, rfl⟩
  have hcv := bytes_conv (c := c) hr
  rw [hU] at hcv
  have HR := Lib.hid (cread_any U l w (by rw [← hU, S_size]; unfold maxLen; omega) (by rw [← hU]; rfl))
  have HX := Lib.hid (Cp.readX_none (l := l) (by omega) hb)
  clear hr hU hb
  go_enter Try.func28, Try.ntmps28
  go_wp2_with fail
  refine HR.out.mono ?_
  rintro e w1 ⟨D, x, rfl, hx, ho, hb⟩
  rw [HX.out] at hx
  obtain rfl : x = 8 := congrArg Prod.snd hx
  have B1 := Lib.hid (hb.alloc hb.size (.cells #[.int .u8 D.k, .int .i64 D.mi, .slice D.GA D.Gn D.Gc, .int .i64 D.mt, .string D.key, .string D.body, .int .i64 D.i, .int .i64 D.tm, .slice D.MA D.Mn D.Mc, .int .i64 D.tp, .int .i64 D.who, .int .i64 D.n] 26))
  clear hx ho hb
  go_wp2
  go_ret
  exact ⟨rfl, B1.out⟩

def cFin : HC := ⟨2, 0, none, 0, 0, [], 0, ⟨#[]⟩, ⟨#[]⟩, 3, 200, none, 0, 0, [], 0, 0, 0⟩
theorem cFin_at (w : World) (B : Nat) : CmdAt w B cFin := by
  have z := zeroHC_at w B (k := 2) (by omega)
  exact ⟨z.rg, z.rm, z.gc, z.gm, z.mc, z.mm, z.kk, z.bk, z.bb, z.ig, z.im, z.a1, z.a2, ⟨by simp [cFin], by simp [cFin]⟩, ⟨by simp [cFin], by simp [cFin]⟩, z.a5, z.a6, z.a7⟩
theorem alive12_any (w : World) : Calls Try.prog 27 #[] w fun e w' => e = .returned (.bool true) ∧ Below w.heap.size w w' := by
  have B1 := Lib.hid ((Below.refl _ w).alloc (Nat.le_refl w.heap.size) (.cells #[.int .u8 0] 5))
  go_enter Try.func27, Try.ntmps27
  go_wp2_with fail
  refine (cis_yes (zeroHC 0) (some ⟨w.heap.size, 0, none⟩) 1 1 [0] _ (zeroHC_at _ _ (by omega)) (new_b #[.int .u8 0] [0] 1 rfl rfl) (by decide) (by decide)).mono ?_
  rintro e w2 ⟨rfl, hb⟩
  have B2 := Lib.hid (then_ B1.out hb)
  have B3 := Lib.hid (B2.out.alloc B2.out.size (.cells #[.int .u8 2, .int .u8 3, .int .u8 200, .int .u8 1] 5))
  clear hb B1 B2
  go_wp2_with fail
  refine (cis_yes cFin (some ⟨w2.heap.size, 0, none⟩) 4 4 [2, 3, 200, 1] _ (cFin_at _ _) (new_b #[.int .u8 2, .int .u8 3, .int .u8 200, .int .u8 1] [2, 3, 200, 1] 4 rfl rfl) (by decide) (by decide +kernel)).mono ?_
  rintro e w4 ⟨rfl, hb⟩
  have B4 := Lib.hid (B3.out.trans (hb.mono B3.out.size))
  clear hb
  go_wp2
  go_ret
  exact ⟨rfl, B4.out⟩

theorem SU_extract (l : List UInt8) (k : Nat) : (S l).extract 0 k = S (l.take k) := by
  apply ByteArray.ext
  apply Array.toList_inj.1
  simp [S, ByteArray.data_extract]
theorem cut_str (l : List UInt8) (k : Nat) (hk : k ≤ l.length) (w : World) :
    (Instr.slice 9 (.string (S l)) none (some (.int .i64 (k : Int))) none).run Try.prog w = .ok (.string (S (l.take k))) w := by
  have h := run_slice_string_h (P := Try.prog) w 9 (S l) Try.underlying9 .i64 (k : Int) (by omega) (by rw [S_size]; omega)
  rw [h, Int.toNat_natCast, SU_extract]
theorem Cp.cut_none {c : Cp.Cmd} (h : Cp.mayC c = true) {k : Nat} (hk : k < (Cp.bytesC c).length) : Cp.readC ((Cp.bytesC c).take k) = none := by
  cases hr : Cp.readC ((Cp.bytesC c).take k) with
  | none => rfl
  | some d =>
    obtain ⟨h1, h2⟩ := Cp.readC_back hr
    have e : Cp.bytesC c = Cp.bytesC d ++ (Cp.bytesC c).drop k := by rw [h2, List.take_append_drop]
    have := Cp.bytesC_apart h h1 e
    have hl := congrArg List.length this
    rw [List.length_drop, List.length_nil] at hl
    omega

theorem commandBack_walk (D : HC) (cut : Int) (w : World) (hD : CmdAt w w.heap.size D) (hcut : -9223372036854775808 ≤ cut ∧ cut ≤ 9223372036854775807) :
    Calls Try.prog 6 #[.agg #[.int .u8 D.k, .int .i64 D.mi, .slice D.GA D.Gn D.Gc, .int .i64 D.mt, .string D.key, .string D.body, .int .i64 D.i, .int .i64 D.tm, .slice D.MA D.Mn D.Mc, .int .i64 D.tp, .int .i64 D.who, .int .i64 D.n], .int .i64 cut] w fun e w' => e = .returned (.bool true) ∧ Below w.heap.size w w' := by
  have B0 := Lib.hid ((Below.refl _ w).alloc (Nat.le_refl w.heap.size) (.cells #[.int .u8 D.k, .int .i64 D.mi, .slice D.GA D.Gn D.Gc, .int .i64 D.mt, .string D.key, .string D.body, .int .i64 D.i, .int .i64 D.tm, .slice D.MA D.Mn D.Mc, .int .i64 D.tp, .int .i64 D.who, .int .i64 D.n] 26))
  have HD := Lib.hid (hD.alloc (.cells #[.int .u8 D.k, .int .i64 D.mi, .slice D.GA D.Gn D.Gc, .int .i64 D.mt, .string D.key, .string D.body, .int .i64 D.i, .int .i64 D.tm, .slice D.MA D.Mn D.Mc, .int .i64 D.tp, .int .i64 D.who, .int .i64 D.n] 26))
  have KD := Lib.hid (Blk.new w 26 #[.int .u8 D.k, .int .i64 D.mi, .slice D.GA D.Gn D.Gc, .int .i64 D.mt, .string D.key, .string D.body, .int .i64 D.i, .int .i64 D.tm, .slice D.MA D.Mn D.Mc, .int .i64 D.tp, .int .i64 D.who, .int .i64 D.n])
  obtain ⟨hc0, hc1⟩ := hcut
  clear hD
  go_enter Try.func6, Try.ntmps6
  go_wp2_with fail
  refine (alive12_any _).mono ?_
  rintro e w1 ⟨rfl, hb⟩
  replace KD := Lib.hid (KD.out.below hb KD.out.lt)
  replace HD := Lib.hid (HD.out.up hb)
  replace B0 := Lib.hid (B0.out.trans (hb.mono B0.out.size))
  clear hb 
  have c0 := KD.out.cell 0
  have c1 := KD.out.cell 1
  have c2 := KD.out.cell 2
  have c3 := KD.out.cell 3
  have c4 := KD.out.cell 4
  have c5 := KD.out.cell 5
  have c6 := KD.out.cell 6
  have c7 := KD.out.cell 7
  have c8 := KD.out.cell 8
  have c9 := KD.out.cell 9
  have c10 := KD.out.cell 10
  have c11 := KD.out.cell 11
  go_wp2_with fail
  clear c0 c1 c2 c3 c4 c5 c6 c7 c8 c9 c10 c11
  refine (rgreat12_any D _ HD.out).mono ?_
  rintro e w2 ⟨⟨r, rfl, hg⟩, hb⟩
  replace KD := Lib.hid (KD.out.below hb KD.out.lt)
  replace HD := Lib.hid (HD.out.up hb)
  replace B0 := Lib.hid (B0.out.trans (hb.mono B0.out.size))
  clear hb 
  cases r with
  | true => go_wp2; go_ret; exact ⟨rfl, B0.out⟩
  | false =>
  clear hg
  obtain ⟨b, hb0⟩ : ∃ b, Cp.mayC D.cmd = b := ⟨_, rfl⟩
  have HB := Lib.hid hb0
  obtain ⟨U, hU⟩ : ∃ U, (if b = true then S (Cp.bytesC D.cmd) else (⟨#[]⟩ : ByteArray)) = U := ⟨_, rfl⟩
  have HU := Lib.hid hU
  clear hb0 hU
  have c0 := KD.out.cell 0
  have c1 := KD.out.cell 1
  have c2 := KD.out.cell 2
  have c3 := KD.out.cell 3
  have c4 := KD.out.cell 4
  have c5 := KD.out.cell 5
  have c6 := KD.out.cell 6
  have c7 := KD.out.cell 7
  have c8 := KD.out.cell 8
  have c9 := KD.out.cell 9
  have c10 := KD.out.cell 10
  have c11 := KD.out.cell 11
  go_wp2_with fail
  clear c0 c1 c2 c3 c4 c5 c6 c7 c8 c9 c10 c11
  refine (cwrite_any D _ HD.out b HB.out U HU.out).mono ?_
  rintro e w3 ⟨rfl, hb⟩
  replace KD := Lib.hid (KD.out.below hb KD.out.lt)
  replace HD := Lib.hid (HD.out.up hb)
  replace B0 := Lib.hid (B0.out.trans (hb.mono B0.out.size))
  clear hb 
  cases b with
  | false =>
    have hu : U = ⟨#[]⟩ := HU.out.symm
    subst hu
    rw [show errK false = 120 from rfl]
    have c0 := KD.out.cell 0
    have c1 := KD.out.cell 1
    have c2 := KD.out.cell 2
    have c3 := KD.out.cell 3
    have c4 := KD.out.cell 4
    have c5 := KD.out.cell 5
    have c6 := KD.out.cell 6
    have c7 := KD.out.cell 7
    have c8 := KD.out.cell 8
    have c9 := KD.out.cell 9
    have c10 := KD.out.cell 10
    have c11 := KD.out.cell 11
    go_wp2_with fail
    clear c0 c1 c2 c3 c4 c5 c6 c7 c8 c9 c10 c11
    refine (ccheck_any D _ HD.out false HB.out).mono ?_
    rintro e w4 ⟨rfl, hb⟩
    replace KD := Lib.hid (KD.out.below hb KD.out.lt)
    replace HD := Lib.hid (HD.out.up hb)
    replace B0 := Lib.hid (B0.out.trans (hb.mono B0.out.size))
    clear hb 
    rw [show errK false = 120 from rfl]
    go_wp2
    go_ret
    exact ⟨rfl, B0.out⟩
  | true =>
    rw [show errK true = 0 from rfl]
    obtain ⟨l, hl⟩ : ∃ l, Cp.bytesC D.cmd = l := ⟨_, rfl⟩
    have HL := Lib.hid hl
    have hlen := Cp.bytesC_len HB.out
    rw [hl] at hlen
    have hUl : U = S l := by rw [← hl]; exact HU.out.symm
    have HUL := Lib.hid hUl
    have hz : U.size = l.length := by rw [hUl, S_size]
    have HRX : Hid (Cp.readX l = (D.cmd, 0)) := Cp.readX_some (by omega) (by rw [← hl]; exact Cp.readC_bytes HB.out)
    obtain ⟨hl1, hl2⟩ := hlen
    have HZ := Lib.hid hz
    clear hl hUl
    go_wp2_with fail
    have hzz := HZ.out
    refine (cread_any U l _ (by unfold maxLen; omega) (by rw [HUL.out]; rfl)).mono ?_
    rintro e w4 ⟨E, x, rfl, hx, ho, hb⟩
    rw [HRX.out] at hx
    obtain rfl : x = 0 := congrArg Prod.snd hx
    have he : E.cmd = D.cmd := congrArg Prod.fst hx
    have HE := Lib.hid ho.at_
    have EC : Hid (Cp.sameC E.cmd D.cmd = true) := by rw [Hid, he]; exact Cp.sameC_refl _
    replace KD := Lib.hid (KD.out.below hb KD.out.lt)
    replace HD := Lib.hid (HD.out.up hb)
    replace B0 := Lib.hid (B0.out.trans (hb.mono B0.out.size))
    clear hx ho hb he hzz
    have KE := Lib.hid (Blk.new w4 26 #[.int .u8 E.k, .int .i64 E.mi, .slice E.GA E.Gn E.Gc, .int .i64 E.mt, .string E.key, .string E.body, .int .i64 E.i, .int .i64 E.tm, .slice E.MA E.Mn E.Mc, .int .i64 E.tp, .int .i64 E.who, .int .i64 E.n])
    replace KD := Lib.hid (KD.out.alloc (.cells #[.int .u8 E.k, .int .i64 E.mi, .slice E.GA E.Gn E.Gc, .int .i64 E.mt, .string E.key, .string E.body, .int .i64 E.i, .int .i64 E.tm, .slice E.MA E.Mn E.Mc, .int .i64 E.tp, .int .i64 E.who, .int .i64 E.n] 26))
    replace HD := Lib.hid (HD.out.alloc (.cells #[.int .u8 E.k, .int .i64 E.mi, .slice E.GA E.Gn E.Gc, .int .i64 E.mt, .string E.key, .string E.body, .int .i64 E.i, .int .i64 E.tm, .slice E.MA E.Mn E.Mc, .int .i64 E.tp, .int .i64 E.who, .int .i64 E.n] 26))
    replace HE := Lib.hid (HE.out.alloc (.cells #[.int .u8 E.k, .int .i64 E.mi, .slice E.GA E.Gn E.Gc, .int .i64 E.mt, .string E.key, .string E.body, .int .i64 E.i, .int .i64 E.tm, .slice E.MA E.Mn E.Mc, .int .i64 E.tp, .int .i64 E.who, .int .i64 E.n] 26))
    replace B0 := Lib.hid (B0.out.alloc B0.out.size (.cells #[.int .u8 E.k, .int .i64 E.mi, .slice E.GA E.Gn E.Gc, .int .i64 E.mt, .string E.key, .string E.body, .int .i64 E.i, .int .i64 E.tm, .slice E.MA E.Mn E.Mc, .int .i64 E.tp, .int .i64 E.who, .int .i64 E.n] 26))
    have c0 := KD.out.cell 0
    have c1 := KD.out.cell 1
    have c2 := KD.out.cell 2
    have c3 := KD.out.cell 3
    have c4 := KD.out.cell 4
    have c5 := KD.out.cell 5
    have c6 := KD.out.cell 6
    have c7 := KD.out.cell 7
    have c8 := KD.out.cell 8
    have c9 := KD.out.cell 9
    have c10 := KD.out.cell 10
    have c11 := KD.out.cell 11
    have d0 := KE.out.cell 0
    have d1 := KE.out.cell 1
    have d2 := KE.out.cell 2
    have d3 := KE.out.cell 3
    have d4 := KE.out.cell 4
    have d5 := KE.out.cell 5
    have d6 := KE.out.cell 6
    have d7 := KE.out.cell 7
    have d8 := KE.out.cell 8
    have d9 := KE.out.cell 9
    have d10 := KE.out.cell 10
    have d11 := KE.out.cell 11
    go_wp2_with fail
    clear c0 c1 c2 c3 c4 c5 c6 c7 c8 c9 c10 c11 d0 d1 d2 d3 d4 d5 d6 d7 d8 d9 d10 d11
    refine (rsame12_any E D _ HE.out HD.out true EC.out).mono ?_
    rintro e w5 ⟨rfl, hb⟩
    replace KD := Lib.hid (KD.out.below hb KD.out.lt)
    replace HD := Lib.hid (HD.out.up hb)
    replace B0 := Lib.hid (B0.out.trans (hb.mono B0.out.size))
    clear hb 
    have n1 : ¬ (1024 : Int) < (U.size : Int) := by have := HZ.out; omega
    have n2 : ¬ (U.size : Int) < 1 := by have := HZ.out; omega
    clear hz
    have p1 : decide ((1024 : Int) < (U.size : Int)) = false := decide_eq_false n1
    have p2 : decide ((U.size : Int) < 1) = false := decide_eq_false n2
    by_cases k0 : cut < 0
    · go_wp2
      go_ret
      exact ⟨rfl, B0.out⟩
    by_cases k1 : (U.size : Int) ≤ cut
    · have p3 : decide ((U.size : Int) ≤ cut) = true := decide_eq_true k1
      go_wp2
      go_ret
      exact ⟨rfl, B0.out⟩
    have p3 : decide ((U.size : Int) ≤ cut) = false := decide_eq_false k1
    obtain ⟨k, rfl⟩ := Int.eq_ofNat_of_zero_le (by omega : 0 ≤ cut)
    have hkl : k < l.length := by have := HZ.out; omega
    have hsl := fun w => cut_str l k (by omega) w
    rw [← HUL.out] at hsl
    obtain ⟨V, hV⟩ : ∃ V, S (l.take k) = V := ⟨_, rfl⟩
    rw [hV] at hsl
    have HV := Lib.hid hV
    have hvz : V.size = k := by rw [← hV, S_size, List.length_take]; omega
    have HVZ := Lib.hid hvz
    clear hV hvz
    have HRC : Hid (Cp.readX (l.take k) = (Cp.zeroC 0, 8)) := Cp.readX_none (by rw [List.length_take]; omega) (by rw [← HL.out]; exact Cp.cut_none HB.out (by rw [HL.out]; exact hkl))
    go_wp2_with fail
    refine (cread_any V (l.take k) _ (by have := HVZ.out; unfold maxLen; omega) (by rw [← HV.out]; rfl)).mono ?_
    rintro e w6 ⟨F, x, rfl, hx, ho, hb⟩
    rw [HRC.out] at hx
    obtain rfl : x = 8 := congrArg Prod.snd hx
    replace B0 := Lib.hid (B0.out.trans (hb.mono B0.out.size))
    replace B0 := Lib.hid (B0.out.alloc B0.out.size (.cells #[.int .u8 F.k, .int .i64 F.mi, .slice F.GA F.Gn F.Gc, .int .i64 F.mt, .string F.key, .string F.body, .int .i64 F.i, .int .i64 F.tm, .slice F.MA F.Mn F.Mc, .int .i64 F.tp, .int .i64 F.who, .int .i64 F.n] 26))
    clear hx ho hb
    go_wp2
    go_ret
    exact ⟨rfl, B0.out⟩

theorem commandOnly_walk (s : ByteArray) (w : World) (hs : s.size ≤ maxLen) :
    Calls Try.prog 7 #[.string s] w fun e w' => e = .returned (.bool true) ∧ Below w.heap.size w w' := by
  obtain ⟨l, hl⟩ : ∃ l, s.data.toList = l := ⟨_, rfl⟩
  have hz := size_data s
  rw [hl] at hz
  have HL := Lib.hid hl
  have HZ := Lib.hid hz
  have HS := Lib.hid hs
  clear hl hz hs
  go_enter Try.func7, Try.ntmps7
  go_wp2_with fail
  refine (alive12_any _).mono ?_
  rintro e w1 ⟨rfl, hb⟩
  have B0 := Lib.hid hb
  clear hb
  by_cases hbig : (5000 : Int) < (s.size : Int)
  · go_wp2
    go_ret
    exact ⟨rfl, B0.out⟩
  go_wp2_with fail
  refine (cread_any s l _ HS.out HL.out).mono ?_
  rintro e w2 ⟨E, x, rfl, hx, ho, hb⟩
  have HE := Lib.hid ho.at_
  have HX := Lib.hid hx
  replace B0 := Lib.hid (B0.out.trans (hb.mono B0.out.size))
  clear hx ho hb
  have KE := Lib.hid (Blk.new w2 26 #[.int .u8 E.k, .int .i64 E.mi, .slice E.GA E.Gn E.Gc, .int .i64 E.mt, .string E.key, .string E.body, .int .i64 E.i, .int .i64 E.tm, .slice E.MA E.Mn E.Mc, .int .i64 E.tp, .int .i64 E.who, .int .i64 E.n])
  replace HE := Lib.hid (HE.out.alloc (.cells #[.int .u8 E.k, .int .i64 E.mi, .slice E.GA E.Gn E.Gc, .int .i64 E.mt, .string E.key, .string E.body, .int .i64 E.i, .int .i64 E.tm, .slice E.MA E.Mn E.Mc, .int .i64 E.tp, .int .i64 E.who, .int .i64 E.n] 26))
  replace B0 := Lib.hid (B0.out.alloc B0.out.size (.cells #[.int .u8 E.k, .int .i64 E.mi, .slice E.GA E.Gn E.Gc, .int .i64 E.mt, .string E.key, .string E.body, .int .i64 E.i, .int .i64 E.tm, .slice E.MA E.Mn E.Mc, .int .i64 E.tp, .int .i64 E.who, .int .i64 E.n] 26))
  by_cases hlong : 1024 < l.length
  · have hx := HX.out
    rw [Cp.readX_long hlong] at hx
    obtain rfl : x = 3 := congrArg Prod.snd hx
    have he : Cp.sameC E.cmd (zeroHC 0).cmd = true := by rw [show E.cmd = Cp.zeroC 0 from congrArg Prod.fst hx]; exact Cp.sameC_refl _
    have EC := Lib.hid he
    clear hx he
    have c0 := KE.out.cell 0
    have c1 := KE.out.cell 1
    have c2 := KE.out.cell 2
    have c3 := KE.out.cell 3
    have c4 := KE.out.cell 4
    have c5 := KE.out.cell 5
    have c6 := KE.out.cell 6
    have c7 := KE.out.cell 7
    have c8 := KE.out.cell 8
    have c9 := KE.out.cell 9
    have c10 := KE.out.cell 10
    have c11 := KE.out.cell 11
    go_wp2_with fail
    clear c0 c1 c2 c3 c4 c5 c6 c7 c8 c9 c10 c11
    refine (rsame12_any E (zeroHC 0) _ HE.out (zeroHC_at _ _ (by omega)) true EC.out).mono ?_
    rintro e w3 ⟨rfl, hb⟩
    replace B0 := Lib.hid (B0.out.trans (hb.mono B0.out.size))
    clear hb
    go_wp2
    go_ret
    exact ⟨rfl, B0.out⟩
  cases hr : Cp.readC l with
  | none =>
    have hx := HX.out
    rw [Cp.readX_none hlong hr] at hx
    obtain rfl : x = 8 := congrArg Prod.snd hx
    have he : Cp.sameC E.cmd (zeroHC 0).cmd = true := by rw [show E.cmd = Cp.zeroC 0 from congrArg Prod.fst hx]; exact Cp.sameC_refl _
    have EC := Lib.hid he
    clear hx he hr
    have c0 := KE.out.cell 0
    have c1 := KE.out.cell 1
    have c2 := KE.out.cell 2
    have c3 := KE.out.cell 3
    have c4 := KE.out.cell 4
    have c5 := KE.out.cell 5
    have c6 := KE.out.cell 6
    have c7 := KE.out.cell 7
    have c8 := KE.out.cell 8
    have c9 := KE.out.cell 9
    have c10 := KE.out.cell 10
    have c11 := KE.out.cell 11
    go_wp2_with fail
    clear c0 c1 c2 c3 c4 c5 c6 c7 c8 c9 c10 c11
    refine (rsame12_any E (zeroHC 0) _ HE.out (zeroHC_at _ _ (by omega)) true EC.out).mono ?_
    rintro e w3 ⟨rfl, hb⟩
    replace B0 := Lib.hid (B0.out.trans (hb.mono B0.out.size))
    clear hb
    go_wp2
    go_ret
    exact ⟨rfl, B0.out⟩
  | some c =>
    have hx := HX.out
    rw [Cp.readX_some hlong hr] at hx
    obtain rfl : x = 0 := congrArg Prod.snd hx
    obtain ⟨hm, hby⟩ := Cp.readC_back hr
    have he : E.cmd = c := congrArg Prod.fst hx
    have HM : Hid (Cp.mayC E.cmd = true) := by rw [Hid, he]; exact hm
    have HU : Hid ((if true = true then S (Cp.bytesC E.cmd) else (⟨#[]⟩ : ByteArray)) = s) := by rw [Hid, if_pos rfl, he, hby, ← HL.out]; exact S_of s
    clear hx hm hby he hr
    have c0 := KE.out.cell 0
    have c1 := KE.out.cell 1
    have c2 := KE.out.cell 2
    have c3 := KE.out.cell 3
    have c4 := KE.out.cell 4
    have c5 := KE.out.cell 5
    have c6 := KE.out.cell 6
    have c7 := KE.out.cell 7
    have c8 := KE.out.cell 8
    have c9 := KE.out.cell 9
    have c10 := KE.out.cell 10
    have c11 := KE.out.cell 11
    go_wp2_with fail
    clear c0 c1 c2 c3 c4 c5 c6 c7 c8 c9 c10 c11
    refine (cwrite_any E _ HE.out true HM.out s HU.out).mono ?_
    rintro e w3 ⟨rfl, hb⟩
    rw [show errK true = 0 from rfl]
    replace B0 := Lib.hid (B0.out.trans (hb.mono B0.out.size))
    clear hb
    go_wp2
    go_ret
    exact ⟨rfl, B0.out⟩
end Go.Proofs.Ytaoekfgeggopbaa
