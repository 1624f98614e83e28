/-
  command.Check: may a command be?
-/
import Derived.Test.YtaoekfgeggopbaaCmdPl
import Derived.Test.YtaoekfgeggopbaaCmdMay
namespace Go.Proofs.Ytaoekfgeggopbaa
open Go.RowKit Go.Sort Go.BigFrame
set_option maxHeartbeats 8000000
set_option maxRecDepth 100000
set_option linter.unusedVariables false
set_option linter.unusedSimpArgs false

theorem ccheck_any (D : HC) (w : World) (hD : CmdAt w w.heap.size D) (b : Bool) (hb : Cp.mayC D.cmd = b) :
    Calls Try.prog 16 #[.agg #[.int .u8 D.k, .int .i64 D.mi, .slice D.GA D.Gn D.Gc, .int .i64 D.mt, .string D.key, .string D.body, .int .i64 D.i, .int .i64 D.tm, .slice D.MA D.Mn D.Mc, .int .i64 D.tp, .int .i64 D.who, .int .i64 D.n]] w fun e w' => e = .returned (.int .i64 (errK b)) ∧ Below w.heap.size w w' := by
  have HB : Hid ((Cp.okK D.cmd && Cp.sameC (Cp.plainC D.cmd) D.cmd) = b) := by rw [Hid, ← Cp.mayC_plain]; exact hb
  have B0 := Lib.hid ((Below.refl _ w).alloc (Nat.le_refl w.heap.size) (.cells #[.int .u8 D.k, .int .i64 D.mi, .slice D.GA D.Gn D.Gc, .int .i64 D.mt, .string D.key, .string D.body, .int .i64 D.i, .int .i64 D.tm, .slice D.MA D.Mn D.Mc, .int .i64 D.tp, .int .i64 D.who, .int .i64 D.n] 26))
  have HD0 := Lib.hid (hD.alloc (.cells #[.int .u8 D.k, .int .i64 D.mi, .slice D.GA D.Gn D.Gc, .int .i64 D.mt, .string D.key, .string D.body, .int .i64 D.i, .int .i64 D.tm, .slice D.MA D.Mn D.Mc, .int .i64 D.tp, .int .i64 D.who, .int .i64 D.n] 26))
  have K0 := Lib.hid (Blk.new w 26 #[.int .u8 D.k, .int .i64 D.mi, .slice D.GA D.Gn D.Gc, .int .i64 D.mt, .string D.key, .string D.body, .int .i64 D.i, .int .i64 D.tm, .slice D.MA D.Mn D.Mc, .int .i64 D.tp, .int .i64 D.who, .int .i64 D.n])
  clear hD hb
  go_enter Try.func16, Try.ntmps16
  go_wp2_with fail
  refine (cplain_any D _ HD0.out).mono ?_
  rintro e w1 ⟨E, rfl, he, hE, hb⟩
  obtain ⟨x, hx⟩ : ∃ x, Cp.okK D.cmd = x := ⟨_, rfl⟩
  have HX := Lib.hid hx
  rw [hx]
  have HE := Lib.hid he
  have HE0 := Lib.hid ((hE.below hb).more hb.size)
  have HD1 := Lib.hid (HD0.out.up hb)
  have B1 := Lib.hid (then_ B0.out hb)
  have K1 := Lib.hid (K0.out.below hb K0.out.lt)
  clear hx he hE hb HD0 K0 B0
  have B2 := Lib.hid (B1.out.alloc B1.out.size (.cells #[.int .u8 E.k, .int .i64 E.mi, .slice E.GA E.Gn E.Gc, .int .i64 E.mt, .string E.key, .string E.body, .int .i64 E.i, .int .i64 E.tm, .slice E.MA E.Mn E.Mc, .int .i64 E.tp, .int .i64 E.who, .int .i64 E.n] 26))
  have HE2 := Lib.hid (HE0.out.alloc (.cells #[.int .u8 E.k, .int .i64 E.mi, .slice E.GA E.Gn E.Gc, .int .i64 E.mt, .string E.key, .string E.body, .int .i64 E.i, .int .i64 E.tm, .slice E.MA E.Mn E.Mc, .int .i64 E.tp, .int .i64 E.who, .int .i64 E.n] 26))
  have HD2 := Lib.hid (HD1.out.alloc (.cells #[.int .u8 E.k, .int .i64 E.mi, .slice E.GA E.Gn E.Gc, .int .i64 E.mt, .string E.key, .string E.body, .int .i64 E.i, .int .i64 E.tm, .slice E.MA E.Mn E.Mc, .int .i64 E.tp, .int .i64 E.who, .int .i64 E.n] 26))
  have K2 := Lib.hid (K1.out.alloc (.cells #[.int .u8 E.k, .int .i64 E.mi, .slice E.GA E.Gn E.Gc, .int .i64 E.mt, .string E.key, .string E.body, .int .i64 E.i, .int .i64 E.tm, .slice E.MA E.Mn E.Mc, .int .i64 E.tp, .int .i64 E.who, .int .i64 E.n] 26))
  have KE2 := Lib.hid (Blk.new w1 26 #[.int .u8 E.k, .int .i64 E.mi, .slice E.GA E.Gn E.Gc, .int .i64 E.mt, .string E.key, .string E.body, .int .i64 E.i, .int .i64 E.tm, .slice E.MA E.Mn E.Mc, .int .i64 E.tp, .int .i64 E.who, .int .i64 E.n])
  clear HE0 HD1
  cases x with
  | false =>
    have F : Hid (b = false) := by rw [Hid, ← HB.out, HX.out]; rfl
    go_wp2
    go_ret
    rw [F.out]
    exact ⟨rfl, B2.out⟩
  | true =>
    have HB2 := Lib.hid HB.out
    rw [HX.out, Bool.true_and, ← HE.out] at HB2
    have c0 := K2.out.cell 0
    have c1 := K2.out.cell 1
    have c2 := K2.out.cell 2
    have c3 := K2.out.cell 3
    have c4 := K2.out.cell 4
    have c5 := K2.out.cell 5
    have c6 := K2.out.cell 6
    have c7 := K2.out.cell 7
    have c8 := K2.out.cell 8
    have c9 := K2.out.cell 9
    have c10 := K2.out.cell 10
    have c11 := K2.out.cell 11
    go_wp2_with fail
    refine (csame_any E D _ HE2.out HD2.out b HB2.out).mono ?_
    rintro e w2 ⟨rfl, hb⟩
    have B3 := Lib.hid (B2.out.trans (hb.mono B2.out.size))
    clear hb c0 c1 c2 c3 c4 c5 c6 c7 c8 c9 c10 c11
    cases b with
    | false => go_wp2; go_ret; exact ⟨rfl, B3.out⟩
    | true => go_wp2; go_ret; exact ⟨rfl, B3.out⟩
end Go.Proofs.Ytaoekfgeggopbaa
