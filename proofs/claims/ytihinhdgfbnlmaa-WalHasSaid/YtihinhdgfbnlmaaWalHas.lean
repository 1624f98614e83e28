/-
  The walk of WalHas. No condition.
-/
import Derived.Test.YtihinhdgfbnlmaaWalSome
import Derived.Test.YtihinhdgfbnlmaaWalReset
import Derived.Test.YtihinhdgfbnlmaaWalLaw
import Derived.Test.YtihinhdgfbnlmaaDiskRefE
import Derived.Test.YtihinhdgfbnlmaaFrameTorn
namespace Go.Proofs.Ytihinhdgfbnlmaa
open Go.RowKit
set_option maxHeartbeats 16000000
set_option maxRecDepth 100000
set_option linter.unusedVariables false
set_option linter.unusedSimpArgs false

theorem walHas_walk (D : HD) (A : Option Addr) (n c : Nat) (l0 : List ByteArray) (w : World) (hD : DiskAt w w.heap.size D) (hi : IsStrs w A n c l0) :
    Calls Try.prog 9 #[.agg #[.slice D.A D.n D.c, .slice D.WA D.Wn D.Wc], .slice A n c] w fun e w' => e = .returned (.bool true) ∧ Below w.heap.size w w' := by
  obtain ⟨hr, hc, hm, h64⟩ := hi
  unfold maxLen at hm
  obtain ⟨l, hl⟩ : ∃ l, tbT l0 = l := ⟨_, rfl⟩
  have hl0 : l0 = l.map S := by rw [← hl, tbT_S]
  subst hl0
  have hln : l.length = n := by have := hr.len_t; simpa using this
  have HLN := Lib.hid hln
  have K0 := Lib.hid (Blk.new w 25 #[.slice D.A D.n D.c, .slice D.WA D.Wn D.Wc])
  have C := Lib.hid ((Below.refl _ w).alloc (Nat.le_refl w.heap.size) (.cells #[.slice D.A D.n D.c, .slice D.WA D.Wn D.Wc] 25))
  have DD := Lib.hid (hD.alloc (.cells #[.slice D.A D.n D.c, .slice D.WA D.Wn D.Wc] 25))
  have RL := Lib.hid (hr.up_alloc (.cells #[.slice D.A D.n D.c, .slice D.WA D.Wn D.Wc] 25))
  clear hr h64 hl hln hD
  obtain ⟨X', L, e, hO⟩ : ∃ X L e, Wa.opened D.disk = (X, L, e) := ⟨_, _, _, rfl⟩
  have HO := Lib.hid hO
  clear hO
  go_enter Try.func9, Try.ntmps9
  go_wp2_with fail
  refine (alive04_any _).mono ?_
  rintro e1 w1 ⟨rfl, hb⟩
  replace K0 := Lib.hid (K0.out.below hb K0.out.lt)
  replace C := Lib.hid (C.out.trans (hb.mono C.out.size))
  replace DD := Lib.hid (DD.out.up hb)
  replace RL := Lib.hid ((RL.out.below hb).more hb.size)
  clear hb
  have y0 := K0.out.cell 0
  have y1 := K0.out.cell 1
  go_wp2_with fail
  refine (rgreat_any D _ DD.out).mono ?_
  rintro e2 w2 ⟨⟨r, rfl, -⟩, hb⟩
  clear y0 y1
  replace K0 := Lib.hid (K0.out.below hb K0.out.lt)
  replace C := Lib.hid (C.out.trans (hb.mono C.out.size))
  replace DD := Lib.hid (DD.out.up hb)
  replace RL := Lib.hid ((RL.out.below hb).more hb.size)
  clear hb
  cases r with
  | true => go_wp2; go_ret; exact ⟨rfl, C.out⟩
  | false =>
  go_wp2_with fail
  refine (great_any A n c _ _ w2 RL.out (by omega)).mono ?_
  rintro e3 w' ⟨⟨r, rfl, hgr⟩, rfl⟩
  cases r with
  | true => clear hgr; go_wp2; go_ret; exact ⟨rfl, C.out⟩
  | false =>
  have hn := hgr rfl
  clear hgr
  have y0 := K0.out.cell 0
  have y1 := K0.out.cell 1
  go_wp2_with fail
  refine (open_any D _ X' L e HO.out DD.out).mono ?_
  rintro e4 w4 ⟨X, XA, Xn, Xc, rfl, hx, hex, hln, ho, hb⟩
  clear y0 y1
  replace K0 := Lib.hid ((K0.out.below hb K0.out.lt).alloc (.cells #[.slice X.A X.n X.c, .slice X.WA X.Wn X.Wc] 25))
  replace C := Lib.hid (below_alloc (C.out.trans (hb.mono C.out.size)) (.cells #[.slice X.A X.n X.c, .slice X.WA X.Wn X.Wc] 25))
  replace DD := Lib.hid ((DD.out.up hb).alloc (.cells #[.slice X.A X.n X.c, .slice X.WA X.Wn X.Wc] 25))
  replace RL := Lib.hid (((RL.out.below hb).more hb.size).up_alloc (.cells #[.slice X.A X.n X.c, .slice X.WA X.Wn X.Wc] 25))
  have DX := Lib.hid (hx.at_.alloc (.cells #[.slice X.A X.n X.c, .slice X.WA X.Wn X.Wc] 25))
  have EX := Lib.hid hex
  have KX := Lib.hid (Blk.new w4 25 #[.slice X.A X.n X.c, .slice X.WA X.Wn X.Wc])
  have RX := Lib.hid ((Reads.of_own ho).up_alloc (.cells #[.slice X.A X.n X.c, .slice X.WA X.Wn X.Wc] 25))
  have NX := Lib.hid hln
  clear hx hex hln ho hb
  clear K0 DD
  rcases Wa.opened_is HO.out with ⟨he, hh, -⟩ | ⟨he, hL, -⟩
  case inr =>
    have de : decide (e = 0) = false := decide_eq_false he
    have hn0 : Xn = 0 := by rw [← NX.out, hL]; rfl
    clear hL
    subst hn0
    go_wp2; go_ret; exact ⟨rfl, C.out⟩
  subst he
  have HX : Hid (Wa.Has X.disk L) := by rw [Hid, EX.out]; exact hh
  clear hh
  have y0 := KX.out.cell 0
  have y1 := KX.out.cell 1
  go_wp2_with fail
  refine (open_any X _ X.disk L 0 HX.out.opened DX.out).mono ?_
  rintro e5 w5 ⟨Y, YA, Yn, Yc, rfl, hx, hex, hln, ho, hb⟩
  clear y0 y1
  replace C := Lib.hid (below_alloc (C.out.trans (hb.mono C.out.size)) (.cells #[.slice Y.A Y.n Y.c, .slice Y.WA Y.Wn Y.Wc] 25))
  replace RL := Lib.hid (((RL.out.below hb).more hb.size).up_alloc (.cells #[.slice Y.A Y.n Y.c, .slice Y.WA Y.Wn Y.Wc] 25))
  replace DX := Lib.hid ((DX.out.up hb).alloc (.cells #[.slice Y.A Y.n Y.c, .slice Y.WA Y.Wn Y.Wc] 25))
  replace KX := Lib.hid ((KX.out.below hb KX.out.lt).alloc (.cells #[.slice Y.A Y.n Y.c, .slice Y.WA Y.Wn Y.Wc] 25))
  replace RX := Lib.hid (((RX.out.below hb).more hb.size).up_alloc (.cells #[.slice Y.A Y.n Y.c, .slice Y.WA Y.Wn Y.Wc] 25))
  have RY := Lib.hid ((Reads.of_own ho).up_alloc (.cells #[.slice Y.A Y.n Y.c, .slice Y.WA Y.Wn Y.Wc] 25))
  have NY := Lib.hid hln
  clear hx hex hln ho hb
  have hlx : Xn ≤ 1000000000000 := by have := RX.out.len_t; have h2 := NX.out; have h3 := HX.out; have := Wa.Has.small h3; omega
  go_wp2_with fail
  refine (sameTexts_yes XA Xn Xc YA Yn Yc _ _ _ _ _ RX.out RY.out hlx rfl).mono ?_
  rintro e6 w6 ⟨rfl, q, rfl⟩
  have hb := below_drewN (Below.refl (w5.alloc (.cells #[.slice Y.A Y.n Y.c, .slice Y.WA Y.Wn Y.Wc] 25)).heap.size (w5.alloc (.cells #[.slice Y.A Y.n Y.c, .slice Y.WA Y.Wn Y.Wc] 25))) q
  replace C := Lib.hid (C.out.trans (hb.mono C.out.size))
  replace RL := Lib.hid ((RL.out.below hb).more hb.size)
  replace DX := Lib.hid (DX.out.up hb)
  replace KX := Lib.hid (KX.out.below hb KX.out.lt)
  replace RX := Lib.hid ((RX.out.below hb).more hb.size)
  replace RY := Lib.hid ((RY.out.below hb).more hb.size)
  clear hb
  clear RY
  generalize (w5.alloc (.cells #[.slice Y.A Y.n Y.c, .slice Y.WA Y.Wn Y.Wc] 25)).drewN q = w6 at *
  have y0 := KX.out.cell 0
  have y1 := KX.out.cell 1
  obtain ⟨Y', g, hA⟩ : ∃ Y g, Wa.add X.disk l = (Y, g) := ⟨_, _, rfl⟩
  have HA := Lib.hid hA
  clear hA
  go_wp2_with fail
  refine (add_any X A n c l _ Y' g HA.out DX.out RL.out (by omega)).mono ?_
  rintro e7 w7 ⟨Z, rfl, hx, hex, hb⟩
  clear y0 y1
  replace C := Lib.hid (below_alloc (C.out.trans (hb.mono C.out.size)) (.cells #[.slice Z.A Z.n Z.c, .slice Z.WA Z.Wn Z.Wc] 25))
  replace RL := Lib.hid (((RL.out.below hb).more hb.size).up_alloc (.cells #[.slice Z.A Z.n Z.c, .slice Z.WA Z.Wn Z.Wc] 25))
  replace DX := Lib.hid ((DX.out.up hb).alloc (.cells #[.slice Z.A Z.n Z.c, .slice Z.WA Z.Wn Z.Wc] 25))
  replace KX := Lib.hid ((KX.out.below hb KX.out.lt).alloc (.cells #[.slice Z.A Z.n Z.c, .slice Z.WA Z.Wn Z.Wc] 25))
  replace RX := Lib.hid (((RX.out.below hb).more hb.size).up_alloc (.cells #[.slice Z.A Z.n Z.c, .slice Z.WA Z.Wn Z.Wc] 25))
  have DZ := Lib.hid (hx.at_.alloc (.cells #[.slice Z.A Z.n Z.c, .slice Z.WA Z.Wn Z.Wc] 25))
  have EZ := Lib.hid hex
  have KZ := Lib.hid (Blk.new w7 25 #[.slice Z.A Z.n Z.c, .slice Z.WA Z.Wn Z.Wc])
  clear hx hex hb
  by_cases g0 : g = 0
  case neg =>
    have dg : decide (g = 0) = false := decide_eq_false g0
    have y0 := KX.out.cell 0
    have y1 := KX.out.cell 1
    obtain ⟨R', h, hR⟩ : ∃ R h, Wa.reset X.disk l = (R, h) := ⟨_, _, rfl⟩
    have HR := Lib.hid hR
    clear hR
    go_wp2_with fail
    refine (reset_any X A n c l _ R' h HR.out DX.out RL.out (by omega)).mono ?_
    rintro e20 w20 ⟨V, rfl, hx, hex, hb⟩
    clear y0 y1
    replace C := Lib.hid (below_alloc (C.out.trans (hb.mono C.out.size)) (.cells #[.slice V.A V.n V.c, .slice V.WA V.Wn V.Wc] 25))
    replace RL := Lib.hid (((RL.out.below hb).more hb.size).up_alloc (.cells #[.slice V.A V.n V.c, .slice V.WA V.Wn V.Wc] 25))
    replace DX := Lib.hid ((DX.out.up hb).alloc (.cells #[.slice V.A V.n V.c, .slice V.WA V.Wn V.Wc] 25))
    replace KX := Lib.hid ((KX.out.below hb KX.out.lt).alloc (.cells #[.slice V.A V.n V.c, .slice V.WA V.Wn V.Wc] 25))
    replace RX := Lib.hid (((RX.out.below hb).more hb.size).up_alloc (.cells #[.slice V.A V.n V.c, .slice V.WA V.Wn V.Wc] 25))
    have DV := Lib.hid (hx.at_.alloc (.cells #[.slice V.A V.n V.c, .slice V.WA V.Wn V.Wc] 25))
    have EV := Lib.hid hex
    have KV := Lib.hid (Blk.new w20 25 #[.slice V.A V.n V.c, .slice V.WA V.Wn V.Wc])
    clear hx hex hb
    by_cases h0 : h = 0
    case neg =>
      have dh : decide (h = 0) = false := decide_eq_false h0
      go_wp2; go_ret; exact ⟨rfl, C.out⟩
    subst h0
    have HV : Hid (Wa.Has V.disk l) := by rw [Hid, EV.out]; exact (Wa.reset_is HR.out).1
    have y0 := KV.out.cell 0
    have y1 := KV.out.cell 1
    go_wp2_with fail
    refine (open_any V _ V.disk l 0 HV.out.opened DV.out).mono ?_
    rintro e21 w21 ⟨U, UA, Un, Uc, rfl, hx, hex, hln, ho, hb⟩
    clear y0 y1
    replace C := Lib.hid (below_alloc (C.out.trans (hb.mono C.out.size)) (.cells #[.slice U.A U.n U.c, .slice U.WA U.Wn U.Wc] 25))
    replace RL := Lib.hid (((RL.out.below hb).more hb.size).up_alloc (.cells #[.slice U.A U.n U.c, .slice U.WA U.Wn U.Wc] 25))
    replace DX := Lib.hid ((DX.out.up hb).alloc (.cells #[.slice U.A U.n U.c, .slice U.WA U.Wn U.Wc] 25))
    replace KX := Lib.hid ((KX.out.below hb KX.out.lt).alloc (.cells #[.slice U.A U.n U.c, .slice U.WA U.Wn U.Wc] 25))
    replace RX := Lib.hid (((RX.out.below hb).more hb.size).up_alloc (.cells #[.slice U.A U.n U.c, .slice U.WA U.Wn U.Wc] 25))
    replace DV := Lib.hid ((DV.out.up hb).alloc (.cells #[.slice U.A U.n U.c, .slice U.WA U.Wn U.Wc] 25))
    replace KV := Lib.hid ((KV.out.below hb KV.out.lt).alloc (.cells #[.slice U.A U.n U.c, .slice U.WA U.Wn U.Wc] 25))
    have RU := Lib.hid ((Reads.of_own ho).up_alloc (.cells #[.slice U.A U.n U.c, .slice U.WA U.Wn U.Wc] 25))
    have NU := Lib.hid hln
    clear hx hex hln ho hb
    have hlu : Un ≤ 1000000000000 := by have := NU.out; have h2 := HLN.out; omega
    go_wp2_with fail
    refine (sameTexts_yes UA Un Uc A n c _ _ _ _ _ RU.out RL.out hlu rfl).mono ?_
    rintro e22 w22 ⟨rfl, q2, rfl⟩
    go_wp2
    go_ret
    exact ⟨rfl, then_drewN C.out q2⟩
  subst g0
  have HZ : Hid (Wa.Has Z.disk (L ++ l)) := by rw [Hid, EZ.out]; exact (Wa.add_is HX.out HA.out).1
  have y0 := KZ.out.cell 0
  have y1 := KZ.out.cell 1
  go_wp2_with fail
  refine (sync_is Z _ ⟨Dp.seen Z.disk, []⟩ 0 (Dp.sync_see HZ.out.1).1 DZ.out).mono ?_
  rintro e8 w8 ⟨T, rfl, hx, hex, hb⟩
  clear y0 y1
  replace C := Lib.hid (below_alloc (C.out.trans (hb.mono C.out.size)) (.cells #[.slice T.A T.n T.c, .slice T.WA T.Wn T.Wc] 25))
  replace RL := Lib.hid (((RL.out.below hb).more hb.size).up_alloc (.cells #[.slice T.A T.n T.c, .slice T.WA T.Wn T.Wc] 25))
  replace DX := Lib.hid ((DX.out.up hb).alloc (.cells #[.slice T.A T.n T.c, .slice T.WA T.Wn T.Wc] 25))
  replace KX := Lib.hid ((KX.out.below hb KX.out.lt).alloc (.cells #[.slice T.A T.n T.c, .slice T.WA T.Wn T.Wc] 25))
  replace RX := Lib.hid (((RX.out.below hb).more hb.size).up_alloc (.cells #[.slice T.A T.n T.c, .slice T.WA T.Wn T.Wc] 25))
  replace DZ := Lib.hid ((DZ.out.up hb).alloc (.cells #[.slice T.A T.n T.c, .slice T.WA T.Wn T.Wc] 25))
  replace KZ := Lib.hid ((KZ.out.below hb KZ.out.lt).alloc (.cells #[.slice T.A T.n T.c, .slice T.WA T.Wn T.Wc] 25))
  have DT := Lib.hid (hx.at_.alloc (.cells #[.slice T.A T.n T.c, .slice T.WA T.Wn T.Wc] 25))
  have ET := Lib.hid hex
  have KT := Lib.hid (Blk.new w8 25 #[.slice T.A T.n T.c, .slice T.WA T.Wn T.Wc])
  clear hx hex hb
  have HT : Hid (Wa.Has T.disk (L ++ l)) := by rw [Hid, ET.out]; exact Wa.has_sync HZ.out
  have y0 := KT.out.cell 0
  have y1 := KT.out.cell 1
  go_wp2_with fail
  refine (open_any T _ ⟨Dp.seen Z.disk, []⟩ (L ++ l) 0 (by rw [HT.out.opened, ET.out]) DT.out).mono ?_
  rintro e9 w9 ⟨Q, QA, Qn, Qc, rfl, hx, hex, hln, ho, hb⟩
  clear y0 y1
  replace C := Lib.hid (below_alloc (C.out.trans (hb.mono C.out.size)) (.cells #[.slice Q.A Q.n Q.c, .slice Q.WA Q.Wn Q.Wc] 25))
  replace RL := Lib.hid (((RL.out.below hb).more hb.size).up_alloc (.cells #[.slice Q.A Q.n Q.c, .slice Q.WA Q.Wn Q.Wc] 25))
  replace DX := Lib.hid ((DX.out.up hb).alloc (.cells #[.slice Q.A Q.n Q.c, .slice Q.WA Q.Wn Q.Wc] 25))
  replace KX := Lib.hid ((KX.out.below hb KX.out.lt).alloc (.cells #[.slice Q.A Q.n Q.c, .slice Q.WA Q.Wn Q.Wc] 25))
  replace RX := Lib.hid (((RX.out.below hb).more hb.size).up_alloc (.cells #[.slice Q.A Q.n Q.c, .slice Q.WA Q.Wn Q.Wc] 25))
  replace DT := Lib.hid ((DT.out.up hb).alloc (.cells #[.slice Q.A Q.n Q.c, .slice Q.WA Q.Wn Q.Wc] 25))
  replace KT := Lib.hid ((KT.out.below hb KT.out.lt).alloc (.cells #[.slice Q.A Q.n Q.c, .slice Q.WA Q.Wn Q.Wc] 25))
  have HQ0 := Lib.hid (show Q.Wn = 0 by have h1 := hx.at_.len_l; have h2 := congrArg (fun x : Dp.Disk => x.wait.length) hex; simp only [HD.disk, List.length_map, List.length_nil] at h2; omega)
  have KQ := Lib.hid (Blk.new w9 25 #[.slice Q.A Q.n Q.c, .slice Q.WA Q.Wn Q.Wc])
  have RQ := Lib.hid ((Reads.of_own ho).up_alloc (.cells #[.slice Q.A Q.n Q.c, .slice Q.WA Q.Wn Q.Wc] 25))
  have NQ := Lib.hid hln
  clear hx hex hln ho hb
  have hlq : Qn ≤ 1000000000 := by have h2 := NQ.out; have := Wa.Has.small HT.out; omega
  have hlx2 : Xn + n ≤ 1000000000 := by have h2 := NX.out; have := Wa.Has.small HX.out; omega
  go_wp2_with fail
  refine (joined_any XA Xn Xc (L.map S) A n c (l.map S) _ RX.out RL.out hlx2).mono ?_
  rintro e10 w10 ⟨JA, Jc, rfl, ho, hb⟩
  replace C := Lib.hid (C.out.trans (hb.mono C.out.size))
  replace RL := Lib.hid ((RL.out.below hb).more hb.size)
  replace DX := Lib.hid (DX.out.up hb)
  replace KX := Lib.hid (KX.out.below hb KX.out.lt)
  replace RX := Lib.hid ((RX.out.below hb).more hb.size)
  replace KQ := Lib.hid (KQ.out.below hb KQ.out.lt)
  replace RQ := Lib.hid ((RQ.out.below hb).more hb.size)
  have RJ := Lib.hid (Reads.of_own ho)
  clear ho hb
  go_wp2_with fail
  refine (sameTexts_yes QA Qn Qc JA (Xn + n) Jc _ _ _ _ _ RQ.out RJ.out (by omega) (by rw [List.map_append])).mono ?_
  rintro e11 w11 ⟨rfl, q1, rfl⟩
  have hb := below_drewN (Below.refl w10.heap.size w10) q1
  replace C := Lib.hid (C.out.trans (hb.mono C.out.size))
  replace RL := Lib.hid ((RL.out.below hb).more hb.size)
  replace DX := Lib.hid (DX.out.up hb)
  replace KX := Lib.hid (KX.out.below hb KX.out.lt)
  replace RX := Lib.hid ((RX.out.below hb).more hb.size)
  replace KQ := Lib.hid (KQ.out.below hb KQ.out.lt)
  replace RQ := Lib.hid ((RQ.out.below hb).more hb.size)
  replace RJ := Lib.hid ((RJ.out.below hb).more hb.size)
  clear hb
  generalize w10.drewN q1 = w11 at *
  have x1 := KQ.out.cell 1
  rw [HQ0.out] at x1
  clear RJ RQ
  have y0 := KX.out.cell 0
  have y1 := KX.out.cell 1
  obtain ⟨R', h, hR⟩ : ∃ R h, Wa.reset X.disk l = (R, h) := ⟨_, _, rfl⟩
  have HR := Lib.hid hR
  clear hR
  go_wp2_with fail
  refine (reset_any X A n c l _ R' h HR.out DX.out RL.out (by omega)).mono ?_
  rintro e20 w20 ⟨V, rfl, hx, hex, hb⟩
  clear y0 y1
  replace C := Lib.hid (below_alloc (C.out.trans (hb.mono C.out.size)) (.cells #[.slice V.A V.n V.c, .slice V.WA V.Wn V.Wc] 25))
  replace RL := Lib.hid (((RL.out.below hb).more hb.size).up_alloc (.cells #[.slice V.A V.n V.c, .slice V.WA V.Wn V.Wc] 25))
  replace DX := Lib.hid ((DX.out.up hb).alloc (.cells #[.slice V.A V.n V.c, .slice V.WA V.Wn V.Wc] 25))
  replace KX := Lib.hid ((KX.out.below hb KX.out.lt).alloc (.cells #[.slice V.A V.n V.c, .slice V.WA V.Wn V.Wc] 25))
  replace RX := Lib.hid (((RX.out.below hb).more hb.size).up_alloc (.cells #[.slice V.A V.n V.c, .slice V.WA V.Wn V.Wc] 25))
  have DV := Lib.hid (hx.at_.alloc (.cells #[.slice V.A V.n V.c, .slice V.WA V.Wn V.Wc] 25))
  have EV := Lib.hid hex
  have KV := Lib.hid (Blk.new w20 25 #[.slice V.A V.n V.c, .slice V.WA V.Wn V.Wc])
  clear hx hex hb
  by_cases h0 : h = 0
  case neg =>
    have dh : decide (h = 0) = false := decide_eq_false h0
    go_wp2; go_ret; exact ⟨rfl, C.out⟩
  subst h0
  have HV : Hid (Wa.Has V.disk l) := by rw [Hid, EV.out]; exact (Wa.reset_is HR.out).1
  have y0 := KV.out.cell 0
  have y1 := KV.out.cell 1
  go_wp2_with fail
  refine (open_any V _ V.disk l 0 HV.out.opened DV.out).mono ?_
  rintro e21 w21 ⟨U, UA, Un, Uc, rfl, hx, hex, hln, ho, hb⟩
  clear y0 y1
  replace C := Lib.hid (below_alloc (C.out.trans (hb.mono C.out.size)) (.cells #[.slice U.A U.n U.c, .slice U.WA U.Wn U.Wc] 25))
  replace RL := Lib.hid (((RL.out.below hb).more hb.size).up_alloc (.cells #[.slice U.A U.n U.c, .slice U.WA U.Wn U.Wc] 25))
  replace DX := Lib.hid ((DX.out.up hb).alloc (.cells #[.slice U.A U.n U.c, .slice U.WA U.Wn U.Wc] 25))
  replace KX := Lib.hid ((KX.out.below hb KX.out.lt).alloc (.cells #[.slice U.A U.n U.c, .slice U.WA U.Wn U.Wc] 25))
  replace RX := Lib.hid (((RX.out.below hb).more hb.size).up_alloc (.cells #[.slice U.A U.n U.c, .slice U.WA U.Wn U.Wc] 25))
  replace DV := Lib.hid ((DV.out.up hb).alloc (.cells #[.slice U.A U.n U.c, .slice U.WA U.Wn U.Wc] 25))
  replace KV := Lib.hid ((KV.out.below hb KV.out.lt).alloc (.cells #[.slice U.A U.n U.c, .slice U.WA U.Wn U.Wc] 25))
  have RU := Lib.hid ((Reads.of_own ho).up_alloc (.cells #[.slice U.A U.n U.c, .slice U.WA U.Wn U.Wc] 25))
  have NU := Lib.hid hln
  clear hx hex hln ho hb
  have hlu : Un ≤ 1000000000000 := by have := NU.out; have h2 := HLN.out; omega
  go_wp2_with fail
  refine (sameTexts_yes UA Un Uc A n c _ _ _ _ _ RU.out RL.out hlu rfl).mono ?_
  rintro e22 w22 ⟨rfl, q2, rfl⟩
  go_wp2
  go_ret
  exact ⟨rfl, then_drewN C.out q2⟩
end Go.Proofs.Ytihinhdgfbnlmaa
