/-
  The walk of WalTorn. No condition.
-/
import Derived.Test.YtihinhdgfbnlmaaWalSome
import Derived.Test.YtihinhdgfbnlmaaWalReset
import Derived.Test.YtihinhdgfbnlmaaWalLaw
import Derived.Test.YtihinhdgfbnlmaaDiskRefE
import Derived.Test.YtihinhdgfbnlmaaFrameTorn
namespace Go.Proofs.Ytihinhdgfbnlmaa
open Go.RowKit
set_option maxHeartbeats 16000000
set_option maxRecDepth 100000
set_option linter.unusedVariables false
set_option linter.unusedSimpArgs false

theorem walTorn_walk (D : HD) (A : Option Addr) (n c : Nat) (l0 : List ByteArray) (keep many : Int) (w : World) (hD : DiskAt w w.heap.size D) (hi : IsStrs w A n c l0) (hkeep : -9223372036854775808 ≤ keep ∧ keep ≤ 9223372036854775807) (hmany : -9223372036854775808 ≤ many ∧ many ≤ 9223372036854775807) :
    Calls Try.prog 11 #[.agg #[.slice D.A D.n D.c, .slice D.WA D.Wn D.Wc], .slice A n c, .int .i64 keep, .int .i64 many] w fun e w' => e = .returned (.bool true) ∧ Below w.heap.size w w' := by
  obtain ⟨hr, hc, hm, h64⟩ := hi
  unfold maxLen at hm
  obtain ⟨l, hl⟩ : ∃ l, tbT l0 = l := ⟨_, rfl⟩
  have hl0 : l0 = l.map S := by rw [← hl, tbT_S]
  subst hl0
  have hln : l.length = n := by have := hr.len_t; simpa using this
  have HLN := Lib.hid hln
  have K0 := Lib.hid (Blk.new w 25 #[.slice D.A D.n D.c, .slice D.WA D.Wn D.Wc])
  have C := Lib.hid ((Below.refl _ w).alloc (Nat.le_refl w.heap.size) (.cells #[.slice D.A D.n D.c, .slice D.WA D.Wn D.Wc] 25))
  have DD := Lib.hid (hD.alloc (.cells #[.slice D.A D.n D.c, .slice D.WA D.Wn D.Wc] 25))
  have RL := Lib.hid (hr.up_alloc (.cells #[.slice D.A D.n D.c, .slice D.WA D.Wn D.Wc] 25))
  have hmm := hmany.2
  have hkl := hkeep.1
  have hkh := hkeep.2
  clear hr h64 hl hln hD hkeep hmany
  obtain ⟨X', L, e, hO⟩ : ∃ X L e, Wa.opened D.disk = (X, L, e) := ⟨_, _, _, rfl⟩
  have HO := Lib.hid hO
  clear hO
  go_enter Try.func11, Try.ntmps11
  go_wp2_with fail
  refine (alive04_any _).mono ?_
  rintro e1 w1 ⟨rfl, hb⟩
  replace K0 := Lib.hid (K0.out.below hb K0.out.lt)
  replace C := Lib.hid (C.out.trans (hb.mono C.out.size))
  replace DD := Lib.hid (DD.out.up hb)
  replace RL := Lib.hid ((RL.out.below hb).more hb.size)
  clear hb
  have y0 := K0.out.cell 0
  have y1 := K0.out.cell 1
  go_wp2_with fail
  refine (rgreat_any D _ DD.out).mono ?_
  rintro e2 w2 ⟨⟨r, rfl, -⟩, hb⟩
  clear y0 y1
  replace K0 := Lib.hid (K0.out.below hb K0.out.lt)
  replace C := Lib.hid (C.out.trans (hb.mono C.out.size))
  replace DD := Lib.hid (DD.out.up hb)
  replace RL := Lib.hid ((RL.out.below hb).more hb.size)
  clear hb
  cases r with
  | true => go_wp2; go_ret; exact ⟨rfl, C.out⟩
  | false =>
  go_wp2_with fail
  refine (great_any A n c _ _ w2 RL.out (by omega)).mono ?_
  rintro e3 w' ⟨⟨r, rfl, hgr⟩, rfl⟩
  cases r with
  | true => clear hgr; go_wp2; go_ret; exact ⟨rfl, C.out⟩
  | false =>
  have hn := hgr rfl
  clear hgr
  have y0 := K0.out.cell 0
  have y1 := K0.out.cell 1
  go_wp2_with fail
  refine (open_any D _ X' L e HO.out DD.out).mono ?_
  rintro e4 w4 ⟨X, XA, Xn, Xc, rfl, hx, hex, hln, ho, hb⟩
  clear y0 y1
  replace K0 := Lib.hid ((K0.out.below hb K0.out.lt).alloc (.cells #[.slice X.A X.n X.c, .slice X.WA X.Wn X.Wc] 25))
  replace C := Lib.hid (below_alloc (C.out.trans (hb.mono C.out.size)) (.cells #[.slice X.A X.n X.c, .slice X.WA X.Wn X.Wc] 25))
  replace DD := Lib.hid ((DD.out.up hb).alloc (.cells #[.slice X.A X.n X.c, .slice X.WA X.Wn X.Wc] 25))
  replace RL := Lib.hid (((RL.out.below hb).more hb.size).up_alloc (.cells #[.slice X.A X.n X.c, .slice X.WA X.Wn X.Wc] 25))
  have DX := Lib.hid (hx.at_.alloc (.cells #[.slice X.A X.n X.c, .slice X.WA X.Wn X.Wc] 25))
  have EX := Lib.hid hex
  have KX := Lib.hid (Blk.new w4 25 #[.slice X.A X.n X.c, .slice X.WA X.Wn X.Wc])
  have RX := Lib.hid ((Reads.of_own ho).up_alloc (.cells #[.slice X.A X.n X.c, .slice X.WA X.Wn X.Wc] 25))
  have NX := Lib.hid hln
  clear hx hex hln ho hb
  clear K0 DD
  obtain ⟨S', f, hS⟩ : ∃ S f, Dp.sync X.disk = (S, f) := ⟨_, _, rfl⟩
  have HS := Lib.hid hS
  clear hS
  have y0 := KX.out.cell 0
  have y1 := KX.out.cell 1
  go_wp2_with fail
  refine (sync_is X _ S' f HS.out DX.out).mono ?_
  rintro e5 w5 ⟨Y, rfl, hx, hex, hb⟩
  clear y0 y1
  replace C := Lib.hid (below_alloc (C.out.trans (hb.mono C.out.size)) (.cells #[.slice Y.A Y.n Y.c, .slice Y.WA Y.Wn Y.Wc] 25))
  replace RL := Lib.hid (((RL.out.below hb).more hb.size).up_alloc (.cells #[.slice Y.A Y.n Y.c, .slice Y.WA Y.Wn Y.Wc] 25))
  replace DX := Lib.hid ((DX.out.up hb).alloc (.cells #[.slice Y.A Y.n Y.c, .slice Y.WA Y.Wn Y.Wc] 25))
  replace KX := Lib.hid ((KX.out.below hb KX.out.lt).alloc (.cells #[.slice Y.A Y.n Y.c, .slice Y.WA Y.Wn Y.Wc] 25))
  replace RX := Lib.hid (((RX.out.below hb).more hb.size).up_alloc (.cells #[.slice Y.A Y.n Y.c, .slice Y.WA Y.Wn Y.Wc] 25))
  have DY := Lib.hid (hx.at_.alloc (.cells #[.slice Y.A Y.n Y.c, .slice Y.WA Y.Wn Y.Wc] 25))
  have EY := Lib.hid hex
  have KY := Lib.hid (Blk.new w5 25 #[.slice Y.A Y.n Y.c, .slice Y.WA Y.Wn Y.Wc])
  clear hx hex hb
  clear KX DX
  obtain ⟨Z', g, hA⟩ : ∃ Z g, Wa.add Y.disk l = (Z, g) := ⟨_, _, rfl⟩
  have HA := Lib.hid hA
  clear hA
  have y0 := KY.out.cell 0
  have y1 := KY.out.cell 1
  go_wp2_with fail
  refine (add_any Y A n c l _ Z' g HA.out DY.out RL.out (by omega)).mono ?_
  rintro e6 w6 ⟨Z, rfl, hx, hex, hb⟩
  clear y0 y1
  replace C := Lib.hid (below_alloc (C.out.trans (hb.mono C.out.size)) (.cells #[.slice Z.A Z.n Z.c, .slice Z.WA Z.Wn Z.Wc] 25))
  replace RL := Lib.hid (((RL.out.below hb).more hb.size).up_alloc (.cells #[.slice Z.A Z.n Z.c, .slice Z.WA Z.Wn Z.Wc] 25))
  replace RX := Lib.hid (((RX.out.below hb).more hb.size).up_alloc (.cells #[.slice Z.A Z.n Z.c, .slice Z.WA Z.Wn Z.Wc] 25))
  replace DY := Lib.hid ((DY.out.up hb).alloc (.cells #[.slice Z.A Z.n Z.c, .slice Z.WA Z.Wn Z.Wc] 25))
  replace KY := Lib.hid ((KY.out.below hb KY.out.lt).alloc (.cells #[.slice Z.A Z.n Z.c, .slice Z.WA Z.Wn Z.Wc] 25))
  have DZ := Lib.hid (hx.at_.alloc (.cells #[.slice Z.A Z.n Z.c, .slice Z.WA Z.Wn Z.Wc] 25))
  have EZ := Lib.hid hex
  have KZ := Lib.hid (Blk.new w6 25 #[.slice Z.A Z.n Z.c, .slice Z.WA Z.Wn Z.Wc])
  clear hx hex hb
  obtain ⟨T', h, hT⟩ : ∃ T h, Dp.crash Z.disk keep many = (T, h) := ⟨_, _, rfl⟩
  have HT := Lib.hid hT
  clear hT
  have y0 := KZ.out.cell 0
  have y1 := KZ.out.cell 1
  go_wp2_with fail
  refine (crash_is Z keep many _ T' h HT.out DZ.out hmm).mono ?_
  rintro e7 w7 ⟨T, rfl, hx, hex, hb⟩
  clear y0 y1
  replace C := Lib.hid (below_alloc (C.out.trans (hb.mono C.out.size)) (.cells #[.slice T.A T.n T.c, .slice T.WA T.Wn T.Wc] 25))
  replace RL := Lib.hid (((RL.out.below hb).more hb.size).up_alloc (.cells #[.slice T.A T.n T.c, .slice T.WA T.Wn T.Wc] 25))
  replace RX := Lib.hid (((RX.out.below hb).more hb.size).up_alloc (.cells #[.slice T.A T.n T.c, .slice T.WA T.Wn T.Wc] 25))
  replace DY := Lib.hid ((DY.out.up hb).alloc (.cells #[.slice T.A T.n T.c, .slice T.WA T.Wn T.Wc] 25))
  replace KY := Lib.hid ((KY.out.below hb KY.out.lt).alloc (.cells #[.slice T.A T.n T.c, .slice T.WA T.Wn T.Wc] 25))
  replace DZ := Lib.hid ((DZ.out.up hb).alloc (.cells #[.slice T.A T.n T.c, .slice T.WA T.Wn T.Wc] 25))
  replace KZ := Lib.hid ((KZ.out.below hb KZ.out.lt).alloc (.cells #[.slice T.A T.n T.c, .slice T.WA T.Wn T.Wc] 25))
  have DT := Lib.hid (hx.at_.alloc (.cells #[.slice T.A T.n T.c, .slice T.WA T.Wn T.Wc] 25))
  have ET := Lib.hid hex
  have KT := Lib.hid (Blk.new w7 25 #[.slice T.A T.n T.c, .slice T.WA T.Wn T.Wc])
  clear hx hex hb
  clear KZ DZ
  rcases Wa.opened_is HO.out with ⟨he, hh, -⟩ | ⟨he, -, -⟩
  case inr =>
    have de : decide (e = 0) = false := decide_eq_false he
    go_wp2; go_ret; exact ⟨rfl, C.out⟩
  subst he
  have HX : Hid (Wa.Has X.disk L) := by rw [Hid, EX.out]; exact hh
  clear hh
  obtain ⟨hS1, rfl⟩ : S' = ⟨Dp.seen X.disk, []⟩ ∧ f = 0 := by have h1 := (Dp.sync_see HX.out.1).1; rw [HS.out] at h1; exact Prod.mk.inj h1
  have HY : Hid (Y.disk = ⟨Dp.seen X.disk, []⟩) := by rw [Hid, EY.out]; exact hS1
  clear hS1
  by_cases g0 : g = 0
  case neg =>
    have dg : decide (g = 0) = false := decide_eq_false g0
    have y0 := KY.out.cell 0
    have y1 := KY.out.cell 1
    obtain ⟨R', r1, hR⟩ : ∃ R h, Wa.reset Y.disk l = (R, h) := ⟨_, _, rfl⟩
    have HR := Lib.hid hR
    clear hR
    go_wp2_with fail
    refine (reset_any Y A n c l _ R' r1 HR.out DY.out RL.out (by omega)).mono ?_
    rintro e20 w20 ⟨V, rfl, hx, hex, hb⟩
    clear y0 y1
    replace C := Lib.hid (below_alloc (C.out.trans (hb.mono C.out.size)) (.cells #[.slice V.A V.n V.c, .slice V.WA V.Wn V.Wc] 25))
    replace RL := Lib.hid (((RL.out.below hb).more hb.size).up_alloc (.cells #[.slice V.A V.n V.c, .slice V.WA V.Wn V.Wc] 25))
    replace RX := Lib.hid (((RX.out.below hb).more hb.size).up_alloc (.cells #[.slice V.A V.n V.c, .slice V.WA V.Wn V.Wc] 25))
    replace DY := Lib.hid ((DY.out.up hb).alloc (.cells #[.slice V.A V.n V.c, .slice V.WA V.Wn V.Wc] 25))
    replace KY := Lib.hid ((KY.out.below hb KY.out.lt).alloc (.cells #[.slice V.A V.n V.c, .slice V.WA V.Wn V.Wc] 25))
    have DV := Lib.hid (hx.at_.alloc (.cells #[.slice V.A V.n V.c, .slice V.WA V.Wn V.Wc] 25))
    have EV := Lib.hid hex
    have KV := Lib.hid (Blk.new w20 25 #[.slice V.A V.n V.c, .slice V.WA V.Wn V.Wc])
    clear hx hex hb
    clear DY KY
    obtain ⟨U', r2, hU⟩ : ∃ R h, Dp.crash V.disk keep many = (R, h) := ⟨_, _, rfl⟩
    have HU := Lib.hid hU
    clear hU
    have y0 := KV.out.cell 0
    have y1 := KV.out.cell 1
    go_wp2_with fail
    refine (crash_is V keep many _ U' r2 HU.out DV.out hmm).mono ?_
    rintro e21 w21 ⟨U, rfl, hx, hex, hb⟩
    clear y0 y1
    replace C := Lib.hid (below_alloc (C.out.trans (hb.mono C.out.size)) (.cells #[.slice U.A U.n U.c, .slice U.WA U.Wn U.Wc] 25))
    replace RL := Lib.hid (((RL.out.below hb).more hb.size).up_alloc (.cells #[.slice U.A U.n U.c, .slice U.WA U.Wn U.Wc] 25))
    replace RX := Lib.hid (((RX.out.below hb).more hb.size).up_alloc (.cells #[.slice U.A U.n U.c, .slice U.WA U.Wn U.Wc] 25))
    replace DV := Lib.hid ((DV.out.up hb).alloc (.cells #[.slice U.A U.n U.c, .slice U.WA U.Wn U.Wc] 25))
    replace KV := Lib.hid ((KV.out.below hb KV.out.lt).alloc (.cells #[.slice U.A U.n U.c, .slice U.WA U.Wn U.Wc] 25))
    have DU := Lib.hid (hx.at_.alloc (.cells #[.slice U.A U.n U.c, .slice U.WA U.Wn U.Wc] 25))
    have EU := Lib.hid hex
    have KU := Lib.hid (Blk.new w21 25 #[.slice U.A U.n U.c, .slice U.WA U.Wn U.Wc])
    clear hx hex hb
    clear DV KV
    by_cases h1 : r1 = 0
    case neg =>
      have dh : decide (r1 = 0) = false := decide_eq_false h1
      go_wp2; go_ret; exact ⟨rfl, C.out⟩
    by_cases h2 : r2 = 0
    case neg =>
      have dh : decide (r2 = 0) = false := decide_eq_false h2
      subst h1
      go_wp2; go_ret; exact ⟨rfl, C.out⟩
    subst h1
    subst h2
    obtain ⟨Q', hq⟩ := Wa.anew HX.out (by rw [← HY.out]; exact HR.out) (by rw [← EV.out]; exact HU.out)
    rcases hq with ⟨rfl, hq⟩ | ⟨rfl, hq⟩
    case inl =>
      have HQ := Lib.hid hq
      clear hq
      have y0 := KU.out.cell 0
      have y1 := KU.out.cell 1
      go_wp2_with fail
      refine (open_any U _ Q' L 0 (by rw [EU.out]; exact HQ.out) DU.out).mono ?_
      rintro e22 w22 ⟨P, PA, Pn, Pc, rfl, hx, hex, hln, ho, hb⟩
      clear y0 y1
      replace C := Lib.hid (below_alloc (C.out.trans (hb.mono C.out.size)) (.cells #[.slice P.A P.n P.c, .slice P.WA P.Wn P.Wc] 25))
      replace RL := Lib.hid (((RL.out.below hb).more hb.size).up_alloc (.cells #[.slice P.A P.n P.c, .slice P.WA P.Wn P.Wc] 25))
      replace RX := Lib.hid (((RX.out.below hb).more hb.size).up_alloc (.cells #[.slice P.A P.n P.c, .slice P.WA P.Wn P.Wc] 25))
      replace DU := Lib.hid ((DU.out.up hb).alloc (.cells #[.slice P.A P.n P.c, .slice P.WA P.Wn P.Wc] 25))
      replace KU := Lib.hid ((KU.out.below hb KU.out.lt).alloc (.cells #[.slice P.A P.n P.c, .slice P.WA P.Wn P.Wc] 25))
      have RP := Lib.hid ((Reads.of_own ho).up_alloc (.cells #[.slice P.A P.n P.c, .slice P.WA P.Wn P.Wc] 25))
      have NP := Lib.hid hln
      clear hx hex hln ho hb
      have hlp : Pn ≤ 1000000000000 := by have h1 := NP.out; have h2 := HLN.out; have h3 := Wa.Has.small HX.out; omega
      go_wp2_with fail
      refine (sameTexts_yes PA Pn Pc XA Xn Xc _ _ _ _ _ RP.out RX.out hlp rfl).mono ?_
      rintro e23 w23 ⟨rfl, q2, rfl⟩
      go_wp2
      go_ret
      exact ⟨rfl, then_drewN C.out q2⟩
    case inr =>
      have HQ := Lib.hid hq
      clear hq
      have y0 := KU.out.cell 0
      have y1 := KU.out.cell 1
      go_wp2_with fail
      refine (open_any U _ Q' l 0 (by rw [EU.out]; exact HQ.out) DU.out).mono ?_
      rintro e22 w22 ⟨P, PA, Pn, Pc, rfl, hx, hex, hln, ho, hb⟩
      clear y0 y1
      replace C := Lib.hid (below_alloc (C.out.trans (hb.mono C.out.size)) (.cells #[.slice P.A P.n P.c, .slice P.WA P.Wn P.Wc] 25))
      replace RL := Lib.hid (((RL.out.below hb).more hb.size).up_alloc (.cells #[.slice P.A P.n P.c, .slice P.WA P.Wn P.Wc] 25))
      replace RX := Lib.hid (((RX.out.below hb).more hb.size).up_alloc (.cells #[.slice P.A P.n P.c, .slice P.WA P.Wn P.Wc] 25))
      replace DU := Lib.hid ((DU.out.up hb).alloc (.cells #[.slice P.A P.n P.c, .slice P.WA P.Wn P.Wc] 25))
      replace KU := Lib.hid ((KU.out.below hb KU.out.lt).alloc (.cells #[.slice P.A P.n P.c, .slice P.WA P.Wn P.Wc] 25))
      have RP := Lib.hid ((Reads.of_own ho).up_alloc (.cells #[.slice P.A P.n P.c, .slice P.WA P.Wn P.Wc] 25))
      have NP := Lib.hid hln
      clear hx hex hln ho hb
      have hlp : Pn ≤ 1000000000000 := by have h1 := NP.out; have h2 := HLN.out; have h3 := Wa.Has.small HX.out; omega
      go_wp2_with fail
      refine (sameTexts_yes PA Pn Pc A n c _ _ _ _ _ RP.out RL.out hlp rfl).mono ?_
      rintro e23 w23 ⟨rfl, q2, rfl⟩
      go_wp2
      go_ret
      exact ⟨rfl, then_drewN C.out q2⟩
  by_cases h0 : h = 0
  case neg =>
    have dg : decide (h = 0) = false := decide_eq_false h0
    subst g0
    have y0 := KY.out.cell 0
    have y1 := KY.out.cell 1
    obtain ⟨R', r1, hR⟩ : ∃ R h, Wa.reset Y.disk l = (R, h) := ⟨_, _, rfl⟩
    have HR := Lib.hid hR
    clear hR
    go_wp2_with fail
    refine (reset_any Y A n c l _ R' r1 HR.out DY.out RL.out (by omega)).mono ?_
    rintro e20 w20 ⟨V, rfl, hx, hex, hb⟩
    clear y0 y1
    replace C := Lib.hid (below_alloc (C.out.trans (hb.mono C.out.size)) (.cells #[.slice V.A V.n V.c, .slice V.WA V.Wn V.Wc] 25))
    replace RL := Lib.hid (((RL.out.below hb).more hb.size).up_alloc (.cells #[.slice V.A V.n V.c, .slice V.WA V.Wn V.Wc] 25))
    replace RX := Lib.hid (((RX.out.below hb).more hb.size).up_alloc (.cells #[.slice V.A V.n V.c, .slice V.WA V.Wn V.Wc] 25))
    replace DY := Lib.hid ((DY.out.up hb).alloc (.cells #[.slice V.A V.n V.c, .slice V.WA V.Wn V.Wc] 25))
    replace KY := Lib.hid ((KY.out.below hb KY.out.lt).alloc (.cells #[.slice V.A V.n V.c, .slice V.WA V.Wn V.Wc] 25))
    have DV := Lib.hid (hx.at_.alloc (.cells #[.slice V.A V.n V.c, .slice V.WA V.Wn V.Wc] 25))
    have EV := Lib.hid hex
    have KV := Lib.hid (Blk.new w20 25 #[.slice V.A V.n V.c, .slice V.WA V.Wn V.Wc])
    clear hx hex hb
    clear DY KY
    obtain ⟨U', r2, hU⟩ : ∃ R h, Dp.crash V.disk keep many = (R, h) := ⟨_, _, rfl⟩
    have HU := Lib.hid hU
    clear hU
    have y0 := KV.out.cell 0
    have y1 := KV.out.cell 1
    go_wp2_with fail
    refine (crash_is V keep many _ U' r2 HU.out DV.out hmm).mono ?_
    rintro e21 w21 ⟨U, rfl, hx, hex, hb⟩
    clear y0 y1
    replace C := Lib.hid (below_alloc (C.out.trans (hb.mono C.out.size)) (.cells #[.slice U.A U.n U.c, .slice U.WA U.Wn U.Wc] 25))
    replace RL := Lib.hid (((RL.out.below hb).more hb.size).up_alloc (.cells #[.slice U.A U.n U.c, .slice U.WA U.Wn U.Wc] 25))
    replace RX := Lib.hid (((RX.out.below hb).more hb.size).up_alloc (.cells #[.slice U.A U.n U.c, .slice U.WA U.Wn U.Wc] 25))
    replace DV := Lib.hid ((DV.out.up hb).alloc (.cells #[.slice U.A U.n U.c, .slice U.WA U.Wn U.Wc] 25))
    replace KV := Lib.hid ((KV.out.below hb KV.out.lt).alloc (.cells #[.slice U.A U.n U.c, .slice U.WA U.Wn U.Wc] 25))
    have DU := Lib.hid (hx.at_.alloc (.cells #[.slice U.A U.n U.c, .slice U.WA U.Wn U.Wc] 25))
    have EU := Lib.hid hex
    have KU := Lib.hid (Blk.new w21 25 #[.slice U.A U.n U.c, .slice U.WA U.Wn U.Wc])
    clear hx hex hb
    clear DV KV
    by_cases h1 : r1 = 0
    case neg =>
      have dh : decide (r1 = 0) = false := decide_eq_false h1
      go_wp2; go_ret; exact ⟨rfl, C.out⟩
    by_cases h2 : r2 = 0
    case neg =>
      have dh : decide (r2 = 0) = false := decide_eq_false h2
      subst h1
      go_wp2; go_ret; exact ⟨rfl, C.out⟩
    subst h1
    subst h2
    obtain ⟨Q', hq⟩ := Wa.anew HX.out (by rw [← HY.out]; exact HR.out) (by rw [← EV.out]; exact HU.out)
    rcases hq with ⟨rfl, hq⟩ | ⟨rfl, hq⟩
    case inl =>
      have HQ := Lib.hid hq
      clear hq
      have y0 := KU.out.cell 0
      have y1 := KU.out.cell 1
      go_wp2_with fail
      refine (open_any U _ Q' L 0 (by rw [EU.out]; exact HQ.out) DU.out).mono ?_
      rintro e22 w22 ⟨P, PA, Pn, Pc, rfl, hx, hex, hln, ho, hb⟩
      clear y0 y1
      replace C := Lib.hid (below_alloc (C.out.trans (hb.mono C.out.size)) (.cells #[.slice P.A P.n P.c, .slice P.WA P.Wn P.Wc] 25))
      replace RL := Lib.hid (((RL.out.below hb).more hb.size).up_alloc (.cells #[.slice P.A P.n P.c, .slice P.WA P.Wn P.Wc] 25))
      replace RX := Lib.hid (((RX.out.below hb).more hb.size).up_alloc (.cells #[.slice P.A P.n P.c, .slice P.WA P.Wn P.Wc] 25))
      replace DU := Lib.hid ((DU.out.up hb).alloc (.cells #[.slice P.A P.n P.c, .slice P.WA P.Wn P.Wc] 25))
      replace KU := Lib.hid ((KU.out.below hb KU.out.lt).alloc (.cells #[.slice P.A P.n P.c, .slice P.WA P.Wn P.Wc] 25))
      have RP := Lib.hid ((Reads.of_own ho).up_alloc (.cells #[.slice P.A P.n P.c, .slice P.WA P.Wn P.Wc] 25))
      have NP := Lib.hid hln
      clear hx hex hln ho hb
      have hlp : Pn ≤ 1000000000000 := by have h1 := NP.out; have h2 := HLN.out; have h3 := Wa.Has.small HX.out; omega
      go_wp2_with fail
      refine (sameTexts_yes PA Pn Pc XA Xn Xc _ _ _ _ _ RP.out RX.out hlp rfl).mono ?_
      rintro e23 w23 ⟨rfl, q2, rfl⟩
      go_wp2
      go_ret
      exact ⟨rfl, then_drewN C.out q2⟩
    case inr =>
      have HQ := Lib.hid hq
      clear hq
      have y0 := KU.out.cell 0
      have y1 := KU.out.cell 1
      go_wp2_with fail
      refine (open_any U _ Q' l 0 (by rw [EU.out]; exact HQ.out) DU.out).mono ?_
      rintro e22 w22 ⟨P, PA, Pn, Pc, rfl, hx, hex, hln, ho, hb⟩
      clear y0 y1
      replace C := Lib.hid (below_alloc (C.out.trans (hb.mono C.out.size)) (.cells #[.slice P.A P.n P.c, .slice P.WA P.Wn P.Wc] 25))
      replace RL := Lib.hid (((RL.out.below hb).more hb.size).up_alloc (.cells #[.slice P.A P.n P.c, .slice P.WA P.Wn P.Wc] 25))
      replace RX := Lib.hid (((RX.out.below hb).more hb.size).up_alloc (.cells #[.slice P.A P.n P.c, .slice P.WA P.Wn P.Wc] 25))
      replace DU := Lib.hid ((DU.out.up hb).alloc (.cells #[.slice P.A P.n P.c, .slice P.WA P.Wn P.Wc] 25))
      replace KU := Lib.hid ((KU.out.below hb KU.out.lt).alloc (.cells #[.slice P.A P.n P.c, .slice P.WA P.Wn P.Wc] 25))
      have RP := Lib.hid ((Reads.of_own ho).up_alloc (.cells #[.slice P.A P.n P.c, .slice P.WA P.Wn P.Wc] 25))
      have NP := Lib.hid hln
      clear hx hex hln ho hb
      have hlp : Pn ≤ 1000000000000 := by have h1 := NP.out; have h2 := HLN.out; have h3 := Wa.Has.small HX.out; omega
      go_wp2_with fail
      refine (sameTexts_yes PA Pn Pc A n c _ _ _ _ _ RP.out RL.out hlp rfl).mono ?_
      rintro e23 w23 ⟨rfl, q2, rfl⟩
      go_wp2
      go_ret
      exact ⟨rfl, then_drewN C.out q2⟩
  subst g0
  subst h0
  obtain ⟨Q', j, hq, hjn, hkj, hk0⟩ := Wa.torn HX.out (by rw [← HY.out]; exact HA.out) (by rw [← EZ.out]; exact HT.out)
  have HQ := Lib.hid hq
  rw [HLN.out] at hjn
  clear hq
  have y0 := KT.out.cell 0
  have y1 := KT.out.cell 1
  go_wp2_with fail
  refine (open_any T _ Q' (L ++ l.take j) 0 (by rw [ET.out]; exact HQ.out) DT.out).mono ?_
  rintro e9 w9 ⟨Q, QA, Qn, Qc, rfl, hx, hex, hln, ho, hb⟩
  clear y0 y1
  replace C := Lib.hid (below_alloc (C.out.trans (hb.mono C.out.size)) (.cells #[.slice Q.A Q.n Q.c, .slice Q.WA Q.Wn Q.Wc] 25))
  replace RL := Lib.hid (((RL.out.below hb).more hb.size).up_alloc (.cells #[.slice Q.A Q.n Q.c, .slice Q.WA Q.Wn Q.Wc] 25))
  replace RX := Lib.hid (((RX.out.below hb).more hb.size).up_alloc (.cells #[.slice Q.A Q.n Q.c, .slice Q.WA Q.Wn Q.Wc] 25))
  replace DY := Lib.hid ((DY.out.up hb).alloc (.cells #[.slice Q.A Q.n Q.c, .slice Q.WA Q.Wn Q.Wc] 25))
  replace KY := Lib.hid ((KY.out.below hb KY.out.lt).alloc (.cells #[.slice Q.A Q.n Q.c, .slice Q.WA Q.Wn Q.Wc] 25))
  replace DT := Lib.hid ((DT.out.up hb).alloc (.cells #[.slice Q.A Q.n Q.c, .slice Q.WA Q.Wn Q.Wc] 25))
  replace KT := Lib.hid ((KT.out.below hb KT.out.lt).alloc (.cells #[.slice Q.A Q.n Q.c, .slice Q.WA Q.Wn Q.Wc] 25))
  have RQ := Lib.hid ((Reads.of_own ho).up_alloc (.cells #[.slice Q.A Q.n Q.c, .slice Q.WA Q.Wn Q.Wc] 25))
  have NQ := Lib.hid (show Qn = Xn + j by have h1 := hln; have h2 := NX.out; have h3 := HLN.out; rw [List.length_append, List.length_take] at h1; omega)
  clear hx hex hln ho hb
  clear KT DT
  have HJN := Lib.hid hjn
  have HKJ := Lib.hid hkj
  clear hjn hkj
  have hlx2 : Xn + n ≤ 1000000000 := by have h2 := NX.out; have := Wa.Has.small HX.out; omega
  have hmin : min ((Qn : Int) - (Xn : Int)) (n : Int) = (Qn : Int) - (Xn : Int) := by have h1 := NQ.out; have h2 := HJN.out; have h3 := HKJ.out; omega
  have hsum : (Xn : Int) + ((Qn : Int) - (Xn : Int)) = (Qn : Int) := by omega
  have d2 : ¬ (Qn : Int) < (Xn : Int) + keep := by have h1 := NQ.out; have h2 := HJN.out; have h3 := HKJ.out; omega
  have d31 : -9223372036854775808 ≤ (Xn : Int) + keep := by omega
  have d32 : (Xn : Int) + keep ≤ 9223372036854775807 := by have h1 := NQ.out; have h2 := HJN.out; have h3 := HKJ.out; omega
  go_wp2_with fail
  refine (joined_any XA Xn Xc (L.map S) A n c (l.map S) _ RX.out RL.out hlx2).mono ?_
  rintro e10 w10 ⟨JA, Jc, rfl, ho, hb⟩
  replace C := Lib.hid (C.out.trans (hb.mono C.out.size))
  replace RL := Lib.hid ((RL.out.below hb).more hb.size)
  replace RX := Lib.hid ((RX.out.below hb).more hb.size)
  replace DY := Lib.hid (DY.out.up hb)
  replace KY := Lib.hid (KY.out.below hb KY.out.lt)
  replace RQ := Lib.hid ((RQ.out.below hb).more hb.size)
  have RJ := Lib.hid (Reads.of_own ho)
  have HJc := Lib.hid (own_cap ho).1
  clear ho hb
  have hqj : Qn ≤ Jc := by have h1 := HJc.out; have h2 := NQ.out; have h3 := HJN.out; omega
  have hqj2 : (Qn : Int) ≤ (Jc : Int) := by omega
  have hsl := fun W => run_slice_to (P := Try.prog) Try.underlying54 JA (Xn + n) Jc Qn hqj W str_size
  have RJ2 := Lib.hid (RJ.out.first (k := Qn) (by have h2 := NQ.out; have h3 := HJN.out; omega))
  go_wp2_with fail
  refine (sameTexts_yes QA Qn Qc JA Qn Jc _ _ _ _ _ RQ.out (by rw [ct_take] at RJ2; exact RJ2.out) (by have h2 := NQ.out; have h3 := HJN.out; omega) (by rw [NQ.out, ← List.map_append, ← List.map_take, ← NX.out, List.take_length_add_append])).mono ?_
  rintro e11 w11 ⟨rfl, q1, rfl⟩
  have hb := below_drewN (Below.refl w10.heap.size w10) q1
  replace C := Lib.hid (C.out.trans (hb.mono C.out.size))
  replace RL := Lib.hid ((RL.out.below hb).more hb.size)
  replace RX := Lib.hid ((RX.out.below hb).more hb.size)
  replace DY := Lib.hid (DY.out.up hb)
  replace KY := Lib.hid (KY.out.below hb KY.out.lt)
  replace RQ := Lib.hid ((RQ.out.below hb).more hb.size)
  replace RJ := Lib.hid ((RJ.out.below hb).more hb.size)
  clear hb
  generalize w10.drewN q1 = w11 at *
  clear RJ RQ RJ2
  have y0 := KY.out.cell 0
  have y1 := KY.out.cell 1
  obtain ⟨R', r1, hR⟩ : ∃ R h, Wa.reset Y.disk l = (R, h) := ⟨_, _, rfl⟩
  have HR := Lib.hid hR
  clear hR
  go_wp2_with fail
  refine (reset_any Y A n c l _ R' r1 HR.out DY.out RL.out (by omega)).mono ?_
  rintro e20 w20 ⟨V, rfl, hx, hex, hb⟩
  clear y0 y1
  replace C := Lib.hid (below_alloc (C.out.trans (hb.mono C.out.size)) (.cells #[.slice V.A V.n V.c, .slice V.WA V.Wn V.Wc] 25))
  replace RL := Lib.hid (((RL.out.below hb).more hb.size).up_alloc (.cells #[.slice V.A V.n V.c, .slice V.WA V.Wn V.Wc] 25))
  replace RX := Lib.hid (((RX.out.below hb).more hb.size).up_alloc (.cells #[.slice V.A V.n V.c, .slice V.WA V.Wn V.Wc] 25))
  replace DY := Lib.hid ((DY.out.up hb).alloc (.cells #[.slice V.A V.n V.c, .slice V.WA V.Wn V.Wc] 25))
  replace KY := Lib.hid ((KY.out.below hb KY.out.lt).alloc (.cells #[.slice V.A V.n V.c, .slice V.WA V.Wn V.Wc] 25))
  have DV := Lib.hid (hx.at_.alloc (.cells #[.slice V.A V.n V.c, .slice V.WA V.Wn V.Wc] 25))
  have EV := Lib.hid hex
  have KV := Lib.hid (Blk.new w20 25 #[.slice V.A V.n V.c, .slice V.WA V.Wn V.Wc])
  clear hx hex hb
  clear DY KY
  obtain ⟨U', r2, hU⟩ : ∃ R h, Dp.crash V.disk keep many = (R, h) := ⟨_, _, rfl⟩
  have HU := Lib.hid hU
  clear hU
  have y0 := KV.out.cell 0
  have y1 := KV.out.cell 1
  go_wp2_with fail
  refine (crash_is V keep many _ U' r2 HU.out DV.out hmm).mono ?_
  rintro e21 w21 ⟨U, rfl, hx, hex, hb⟩
  clear y0 y1
  replace C := Lib.hid (below_alloc (C.out.trans (hb.mono C.out.size)) (.cells #[.slice U.A U.n U.c, .slice U.WA U.Wn U.Wc] 25))
  replace RL := Lib.hid (((RL.out.below hb).more hb.size).up_alloc (.cells #[.slice U.A U.n U.c, .slice U.WA U.Wn U.Wc] 25))
  replace RX := Lib.hid (((RX.out.below hb).more hb.size).up_alloc (.cells #[.slice U.A U.n U.c, .slice U.WA U.Wn U.Wc] 25))
  replace DV := Lib.hid ((DV.out.up hb).alloc (.cells #[.slice U.A U.n U.c, .slice U.WA U.Wn U.Wc] 25))
  replace KV := Lib.hid ((KV.out.below hb KV.out.lt).alloc (.cells #[.slice U.A U.n U.c, .slice U.WA U.Wn U.Wc] 25))
  have DU := Lib.hid (hx.at_.alloc (.cells #[.slice U.A U.n U.c, .slice U.WA U.Wn U.Wc] 25))
  have EU := Lib.hid hex
  have KU := Lib.hid (Blk.new w21 25 #[.slice U.A U.n U.c, .slice U.WA U.Wn U.Wc])
  clear hx hex hb
  clear DV KV
  by_cases h1 : r1 = 0
  case neg =>
    have dh : decide (r1 = 0) = false := decide_eq_false h1
    go_wp2; go_ret; exact ⟨rfl, C.out⟩
  by_cases h2 : r2 = 0
  case neg =>
    have dh : decide (r2 = 0) = false := decide_eq_false h2
    subst h1
    go_wp2; go_ret; exact ⟨rfl, C.out⟩
  subst h1
  subst h2
  obtain ⟨Q', hq⟩ := Wa.anew HX.out (by rw [← HY.out]; exact HR.out) (by rw [← EV.out]; exact HU.out)
  rcases hq with ⟨rfl, hq⟩ | ⟨rfl, hq⟩
  case inl =>
    have HQ := Lib.hid hq
    clear hq
    have y0 := KU.out.cell 0
    have y1 := KU.out.cell 1
    go_wp2_with fail
    refine (open_any U _ Q' L 0 (by rw [EU.out]; exact HQ.out) DU.out).mono ?_
    rintro e22 w22 ⟨P, PA, Pn, Pc, rfl, hx, hex, hln, ho, hb⟩
    clear y0 y1
    replace C := Lib.hid (below_alloc (C.out.trans (hb.mono C.out.size)) (.cells #[.slice P.A P.n P.c, .slice P.WA P.Wn P.Wc] 25))
    replace RL := Lib.hid (((RL.out.below hb).more hb.size).up_alloc (.cells #[.slice P.A P.n P.c, .slice P.WA P.Wn P.Wc] 25))
    replace RX := Lib.hid (((RX.out.below hb).more hb.size).up_alloc (.cells #[.slice P.A P.n P.c, .slice P.WA P.Wn P.Wc] 25))
    replace DU := Lib.hid ((DU.out.up hb).alloc (.cells #[.slice P.A P.n P.c, .slice P.WA P.Wn P.Wc] 25))
    replace KU := Lib.hid ((KU.out.below hb KU.out.lt).alloc (.cells #[.slice P.A P.n P.c, .slice P.WA P.Wn P.Wc] 25))
    have RP := Lib.hid ((Reads.of_own ho).up_alloc (.cells #[.slice P.A P.n P.c, .slice P.WA P.Wn P.Wc] 25))
    have NP := Lib.hid hln
    clear hx hex hln ho hb
    have hlp : Pn ≤ 1000000000000 := by have h1 := NP.out; have h2 := HLN.out; have h3 := Wa.Has.small HX.out; omega
    go_wp2_with fail
    refine (sameTexts_yes PA Pn Pc XA Xn Xc _ _ _ _ _ RP.out RX.out hlp rfl).mono ?_
    rintro e23 w23 ⟨rfl, q2, rfl⟩
    go_wp2
    go_ret
    exact ⟨rfl, then_drewN C.out q2⟩
  case inr =>
    have HQ := Lib.hid hq
    clear hq
    have y0 := KU.out.cell 0
    have y1 := KU.out.cell 1
    go_wp2_with fail
    refine (open_any U _ Q' l 0 (by rw [EU.out]; exact HQ.out) DU.out).mono ?_
    rintro e22 w22 ⟨P, PA, Pn, Pc, rfl, hx, hex, hln, ho, hb⟩
    clear y0 y1
    replace C := Lib.hid (below_alloc (C.out.trans (hb.mono C.out.size)) (.cells #[.slice P.A P.n P.c, .slice P.WA P.Wn P.Wc] 25))
    replace RL := Lib.hid (((RL.out.below hb).more hb.size).up_alloc (.cells #[.slice P.A P.n P.c, .slice P.WA P.Wn P.Wc] 25))
    replace RX := Lib.hid (((RX.out.below hb).more hb.size).up_alloc (.cells #[.slice P.A P.n P.c, .slice P.WA P.Wn P.Wc] 25))
    replace DU := Lib.hid ((DU.out.up hb).alloc (.cells #[.slice P.A P.n P.c, .slice P.WA P.Wn P.Wc] 25))
    replace KU := Lib.hid ((KU.out.below hb KU.out.lt).alloc (.cells #[.slice P.A P.n P.c, .slice P.WA P.Wn P.Wc] 25))
    have RP := Lib.hid ((Reads.of_own ho).up_alloc (.cells #[.slice P.A P.n P.c, .slice P.WA P.Wn P.Wc] 25))
    have NP := Lib.hid hln
    clear hx hex hln ho hb
    have hlp : Pn ≤ 1000000000000 := by have h1 := NP.out; have h2 := HLN.out; have h3 := Wa.Has.small HX.out; omega
    go_wp2_with fail
    refine (sameTexts_yes PA Pn Pc A n c _ _ _ _ _ RP.out RL.out hlp rfl).mono ?_
    rintro e23 w23 ⟨rfl, q2, rfl⟩
    go_wp2
    go_ret
    exact ⟨rfl, then_drewN C.out q2⟩
end Go.Proofs.Ytihinhdgfbnlmaa
