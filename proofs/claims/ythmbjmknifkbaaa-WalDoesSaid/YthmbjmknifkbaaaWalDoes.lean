/-
  The walk of WalDoes. No condition.
-/
import Derived.Test.YthmbjmknifkbaaaWalLaw
import Derived.Test.YthmbjmknifkbaaaWalAdd
import Derived.Test.YthmbjmknifkbaaaWalOpen
import Derived.Test.YthmbjmknifkbaaaWalRefOpen
import Derived.Test.YthmbjmknifkbaaaWalReset
import Derived.Test.YthmbjmknifkbaaaWalRefReset
import Derived.Test.YthmbjmknifkbaaaWalRefAdd
import Derived.Test.YthmbjmknifkbaaaDiskTurn
import Derived.Test.YthmbjmknifkbaaaDiskRefE
import Derived.Test.YthmbjmknifkbaaaTexts
import Derived.Test.YthmbjmknifkbaaaFrameTorn
namespace Go.Proofs.Ythmbjmknifkbaaa
open Go.RowKit
set_option maxHeartbeats 16000000
set_option maxRecDepth 100000
set_option linter.unusedVariables false
set_option linter.unusedSimpArgs false

theorem walDoes_walk (D : HD) (A : Option Addr) (n c : Nat) (l0 : List ByteArray) (w : World) (hD : DiskAt w w.heap.size D) (hi : IsStrs w A n c l0) :
    Calls Try.prog 3 #[.agg #[.slice D.A D.n D.c, .slice D.WA D.Wn D.Wc], .slice A n c] w fun e w' => e = .returned (.bool true) ∧ Below w.heap.size w w' := by
  obtain ⟨hr, hc, hm, h64⟩ := hi
  unfold maxLen at hm
  obtain ⟨l, hl⟩ : ∃ l, tbT l0 = l := ⟨_, rfl⟩
  have hl0 : l0 = l.map S := by rw [← hl, tbT_S]
  subst hl0
  have HD0 := Lib.hid hD
  have K0 := Lib.hid (Blk.new w 25 #[.slice D.A D.n D.c, .slice D.WA D.Wn D.Wc])
  have C0 := Lib.hid ((Below.refl _ w).alloc (Nat.le_refl w.heap.size) (.cells #[.slice D.A D.n D.c, .slice D.WA D.Wn D.Wc] 25))
  have D0 := Lib.hid (hD.alloc (.cells #[.slice D.A D.n D.c, .slice D.WA D.Wn D.Wc] 25))
  have RL := Lib.hid (hr.up_alloc (.cells #[.slice D.A D.n D.c, .slice D.WA D.Wn D.Wc] 25))
  clear hr h64 hl hD
  go_enter Try.func3, Try.ntmps3
  have y0 := K0.out.cell 0
  have y1 := K0.out.cell 1
  go_wp2_with fail
  refine (rgreat_any D _ D0.out).mono ?_
  rintro e1 w1 ⟨⟨r, rfl, hsm⟩, hb⟩
  clear y0 y1
  replace K0 := Lib.hid (K0.out.below hb K0.out.lt)
  replace C0 := Lib.hid (C0.out.trans (hb.mono C0.out.size))
  replace D0 := Lib.hid (D0.out.up hb)
  replace RL := Lib.hid ((RL.out.below hb).more hb.size)
  clear hb
  have z1 : w.heap.size < w1.heap.size := K0.out.lt
  cases r with
  | true => go_wp2; go_ret; exact ⟨rfl, C0.out⟩
  | false =>
  have SM := Lib.hid (hsm rfl).1
  clear hsm
  go_wp2_with fail
  refine (great_any A n c _ _ w1 RL.out (by omega)).mono ?_
  rintro e3 w' ⟨⟨r, rfl, hgr⟩, rfl⟩
  cases r with
  | true => clear hgr; go_wp2; go_ret; exact ⟨rfl, C0.out⟩
  | false =>
  have hn := hgr rfl
  clear hgr
  obtain ⟨Xa, L, ra, hA⟩ : ∃ X L r, Wa.opened D.disk = (X, L, r) := ⟨_, _, _, rfl⟩
  obtain ⟨Xx, rx, hX⟩ : ∃ X r, Wa.add D.disk l = (X, r) := ⟨_, _, rfl⟩
  obtain ⟨Xu, ru, hU⟩ : ∃ X r, Wa.reset D.disk l = (X, r) := ⟨_, _, rfl⟩
  have HA := Lib.hid hA
  have HX := Lib.hid hX
  have HU := Lib.hid hU
  have LL : Hid (L.length ≤ 1000000000) := by
    rcases Wa.opened_is hA with ⟨he, hh, -⟩ | ⟨he, hL, -⟩
    · have := Wa.Has.small hh
      rw [Hid]
      omega
    · rw [Hid, hL]
      exact Nat.zero_le _
  clear hA hX hU
  have y0 := K0.out.cell 0
  have y1 := K0.out.cell 1
  go_wp2_with fail
  refine (rtwin_any D _ D0.out SM.out).mono ?_
  rintro e2 w2 ⟨DO, rfl, hx, hex, hb⟩
  have KO := Lib.hid (Blk.new w2 25 #[.slice DO.A DO.n DO.c, .slice DO.WA DO.Wn DO.Wc])
  have INO := Lib.hid hx.inD
  have OO := Lib.hid (hx.zero.alloc (.cells #[.slice DO.A DO.n DO.c, .slice DO.WA DO.Wn DO.Wc] 25))
  have EO := Lib.hid hex
  have z2 : w1.heap.size ≤ w2.heap.size := hb.size
  replace K0 := Lib.hid ((K0.out.below hb K0.out.lt).alloc (.cells #[.slice DO.A DO.n DO.c, .slice DO.WA DO.Wn DO.Wc] 25))
  replace C0 := Lib.hid (below_alloc (C0.out.trans (hb.mono C0.out.size)) (.cells #[.slice DO.A DO.n DO.c, .slice DO.WA DO.Wn DO.Wc] 25))
  replace D0 := Lib.hid ((D0.out.up hb).alloc (.cells #[.slice DO.A DO.n DO.c, .slice DO.WA DO.Wn DO.Wc] 25))
  replace RL := Lib.hid (((RL.out.below hb).more hb.size).up_alloc (.cells #[.slice DO.A DO.n DO.c, .slice DO.WA DO.Wn DO.Wc] 25))
  clear hx hex hb y0 y1
  have y0 := KO.out.cell 0
  have y1 := KO.out.cell 1
  go_wp2_with fail
  refine (open_any DO _ Xa L ra (by rw [EO.out]; exact HA.out) OO.out.at_).mono ?_
  rintro e3 w3 ⟨Da, Aa, na, ca, rfl, hx, hex, hln, ho, hb⟩
  have Ka := Lib.hid (Blk.new w3 25 #[.slice Da.A Da.n Da.c, .slice Da.WA Da.Wn Da.Wc])
  have Ia : Hid (InD (w2.heap.size + 1) w3.heap.size Da) := by rw [Hid]; simpa using hx.inD
  have Oa := Lib.hid (hx.zero.alloc (.cells #[.slice Da.A Da.n Da.c, .slice Da.WA Da.Wn Da.Wc] 25))
  have Ea := Lib.hid hex
  have z3 : w2.heap.size + 1 ≤ w3.heap.size := by have := hb.size; simpa using this
  have Ra := Lib.hid ((Reads.of_own ho).up_alloc (.cells #[.slice Da.A Da.n Da.c, .slice Da.WA Da.Wn Da.Wc] 25))
  have Na := Lib.hid hln
  replace K0 := Lib.hid ((K0.out.below hb K0.out.lt).alloc (.cells #[.slice Da.A Da.n Da.c, .slice Da.WA Da.Wn Da.Wc] 25))
  replace C0 := Lib.hid (below_alloc (C0.out.trans (hb.mono C0.out.size)) (.cells #[.slice Da.A Da.n Da.c, .slice Da.WA Da.Wn Da.Wc] 25))
  replace D0 := Lib.hid ((D0.out.up hb).alloc (.cells #[.slice Da.A Da.n Da.c, .slice Da.WA Da.Wn Da.Wc] 25))
  replace RL := Lib.hid (((RL.out.below hb).more hb.size).up_alloc (.cells #[.slice Da.A Da.n Da.c, .slice Da.WA Da.Wn Da.Wc] 25))
  replace KO := Lib.hid ((KO.out.below hb KO.out.lt).alloc (.cells #[.slice Da.A Da.n Da.c, .slice Da.WA Da.Wn Da.Wc] 25))
  replace OO := Lib.hid ((OO.out.below hb).alloc (.cells #[.slice Da.A Da.n Da.c, .slice Da.WA Da.Wn Da.Wc] 25))
  clear hx hex hb y0 y1 hln ho
  have y0 := K0.out.cell 0
  have y1 := K0.out.cell 1
  go_wp2_with fail
  refine (ropen_any D _ Xa L ra HA.out D0.out SM.out).mono ?_
  rintro e4 w4 ⟨Db, Ab, nb, cb, rfl, hx, hex, hln, ho, hb⟩
  have Kb := Lib.hid (Blk.new w4 25 #[.slice Db.A Db.n Db.c, .slice Db.WA Db.Wn Db.Wc])
  have Ib : Hid (InD (w3.heap.size + 1) w4.heap.size Db) := by rw [Hid]; simpa using hx.inD
  have Ob := Lib.hid (hx.zero.alloc (.cells #[.slice Db.A Db.n Db.c, .slice Db.WA Db.Wn Db.Wc] 25))
  have Eb := Lib.hid hex
  have z4 : w3.heap.size + 1 ≤ w4.heap.size := by have := hb.size; simpa using this
  have Rb := Lib.hid ((Reads.of_own ho).up_alloc (.cells #[.slice Db.A Db.n Db.c, .slice Db.WA Db.Wn Db.Wc] 25))
  have Nb := Lib.hid hln
  replace K0 := Lib.hid ((K0.out.below hb K0.out.lt).alloc (.cells #[.slice Db.A Db.n Db.c, .slice Db.WA Db.Wn Db.Wc] 25))
  replace C0 := Lib.hid (below_alloc (C0.out.trans (hb.mono C0.out.size)) (.cells #[.slice Db.A Db.n Db.c, .slice Db.WA Db.Wn Db.Wc] 25))
  replace D0 := Lib.hid ((D0.out.up hb).alloc (.cells #[.slice Db.A Db.n Db.c, .slice Db.WA Db.Wn Db.Wc] 25))
  replace RL := Lib.hid (((RL.out.below hb).more hb.size).up_alloc (.cells #[.slice Db.A Db.n Db.c, .slice Db.WA Db.Wn Db.Wc] 25))
  replace KO := Lib.hid ((KO.out.below hb KO.out.lt).alloc (.cells #[.slice Db.A Db.n Db.c, .slice Db.WA Db.Wn Db.Wc] 25))
  replace OO := Lib.hid ((OO.out.below hb).alloc (.cells #[.slice Db.A Db.n Db.c, .slice Db.WA Db.Wn Db.Wc] 25))
  replace Ka := Lib.hid ((Ka.out.below hb Ka.out.lt).alloc (.cells #[.slice Db.A Db.n Db.c, .slice Db.WA Db.Wn Db.Wc] 25))
  replace Oa := Lib.hid ((Oa.out.below hb).alloc (.cells #[.slice Db.A Db.n Db.c, .slice Db.WA Db.Wn Db.Wc] 25))
  replace Ra := Lib.hid (((Ra.out.below hb).more hb.size).up_alloc (.cells #[.slice Db.A Db.n Db.c, .slice Db.WA Db.Wn Db.Wc] 25))
  clear hx hex hb y0 y1 hln ho
  have y0 := KO.out.cell 0
  have y1 := KO.out.cell 1
  go_wp2_with fail
  refine (add_any DO A n c l _ Xx rx (by rw [EO.out]; exact HX.out) OO.out.at_ RL.out (by omega)).mono ?_
  rintro e5 w5 ⟨Dx, rfl, hx, hex, hb⟩
  have Kx := Lib.hid (Blk.new w5 25 #[.slice Dx.A Dx.n Dx.c, .slice Dx.WA Dx.Wn Dx.Wc])
  have Ix : Hid (InD (w4.heap.size + 1) w5.heap.size Dx) := by rw [Hid]; simpa using hx.inD
  have Ox := Lib.hid (hx.zero.alloc (.cells #[.slice Dx.A Dx.n Dx.c, .slice Dx.WA Dx.Wn Dx.Wc] 25))
  have Ex := Lib.hid hex
  have z5 : w4.heap.size + 1 ≤ w5.heap.size := by have := hb.size; simpa using this
  replace K0 := Lib.hid ((K0.out.below hb K0.out.lt).alloc (.cells #[.slice Dx.A Dx.n Dx.c, .slice Dx.WA Dx.Wn Dx.Wc] 25))
  replace C0 := Lib.hid (below_alloc (C0.out.trans (hb.mono C0.out.size)) (.cells #[.slice Dx.A Dx.n Dx.c, .slice Dx.WA Dx.Wn Dx.Wc] 25))
  replace D0 := Lib.hid ((D0.out.up hb).alloc (.cells #[.slice Dx.A Dx.n Dx.c, .slice Dx.WA Dx.Wn Dx.Wc] 25))
  replace RL := Lib.hid (((RL.out.below hb).more hb.size).up_alloc (.cells #[.slice Dx.A Dx.n Dx.c, .slice Dx.WA Dx.Wn Dx.Wc] 25))
  replace KO := Lib.hid ((KO.out.below hb KO.out.lt).alloc (.cells #[.slice Dx.A Dx.n Dx.c, .slice Dx.WA Dx.Wn Dx.Wc] 25))
  replace OO := Lib.hid ((OO.out.below hb).alloc (.cells #[.slice Dx.A Dx.n Dx.c, .slice Dx.WA Dx.Wn Dx.Wc] 25))
  replace Ka := Lib.hid ((Ka.out.below hb Ka.out.lt).alloc (.cells #[.slice Dx.A Dx.n Dx.c, .slice Dx.WA Dx.Wn Dx.Wc] 25))
  replace Oa := Lib.hid ((Oa.out.below hb).alloc (.cells #[.slice Dx.A Dx.n Dx.c, .slice Dx.WA Dx.Wn Dx.Wc] 25))
  replace Ra := Lib.hid (((Ra.out.below hb).more hb.size).up_alloc (.cells #[.slice Dx.A Dx.n Dx.c, .slice Dx.WA Dx.Wn Dx.Wc] 25))
  replace Kb := Lib.hid ((Kb.out.below hb Kb.out.lt).alloc (.cells #[.slice Dx.A Dx.n Dx.c, .slice Dx.WA Dx.Wn Dx.Wc] 25))
  replace Ob := Lib.hid ((Ob.out.below hb).alloc (.cells #[.slice Dx.A Dx.n Dx.c, .slice Dx.WA Dx.Wn Dx.Wc] 25))
  replace Rb := Lib.hid (((Rb.out.below hb).more hb.size).up_alloc (.cells #[.slice Dx.A Dx.n Dx.c, .slice Dx.WA Dx.Wn Dx.Wc] 25))
  clear hx hex hb y0 y1
  have LX := Lib.hid (fun p hp => (Ox.out.all p hp).2)
  have y0 := K0.out.cell 0
  have y1 := K0.out.cell 1
  go_wp2_with fail
  refine (radd_any D A n c l _ Xx rx HX.out D0.out RL.out (by omega) SM.out).mono ?_
  rintro e6 w6 ⟨Dy, rfl, hx, hex, hb⟩
  have Ky := Lib.hid (Blk.new w6 25 #[.slice Dy.A Dy.n Dy.c, .slice Dy.WA Dy.Wn Dy.Wc])
  have Iy : Hid (InD (w5.heap.size + 1) w6.heap.size Dy) := by rw [Hid]; simpa using hx.inD
  have Oy := Lib.hid (hx.zero.alloc (.cells #[.slice Dy.A Dy.n Dy.c, .slice Dy.WA Dy.Wn Dy.Wc] 25))
  have Ey := Lib.hid hex
  have z6 : w5.heap.size + 1 ≤ w6.heap.size := by have := hb.size; simpa using this
  replace K0 := Lib.hid ((K0.out.below hb K0.out.lt).alloc (.cells #[.slice Dy.A Dy.n Dy.c, .slice Dy.WA Dy.Wn Dy.Wc] 25))
  replace C0 := Lib.hid (below_alloc (C0.out.trans (hb.mono C0.out.size)) (.cells #[.slice Dy.A Dy.n Dy.c, .slice Dy.WA Dy.Wn Dy.Wc] 25))
  replace D0 := Lib.hid ((D0.out.up hb).alloc (.cells #[.slice Dy.A Dy.n Dy.c, .slice Dy.WA Dy.Wn Dy.Wc] 25))
  replace RL := Lib.hid (((RL.out.below hb).more hb.size).up_alloc (.cells #[.slice Dy.A Dy.n Dy.c, .slice Dy.WA Dy.Wn Dy.Wc] 25))
  replace KO := Lib.hid ((KO.out.below hb KO.out.lt).alloc (.cells #[.slice Dy.A Dy.n Dy.c, .slice Dy.WA Dy.Wn Dy.Wc] 25))
  replace OO := Lib.hid ((OO.out.below hb).alloc (.cells #[.slice Dy.A Dy.n Dy.c, .slice Dy.WA Dy.Wn Dy.Wc] 25))
  replace Ka := Lib.hid ((Ka.out.below hb Ka.out.lt).alloc (.cells #[.slice Dy.A Dy.n Dy.c, .slice Dy.WA Dy.Wn Dy.Wc] 25))
  replace Oa := Lib.hid ((Oa.out.below hb).alloc (.cells #[.slice Dy.A Dy.n Dy.c, .slice Dy.WA Dy.Wn Dy.Wc] 25))
  replace Ra := Lib.hid (((Ra.out.below hb).more hb.size).up_alloc (.cells #[.slice Dy.A Dy.n Dy.c, .slice Dy.WA Dy.Wn Dy.Wc] 25))
  replace Kb := Lib.hid ((Kb.out.below hb Kb.out.lt).alloc (.cells #[.slice Dy.A Dy.n Dy.c, .slice Dy.WA Dy.Wn Dy.Wc] 25))
  replace Ob := Lib.hid ((Ob.out.below hb).alloc (.cells #[.slice Dy.A Dy.n Dy.c, .slice Dy.WA Dy.Wn Dy.Wc] 25))
  replace Rb := Lib.hid (((Rb.out.below hb).more hb.size).up_alloc (.cells #[.slice Dy.A Dy.n Dy.c, .slice Dy.WA Dy.Wn Dy.Wc] 25))
  replace Kx := Lib.hid ((Kx.out.below hb Kx.out.lt).alloc (.cells #[.slice Dy.A Dy.n Dy.c, .slice Dy.WA Dy.Wn Dy.Wc] 25))
  replace Ox := Lib.hid ((Ox.out.below hb).alloc (.cells #[.slice Dy.A Dy.n Dy.c, .slice Dy.WA Dy.Wn Dy.Wc] 25))
  clear hx hex hb y0 y1
  have y0 := KO.out.cell 0
  have y1 := KO.out.cell 1
  go_wp2_with fail
  refine (reset_any DO A n c l _ Xu ru (by rw [EO.out]; exact HU.out) OO.out.at_ RL.out (by omega)).mono ?_
  rintro e7 w7 ⟨Du, rfl, hx, hex, hb⟩
  have Ku := Lib.hid (Blk.new w7 25 #[.slice Du.A Du.n Du.c, .slice Du.WA Du.Wn Du.Wc])
  have Iu : Hid (InD (w6.heap.size + 1) w7.heap.size Du) := by rw [Hid]; simpa using hx.inD
  have Ou := Lib.hid (hx.zero.alloc (.cells #[.slice Du.A Du.n Du.c, .slice Du.WA Du.Wn Du.Wc] 25))
  have Eu := Lib.hid hex
  have z7 : w6.heap.size + 1 ≤ w7.heap.size := by have := hb.size; simpa using this
  replace K0 := Lib.hid ((K0.out.below hb K0.out.lt).alloc (.cells #[.slice Du.A Du.n Du.c, .slice Du.WA Du.Wn Du.Wc] 25))
  replace C0 := Lib.hid (below_alloc (C0.out.trans (hb.mono C0.out.size)) (.cells #[.slice Du.A Du.n Du.c, .slice Du.WA Du.Wn Du.Wc] 25))
  replace D0 := Lib.hid ((D0.out.up hb).alloc (.cells #[.slice Du.A Du.n Du.c, .slice Du.WA Du.Wn Du.Wc] 25))
  replace RL := Lib.hid (((RL.out.below hb).more hb.size).up_alloc (.cells #[.slice Du.A Du.n Du.c, .slice Du.WA Du.Wn Du.Wc] 25))
  replace KO := Lib.hid ((KO.out.below hb KO.out.lt).alloc (.cells #[.slice Du.A Du.n Du.c, .slice Du.WA Du.Wn Du.Wc] 25))
  replace OO := Lib.hid ((OO.out.below hb).alloc (.cells #[.slice Du.A Du.n Du.c, .slice Du.WA Du.Wn Du.Wc] 25))
  replace Ka := Lib.hid ((Ka.out.below hb Ka.out.lt).alloc (.cells #[.slice Du.A Du.n Du.c, .slice Du.WA Du.Wn Du.Wc] 25))
  replace Oa := Lib.hid ((Oa.out.below hb).alloc (.cells #[.slice Du.A Du.n Du.c, .slice Du.WA Du.Wn Du.Wc] 25))
  replace Ra := Lib.hid (((Ra.out.below hb).more hb.size).up_alloc (.cells #[.slice Du.A Du.n Du.c, .slice Du.WA Du.Wn Du.Wc] 25))
  replace Kb := Lib.hid ((Kb.out.below hb Kb.out.lt).alloc (.cells #[.slice Du.A Du.n Du.c, .slice Du.WA Du.Wn Du.Wc] 25))
  replace Ob := Lib.hid ((Ob.out.below hb).alloc (.cells #[.slice Du.A Du.n Du.c, .slice Du.WA Du.Wn Du.Wc] 25))
  replace Rb := Lib.hid (((Rb.out.below hb).more hb.size).up_alloc (.cells #[.slice Du.A Du.n Du.c, .slice Du.WA Du.Wn Du.Wc] 25))
  replace Kx := Lib.hid ((Kx.out.below hb Kx.out.lt).alloc (.cells #[.slice Du.A Du.n Du.c, .slice Du.WA Du.Wn Du.Wc] 25))
  replace Ox := Lib.hid ((Ox.out.below hb).alloc (.cells #[.slice Du.A Du.n Du.c, .slice Du.WA Du.Wn Du.Wc] 25))
  replace Ky := Lib.hid ((Ky.out.below hb Ky.out.lt).alloc (.cells #[.slice Du.A Du.n Du.c, .slice Du.WA Du.Wn Du.Wc] 25))
  replace Oy := Lib.hid ((Oy.out.below hb).alloc (.cells #[.slice Du.A Du.n Du.c, .slice Du.WA Du.Wn Du.Wc] 25))
  clear hx hex hb y0 y1
  have y0 := K0.out.cell 0
  have y1 := K0.out.cell 1
  go_wp2_with fail
  refine (rreset_any D A n c l _ Xu ru HU.out D0.out RL.out (by omega) SM.out).mono ?_
  rintro e8 w8 ⟨Dv, rfl, hx, hex, hb⟩
  have Kv := Lib.hid (Blk.new w8 25 #[.slice Dv.A Dv.n Dv.c, .slice Dv.WA Dv.Wn Dv.Wc])
  have Iv : Hid (InD (w7.heap.size + 1) w8.heap.size Dv) := by rw [Hid]; simpa using hx.inD
  have Ov := Lib.hid (hx.zero.alloc (.cells #[.slice Dv.A Dv.n Dv.c, .slice Dv.WA Dv.Wn Dv.Wc] 25))
  have Ev := Lib.hid hex
  have z8 : w7.heap.size + 1 ≤ w8.heap.size := by have := hb.size; simpa using this
  replace K0 := Lib.hid ((K0.out.below hb K0.out.lt).alloc (.cells #[.slice Dv.A Dv.n Dv.c, .slice Dv.WA Dv.Wn Dv.Wc] 25))
  replace C0 := Lib.hid (below_alloc (C0.out.trans (hb.mono C0.out.size)) (.cells #[.slice Dv.A Dv.n Dv.c, .slice Dv.WA Dv.Wn Dv.Wc] 25))
  replace D0 := Lib.hid ((D0.out.up hb).alloc (.cells #[.slice Dv.A Dv.n Dv.c, .slice Dv.WA Dv.Wn Dv.Wc] 25))
  replace RL := Lib.hid (((RL.out.below hb).more hb.size).up_alloc (.cells #[.slice Dv.A Dv.n Dv.c, .slice Dv.WA Dv.Wn Dv.Wc] 25))
  replace KO := Lib.hid ((KO.out.below hb KO.out.lt).alloc (.cells #[.slice Dv.A Dv.n Dv.c, .slice Dv.WA Dv.Wn Dv.Wc] 25))
  replace OO := Lib.hid ((OO.out.below hb).alloc (.cells #[.slice Dv.A Dv.n Dv.c, .slice Dv.WA Dv.Wn Dv.Wc] 25))
  replace Ka := Lib.hid ((Ka.out.below hb Ka.out.lt).alloc (.cells #[.slice Dv.A Dv.n Dv.c, .slice Dv.WA Dv.Wn Dv.Wc] 25))
  replace Oa := Lib.hid ((Oa.out.below hb).alloc (.cells #[.slice Dv.A Dv.n Dv.c, .slice Dv.WA Dv.Wn Dv.Wc] 25))
  replace Ra := Lib.hid (((Ra.out.below hb).more hb.size).up_alloc (.cells #[.slice Dv.A Dv.n Dv.c, .slice Dv.WA Dv.Wn Dv.Wc] 25))
  replace Kb := Lib.hid ((Kb.out.below hb Kb.out.lt).alloc (.cells #[.slice Dv.A Dv.n Dv.c, .slice Dv.WA Dv.Wn Dv.Wc] 25))
  replace Ob := Lib.hid ((Ob.out.below hb).alloc (.cells #[.slice Dv.A Dv.n Dv.c, .slice Dv.WA Dv.Wn Dv.Wc] 25))
  replace Rb := Lib.hid (((Rb.out.below hb).more hb.size).up_alloc (.cells #[.slice Dv.A Dv.n Dv.c, .slice Dv.WA Dv.Wn Dv.Wc] 25))
  replace Kx := Lib.hid ((Kx.out.below hb Kx.out.lt).alloc (.cells #[.slice Dv.A Dv.n Dv.c, .slice Dv.WA Dv.Wn Dv.Wc] 25))
  replace Ox := Lib.hid ((Ox.out.below hb).alloc (.cells #[.slice Dv.A Dv.n Dv.c, .slice Dv.WA Dv.Wn Dv.Wc] 25))
  replace Ky := Lib.hid ((Ky.out.below hb Ky.out.lt).alloc (.cells #[.slice Dv.A Dv.n Dv.c, .slice Dv.WA Dv.Wn Dv.Wc] 25))
  replace Oy := Lib.hid ((Oy.out.below hb).alloc (.cells #[.slice Dv.A Dv.n Dv.c, .slice Dv.WA Dv.Wn Dv.Wc] 25))
  replace Ku := Lib.hid ((Ku.out.below hb Ku.out.lt).alloc (.cells #[.slice Dv.A Dv.n Dv.c, .slice Dv.WA Dv.Wn Dv.Wc] 25))
  replace Ou := Lib.hid ((Ou.out.below hb).alloc (.cells #[.slice Dv.A Dv.n Dv.c, .slice Dv.WA Dv.Wn Dv.Wc] 25))
  clear hx hex hb y0 y1
  clear RL D0
  have hnl := Oa.out.lim
  have hxl := Ox.out.lim
  have hxw := Ox.out.wlim
  have y0 := Ka.out.cell 0
  have y1 := Ka.out.cell 1
  have x0 := Kb.out.cell 0
  have x1 := Kb.out.cell 1
  go_wp2_with fail
  refine (rsame_yes Da Db _ Oa.out.at_ Ob.out.at_ (by rw [Ea.out, Eb.out])).mono ?_
  rintro e9 V1 ⟨rfl, hb⟩
  have z9 := hb.size
  replace K0 := Lib.hid (K0.out.below hb K0.out.lt)
  replace C0 := Lib.hid (C0.out.trans (hb.mono C0.out.size))
  replace KO := Lib.hid (KO.out.below hb KO.out.lt)
  replace OO := Lib.hid (OO.out.below hb)
  replace Ka := Lib.hid (Ka.out.below hb Ka.out.lt)
  replace Oa := Lib.hid (Oa.out.below hb)
  replace Ra := Lib.hid ((Ra.out.below hb).more hb.size)
  replace Kb := Lib.hid (Kb.out.below hb Kb.out.lt)
  replace Ob := Lib.hid (Ob.out.below hb)
  replace Rb := Lib.hid ((Rb.out.below hb).more hb.size)
  replace Kx := Lib.hid (Kx.out.below hb Kx.out.lt)
  replace Ox := Lib.hid (Ox.out.below hb)
  replace Ky := Lib.hid (Ky.out.below hb Ky.out.lt)
  replace Oy := Lib.hid (Oy.out.below hb)
  replace Ku := Lib.hid (Ku.out.below hb Ku.out.lt)
  replace Ou := Lib.hid (Ou.out.below hb)
  replace Kv := Lib.hid (Kv.out.below hb Kv.out.lt)
  replace Ov := Lib.hid (Ov.out.below hb)
  clear hb y0 y1 x0 x1 Ea Eb
  simp only [World.size_alloc] at z9
  clear Kb Ob
  have hna : na ≤ 1000000000000 := by have h1 := LL.out; have h2 := Na.out; omega
  go_wp2_with fail
  refine (sameTexts_yes Aa na ca Ab nb cb _ _ _ _ _ Ra.out Rb.out hna rfl).mono ?_
  rintro e10 w10 ⟨rfl, q, rfl⟩
  have hb := below_drewN (Below.refl V1.heap.size V1) q
  have z10 := hb.size
  replace K0 := Lib.hid (K0.out.below hb K0.out.lt)
  replace C0 := Lib.hid (C0.out.trans (hb.mono C0.out.size))
  replace KO := Lib.hid (KO.out.below hb KO.out.lt)
  replace OO := Lib.hid (OO.out.below hb)
  replace Ka := Lib.hid (Ka.out.below hb Ka.out.lt)
  replace Oa := Lib.hid (Oa.out.below hb)
  replace Ra := Lib.hid ((Ra.out.below hb).more hb.size)
  replace Rb := Lib.hid ((Rb.out.below hb).more hb.size)
  replace Kx := Lib.hid (Kx.out.below hb Kx.out.lt)
  replace Ox := Lib.hid (Ox.out.below hb)
  replace Ky := Lib.hid (Ky.out.below hb Ky.out.lt)
  replace Oy := Lib.hid (Oy.out.below hb)
  replace Ku := Lib.hid (Ku.out.below hb Ku.out.lt)
  replace Ou := Lib.hid (Ou.out.below hb)
  replace Kv := Lib.hid (Kv.out.below hb Kv.out.lt)
  replace Ov := Lib.hid (Ov.out.below hb)
  clear hb hna
  clear Ra Rb
  generalize V1.drewN q = V2 at *
  have y0 := Kx.out.cell 0
  have y1 := Kx.out.cell 1
  have x0 := Ky.out.cell 0
  have x1 := Ky.out.cell 1
  go_wp2_with fail
  refine (rsame_yes Dx Dy _ Ox.out.at_ Oy.out.at_ (by rw [Ex.out, Ey.out])).mono ?_
  rintro e11 V3 ⟨rfl, hb⟩
  have z11 := hb.size
  replace K0 := Lib.hid (K0.out.below hb K0.out.lt)
  replace C0 := Lib.hid (C0.out.trans (hb.mono C0.out.size))
  replace KO := Lib.hid (KO.out.below hb KO.out.lt)
  replace OO := Lib.hid (OO.out.below hb)
  replace Ka := Lib.hid (Ka.out.below hb Ka.out.lt)
  replace Oa := Lib.hid (Oa.out.below hb)
  replace Kx := Lib.hid (Kx.out.below hb Kx.out.lt)
  replace Ox := Lib.hid (Ox.out.below hb)
  replace Ky := Lib.hid (Ky.out.below hb Ky.out.lt)
  replace Oy := Lib.hid (Oy.out.below hb)
  replace Ku := Lib.hid (Ku.out.below hb Ku.out.lt)
  replace Ou := Lib.hid (Ou.out.below hb)
  replace Kv := Lib.hid (Kv.out.below hb Kv.out.lt)
  replace Ov := Lib.hid (Ov.out.below hb)
  clear hb y0 y1 x0 x1 Ex Ey
  clear Ky Oy
  have y0 := Ku.out.cell 0
  have y1 := Ku.out.cell 1
  have x0 := Kv.out.cell 0
  have x1 := Kv.out.cell 1
  go_wp2_with fail
  refine (rsame_yes Du Dv _ Ou.out.at_ Ov.out.at_ (by rw [Eu.out, Ev.out])).mono ?_
  rintro e12 V0 ⟨rfl, hb⟩
  have z12 := hb.size
  replace K0 := Lib.hid (K0.out.below hb K0.out.lt)
  replace C0 := Lib.hid (C0.out.trans (hb.mono C0.out.size))
  replace KO := Lib.hid (KO.out.below hb KO.out.lt)
  replace OO := Lib.hid (OO.out.below hb)
  replace Ka := Lib.hid (Ka.out.below hb Ka.out.lt)
  replace Oa := Lib.hid (Oa.out.below hb)
  replace Kx := Lib.hid (Kx.out.below hb Kx.out.lt)
  replace Ox := Lib.hid (Ox.out.below hb)
  replace Ku := Lib.hid (Ku.out.below hb Ku.out.lt)
  replace Ou := Lib.hid (Ou.out.below hb)
  replace Kv := Lib.hid (Kv.out.below hb Kv.out.lt)
  replace Ov := Lib.hid (Ov.out.below hb)
  clear hb y0 y1 x0 x1 Eu Ev
  clear Ku Kv Ou Ov
  clear Iu Iv Iy Ib Na Nb LL HA HX HU SM
  have zA : w3.heap.size ≤ V0.heap.size := by omega
  have T0 : Hid (Touch (w2.heap.size + 1) w3.heap.size V0 V0) := Touch.of_below (Below.refl _ V0) (Nat.le_refl _)
  have B0 := Lib.hid Oa.out.own_b
  go_wp2
  go_loopw [20] (fun y wr => ∃ k : Nat, y = .int .i64 (k : Int) ∧ k ≤ Da.n ∧ Touch (w2.heap.size + 1) w3.heap.size V0 wr ∧ OwnB wr Da ∧ Blk wr w3.heap.size 25 #[.slice Da.A Da.n Da.c, .slice Da.WA Da.Wn Da.Wc]) (fun y _ => Da.n - (intOf y).toNat)
  case atStart => exact ⟨0, rfl, Nat.zero_le _, T0.out, B0.out, Ka.out⟩
  case round =>
    obtain ⟨k, rfl, hk, h1, h2, h3⟩ := hrel
    have T1 := Lib.hid h1
    have O1 := Lib.hid h2
    have K1 := Lib.hid h3
    have y0 := h3.cell 0
    have y1 := h3.cell 1
    clear h1 h2 h3 T0 B0 Ka
    by_cases hlt : k < Da.n
    · obtain ⟨g, cs, b, hA, hb, hc, hob⟩ := O1.out.rd.at_ hlt
      have hgl := Ia.out.data g hob
      rw [hA] at y0
      clear hA
      have HB := Lib.hid hb
      have HC := Lib.hid hc
      have hfz := hb.frozen k
      have hbt := b.toNat_lt
      clear hb hc hob
      go_wp2_with fail
      have HS0 : Hid (wr.drew.cell? ⟨w3.heap.size, 0, none⟩ = some (.slice (some ⟨g, 0, none⟩) Da.n Da.c) ∧ wr.drew.cell? ⟨g, k, none⟩ = some (.int .u8 (b.toNat : Int))) := ⟨y0, HC.out⟩
      refine T_region 10 (fun w' => w'.cell? ⟨w3.heap.size, 0, none⟩ = some (.slice (some ⟨g, 0, none⟩) Da.n Da.c) ∧ w'.cell? ⟨g, k, none⟩ = some (.int .u8 (b.toNat : Int))) (by kernel_rfl) (by kernel_rfl) ?_
      refine T_takeL (i := 0) (v := ?_) rfl (by kernel_rfl) (fun _ _ _ h => h) (Or.inl ⟨by rfl, ?_⟩) HS0.out ?_
      rotate_left
      · ((intro w hSw; (try dsimp only at hSw); go_simp) <;> with_reducible rfl)
      try simp only [Act.put, List.setIfInBounds_toArray, List.set_cons_zero, List.set_cons_succ]
      refine T_takeL (i := 1) (v := ?_) rfl (by kernel_rfl) (fun _ _ _ h => h) (Or.inl ⟨by rfl, ?_⟩) HS0.out ?_
      rotate_left
      · ((intro w hSw; (try dsimp only at hSw); go_simp) <;> with_reducible rfl)
      try simp only [Act.put, List.setIfInBounds_toArray, List.set_cons_zero, List.set_cons_succ]
      refine T_takeL (i := 2) (v := ?_) rfl (by kernel_rfl) (fun _ _ _ h => h) (Or.inl ⟨by rfl, ?_⟩) HS0.out ?_
      rotate_left
      · ((intro w hSw; (try dsimp only at hSw); go_simp) <;> with_reducible rfl)
      try simp only [Act.put, List.setIfInBounds_toArray, List.set_cons_zero, List.set_cons_succ]
      refine T_takeL (i := 3) (v := ?_) rfl (by kernel_rfl) (fun _ _ _ h => h) (Or.inl ⟨by rfl, ?_⟩) HS0.out ?_
      rotate_left
      · ((intro w hSw; (try dsimp only at hSw); go_simp) <;> with_reducible rfl)
      try simp only [Act.put, List.setIfInBounds_toArray, List.set_cons_zero, List.set_cons_succ]
      refine T_takeL (i := 4) (v := ?_) rfl (by kernel_rfl) (fun _ _ _ h => h) (Or.inl ⟨by rfl, ?_⟩) HS0.out ?_
      rotate_left
      · ((intro w hSw; (try dsimp only at hSw); go_simp) <;> with_reducible rfl)
      try simp only [Act.put, List.setIfInBounds_toArray, List.set_cons_zero, List.set_cons_succ]
      refine T_takeL (i := 5) (v := ?_) rfl (by kernel_rfl) (fun _ _ _ h => h) (Or.inl ⟨by rfl, ?_⟩) HS0.out ?_
      rotate_left
      · ((intro w hSw; (try dsimp only at hSw); go_simp) <;> with_reducible rfl)
      try simp only [Act.put, List.setIfInBounds_toArray, List.set_cons_zero, List.set_cons_succ]
      refine T_takeL (i := 6) (v := ?_) rfl (by kernel_rfl) (fun _ _ _ h => h) (Or.inl ⟨by rfl, ?_⟩) HS0.out ?_
      rotate_left
      · ((intro w hSw; (try dsimp only at hSw); go_simp) <;> with_reducible rfl)
      try simp only [Act.put, List.setIfInBounds_toArray, List.set_cons_zero, List.set_cons_succ]
      refine T_takeL (i := 7) (v := ?_) rfl (by kernel_rfl) (fun _ _ _ h => h) (Or.inl ⟨by rfl, ?_⟩) HS0.out ?_
      rotate_left
      · ((intro w hSw; (try dsimp only at hSw); go_simp) <;> with_reducible rfl)
      try simp only [Act.put, List.setIfInBounds_toArray, List.set_cons_zero, List.set_cons_succ]
      refine T_takeL (i := 8) (v := ?_) rfl (by kernel_rfl) (fun _ _ _ h => h) (Or.inl ⟨by rfl, ?_⟩) HS0.out ?_
      rotate_left
      · ((intro w hSw; (try dsimp only at hSw); go_simp) <;> with_reducible rfl)
      try simp only [Act.put, List.setIfInBounds_toArray, List.set_cons_zero, List.set_cons_succ]
      refine T_takeL (i := 9) (v := ?_) rfl (by kernel_rfl) (fun _ _ _ h => h) (Or.inl ⟨by rfl, ?_⟩) HS0.out ?_
      rotate_left
      · ((intro w hSw; (try dsimp only at hSw); go_simp) <;> with_reducible rfl)
      try simp only [Act.put, List.setIfInBounds_toArray, List.set_cons_zero, List.set_cons_succ]
      refine T_end (by kernel_rfl) ?_
      have c0 := HC.out
      go_wp2
      go_roundw
      case rel => exact ⟨k + 1, by go_num, by omega, (T1.out.setCell (p := ⟨g, k, none⟩) hgl.1 hgl.2 _).drew, (O1.out.set_ HB.out k _ (by omega) (by omega)).drew, (K1.out.far (p := ⟨g, k, none⟩) (by show w3.heap.size ≠ g; omega) _).drew⟩
      case measure => simp [intOf]; omega
    have hkn : ¬ (k : Int) < (Da.n : Int) := by omega
    have hV := T1.out.size
    replace C0 := Lib.hid (C0.out.trans (T1.out.below (by omega) C0.out.size))
    replace OO := Lib.hid (OO.out.touch INO.out T1.out (by omega))
    replace K0 := Lib.hid (T1.out.blk K0.out (by omega))
    replace KO := Lib.hid (T1.out.blk KO.out (by omega))
    replace Kx := Lib.hid (T1.out.blk Kx.out (by omega))
    replace Ox := Lib.hid (Ox.out.touch Ix.out T1.out (by omega))
    have T0 : Hid (Touch (w4.heap.size + 1) w5.heap.size wr wr) := Touch.of_below (Below.refl _ wr) (Nat.le_refl _)
    have B0 := Lib.hid Ox.out.own_b
    go_wp2
    clear T1 O1 K1 y0 y1 hkn hlt hk Oa Ia
    generalize wr = V5 at *
    go_loopw [21] (fun y wr => ∃ k : Nat, y = .int .i64 (k : Int) ∧ k ≤ Dx.n ∧ Touch (w4.heap.size + 1) w5.heap.size V5 wr ∧ OwnB wr Dx ∧ Blk wr w5.heap.size 25 #[.slice Dx.A Dx.n Dx.c, .slice Dx.WA Dx.Wn Dx.Wc]) (fun y _ => Dx.n - (intOf y).toNat)
    case atStart => exact ⟨0, rfl, Nat.zero_le _, T0.out, B0.out, Kx.out⟩
    case round =>
      obtain ⟨k, rfl, hk, h1, h2, h3⟩ := hrel
      have T1 := Lib.hid h1
      have O1 := Lib.hid h2
      have K1 := Lib.hid h3
      have y0 := h3.cell 0
      have y1 := h3.cell 1
      clear h1 h2 h3 T0 B0 Kx
      by_cases hlt : k < Dx.n
      · obtain ⟨g, cs, b, hA, hb, hc, hob⟩ := O1.out.rd.at_ hlt
        have hgl := Ix.out.data g hob
        rw [hA] at y0
        clear hA
        have HB := Lib.hid hb
        have HC := Lib.hid hc
        have hfz := hb.frozen k
        have hbt := b.toNat_lt
        clear hb hc hob
        go_wp2_with fail
        have HS0 : Hid (wr.drew.cell? ⟨w5.heap.size, 0, none⟩ = some (.slice (some ⟨g, 0, none⟩) Dx.n Dx.c) ∧ wr.drew.cell? ⟨g, k, none⟩ = some (.int .u8 (b.toNat : Int))) := ⟨y0, HC.out⟩
        refine T_region 10 (fun w' => w'.cell? ⟨w5.heap.size, 0, none⟩ = some (.slice (some ⟨g, 0, none⟩) Dx.n Dx.c) ∧ w'.cell? ⟨g, k, none⟩ = some (.int .u8 (b.toNat : Int))) (by kernel_rfl) (by kernel_rfl) ?_
        refine T_takeL (i := 0) (v := ?_) rfl (by kernel_rfl) (fun _ _ _ h => h) (Or.inl ⟨by rfl, ?_⟩) HS0.out ?_
        rotate_left
        · ((intro w hSw; (try dsimp only at hSw); go_simp) <;> with_reducible rfl)
        try simp only [Act.put, List.setIfInBounds_toArray, List.set_cons_zero, List.set_cons_succ]
        refine T_takeL (i := 1) (v := ?_) rfl (by kernel_rfl) (fun _ _ _ h => h) (Or.inl ⟨by rfl, ?_⟩) HS0.out ?_
        rotate_left
        · ((intro w hSw; (try dsimp only at hSw); go_simp) <;> with_reducible rfl)
        try simp only [Act.put, List.setIfInBounds_toArray, List.set_cons_zero, List.set_cons_succ]
        refine T_takeL (i := 2) (v := ?_) rfl (by kernel_rfl) (fun _ _ _ h => h) (Or.inl ⟨by rfl, ?_⟩) HS0.out ?_
        rotate_left
        · ((intro w hSw; (try dsimp only at hSw); go_simp) <;> with_reducible rfl)
        try simp only [Act.put, List.setIfInBounds_toArray, List.set_cons_zero, List.set_cons_succ]
        refine T_takeL (i := 3) (v := ?_) rfl (by kernel_rfl) (fun _ _ _ h => h) (Or.inl ⟨by rfl, ?_⟩) HS0.out ?_
        rotate_left
        · ((intro w hSw; (try dsimp only at hSw); go_simp) <;> with_reducible rfl)
        try simp only [Act.put, List.setIfInBounds_toArray, List.set_cons_zero, List.set_cons_succ]
        refine T_takeL (i := 4) (v := ?_) rfl (by kernel_rfl) (fun _ _ _ h => h) (Or.inl ⟨by rfl, ?_⟩) HS0.out ?_
        rotate_left
        · ((intro w hSw; (try dsimp only at hSw); go_simp) <;> with_reducible rfl)
        try simp only [Act.put, List.setIfInBounds_toArray, List.set_cons_zero, List.set_cons_succ]
        refine T_takeL (i := 5) (v := ?_) rfl (by kernel_rfl) (fun _ _ _ h => h) (Or.inl ⟨by rfl, ?_⟩) HS0.out ?_
        rotate_left
        · ((intro w hSw; (try dsimp only at hSw); go_simp) <;> with_reducible rfl)
        try simp only [Act.put, List.setIfInBounds_toArray, List.set_cons_zero, List.set_cons_succ]
        refine T_takeL (i := 6) (v := ?_) rfl (by kernel_rfl) (fun _ _ _ h => h) (Or.inl ⟨by rfl, ?_⟩) HS0.out ?_
        rotate_left
        · ((intro w hSw; (try dsimp only at hSw); go_simp) <;> with_reducible rfl)
        try simp only [Act.put, List.setIfInBounds_toArray, List.set_cons_zero, List.set_cons_succ]
        refine T_takeL (i := 7) (v := ?_) rfl (by kernel_rfl) (fun _ _ _ h => h) (Or.inl ⟨by rfl, ?_⟩) HS0.out ?_
        rotate_left
        · ((intro w hSw; (try dsimp only at hSw); go_simp) <;> with_reducible rfl)
        try simp only [Act.put, List.setIfInBounds_toArray, List.set_cons_zero, List.set_cons_succ]
        refine T_takeL (i := 8) (v := ?_) rfl (by kernel_rfl) (fun _ _ _ h => h) (Or.inl ⟨by rfl, ?_⟩) HS0.out ?_
        rotate_left
        · ((intro w hSw; (try dsimp only at hSw); go_simp) <;> with_reducible rfl)
        try simp only [Act.put, List.setIfInBounds_toArray, List.set_cons_zero, List.set_cons_succ]
        refine T_takeL (i := 9) (v := ?_) rfl (by kernel_rfl) (fun _ _ _ h => h) (Or.inl ⟨by rfl, ?_⟩) HS0.out ?_
        rotate_left
        · ((intro w hSw; (try dsimp only at hSw); go_simp) <;> with_reducible rfl)
        try simp only [Act.put, List.setIfInBounds_toArray, List.set_cons_zero, List.set_cons_succ]
        refine T_end (by kernel_rfl) ?_
        have c0 := HC.out
        go_wp2
        go_roundw
        case rel => exact ⟨k + 1, by go_num, by omega, (T1.out.setCell (p := ⟨g, k, none⟩) hgl.1 hgl.2 _).drew, (O1.out.set_ HB.out k _ (by omega) (by omega)).drew, (K1.out.far (p := ⟨g, k, none⟩) (by show w5.heap.size ≠ g; omega) _).drew⟩
        case measure => simp [intOf]; omega
      have hkn : ¬ (k : Int) < (Dx.n : Int) := by omega
      go_wp2
      go_loopw [22] (fun y wr => ∃ k : Nat, y = .int .i64 (k : Int) ∧ k ≤ Dx.Wn ∧ Touch (w4.heap.size + 1) w5.heap.size V5 wr ∧ OwnB wr Dx ∧ Blk wr w5.heap.size 25 #[.slice Dx.A Dx.n Dx.c, .slice Dx.WA Dx.Wn Dx.Wc]) (fun y _ => Dx.Wn - (intOf y).toNat)
      case atStart => exact ⟨0, rfl, Nat.zero_le _, T1.out, O1.out, K1.out⟩
      case round =>
        obtain ⟨i, rfl, hi', h1, h2, h3⟩ := hrel
        have T2 := Lib.hid h1
        have O2 := Lib.hid h2
        have K2 := Lib.hid h3
        have x1 := h3.cell 1
        clear h1 h2 h3 T1 O1 K1 y0 y1
        by_cases hit : i < Dx.Wn
        · obtain ⟨gw, p, hA, hmm⟩ := O2.out.put hit
          have hpm := List.mem_of_getElem? hmm
          have hpl := LX.out p hpm
          rw [hA] at x1
          have HA := Lib.hid hA
          have HM := Lib.hid hmm
          have HPM := Lib.hid hpm
          have p1 := O2.out.put_at hA hmm
          clear hA hmm hpm
          go_wp2
          go_loopw [23] (fun y wr => ∃ k : Nat, y = .int .i64 (k : Int) ∧ k ≤ p.n ∧ Touch (w4.heap.size + 1) w5.heap.size V5 wr ∧ OwnB wr Dx ∧ Blk wr w5.heap.size 25 #[.slice Dx.A Dx.n Dx.c, .slice Dx.WA Dx.Wn Dx.Wc]) (fun y _ => p.n - (intOf y).toNat)
          case atStart => exact ⟨0, rfl, Nat.zero_le _, T2.out, O2.out, K2.out⟩
          case round =>
            obtain ⟨k, rfl, hk, h1, h2, h3⟩ := hrel
            have T3 := Lib.hid h1
            have O3 := Lib.hid h2
            have K3 := Lib.hid h3
            have x3 := h3.cell 1
            rw [HA.out] at x3
            have p3 := h2.put_at HA.out HM.out
            clear h1 h2 h3 T2 O2 K2 x1 p1
            by_cases hlt : k < p.n
            · obtain ⟨g, cs, b, hpA, hb, hc, hob⟩ := (O3.out.all p HPM.out).at_ hlt
              have hgl := Ix.out.all p HPM.out g hob
              rw [hpA] at p3
              have HB := Lib.hid hb
              have HC := Lib.hid hc
              have hfz := hb.frozen k
              have hbt := b.toNat_lt
              clear hb hc hob hpA
              go_wp2_with fail
              have HS0 : Hid (wr.drew.cell? ⟨w5.heap.size, 1, none⟩ = some (.slice (some ⟨gw, 0, none⟩) Dx.Wn Dx.Wc) ∧ wr.drew.cell? ⟨gw, i * 2 + 1, none⟩ = some (.slice (some ⟨g, 0, none⟩) p.n p.c) ∧ wr.drew.cell? ⟨g, k, none⟩ = some (.int .u8 (b.toNat : Int))) := ⟨x3, p3, HC.out⟩
              refine T_region 18 (fun w' => w'.cell? ⟨w5.heap.size, 1, none⟩ = some (.slice (some ⟨gw, 0, none⟩) Dx.Wn Dx.Wc) ∧ w'.cell? ⟨gw, i * 2 + 1, none⟩ = some (.slice (some ⟨g, 0, none⟩) p.n p.c) ∧ w'.cell? ⟨g, k, none⟩ = some (.int .u8 (b.toNat : Int))) (by kernel_rfl) (by kernel_rfl) ?_
              refine T_takeL (i := 0) (v := ?_) rfl (by kernel_rfl) (fun _ _ _ h => h) (Or.inl ⟨by rfl, ?_⟩) HS0.out ?_
              rotate_left
              · ((intro w hSw; (try dsimp only at hSw); go_simp) <;> with_reducible rfl)
              try simp only [Act.put, List.setIfInBounds_toArray, List.set_cons_zero, List.set_cons_succ]
              refine T_takeL (i := 1) (v := ?_) rfl (by kernel_rfl) (fun _ _ _ h => h) (Or.inl ⟨by rfl, ?_⟩) HS0.out ?_
              rotate_left
              · ((intro w hSw; (try dsimp only at hSw); go_simp) <;> with_reducible rfl)
              try simp only [Act.put, List.setIfInBounds_toArray, List.set_cons_zero, List.set_cons_succ]
              refine T_takeL (i := 2) (v := ?_) rfl (by kernel_rfl) (fun _ _ _ h => h) (Or.inl ⟨by rfl, ?_⟩) HS0.out ?_
              rotate_left
              · ((intro w hSw; (try dsimp only at hSw); go_simp) <;> with_reducible rfl)
              try simp only [Act.put, List.setIfInBounds_toArray, List.set_cons_zero, List.set_cons_succ]
              refine T_takeL (i := 3) (v := ?_) rfl (by kernel_rfl) (fun _ _ _ h => h) (Or.inl ⟨by rfl, ?_⟩) HS0.out ?_
              rotate_left
              · ((intro w hSw; (try dsimp only at hSw); go_simp) <;> with_reducible rfl)
              try simp only [Act.put, List.setIfInBounds_toArray, List.set_cons_zero, List.set_cons_succ]
              refine T_takeL (i := 4) (v := ?_) rfl (by kernel_rfl) (fun _ _ _ h => h) (Or.inl ⟨by rfl, ?_⟩) HS0.out ?_
              rotate_left
              · ((intro w hSw; (try dsimp only at hSw); go_simp) <;> with_reducible rfl)
              try simp only [Act.put, List.setIfInBounds_toArray, List.set_cons_zero, List.set_cons_succ]
              refine T_takeL (i := 5) (v := ?_) rfl (by kernel_rfl) (fun _ _ _ h => h) (Or.inl ⟨by rfl, ?_⟩) HS0.out ?_
              rotate_left
              · ((intro w hSw; (try dsimp only at hSw); go_simp) <;> with_reducible rfl)
              try simp only [Act.put, List.setIfInBounds_toArray, List.set_cons_zero, List.set_cons_succ]
              refine T_takeL (i := 6) (v := ?_) rfl (by kernel_rfl) (fun _ _ _ h => h) (Or.inl ⟨by rfl, ?_⟩) HS0.out ?_
              rotate_left
              · ((intro w hSw; (try dsimp only at hSw); go_simp) <;> with_reducible rfl)
              try simp only [Act.put, List.setIfInBounds_toArray, List.set_cons_zero, List.set_cons_succ]
              refine T_takeL (i := 7) (v := ?_) rfl (by kernel_rfl) (fun _ _ _ h => h) (Or.inl ⟨by rfl, ?_⟩) HS0.out ?_
              rotate_left
              · ((intro w hSw; (try dsimp only at hSw); go_simp) <;> with_reducible rfl)
              try simp only [Act.put, List.setIfInBounds_toArray, List.set_cons_zero, List.set_cons_succ]
              refine T_takeL (i := 8) (v := ?_) rfl (by kernel_rfl) (fun _ _ _ h => h) (Or.inl ⟨by rfl, ?_⟩) HS0.out ?_
              rotate_left
              · ((intro w hSw; (try dsimp only at hSw); go_simp) <;> with_reducible rfl)
              try simp only [Act.put, List.setIfInBounds_toArray, List.set_cons_zero, List.set_cons_succ]
              refine T_takeL (i := 9) (v := ?_) rfl (by kernel_rfl) (fun _ _ _ h => h) (Or.inl ⟨by rfl, ?_⟩) HS0.out ?_
              rotate_left
              · ((intro w hSw; (try dsimp only at hSw); go_simp) <;> with_reducible rfl)
              try simp only [Act.put, List.setIfInBounds_toArray, List.set_cons_zero, List.set_cons_succ]
              refine T_takeL (i := 10) (v := ?_) rfl (by kernel_rfl) (fun _ _ _ h => h) (Or.inl ⟨by rfl, ?_⟩) HS0.out ?_
              rotate_left
              · ((intro w hSw; (try dsimp only at hSw); go_simp) <;> with_reducible rfl)
              try simp only [Act.put, List.setIfInBounds_toArray, List.set_cons_zero, List.set_cons_succ]
              refine T_takeL (i := 11) (v := ?_) rfl (by kernel_rfl) (fun _ _ _ h => h) (Or.inl ⟨by rfl, ?_⟩) HS0.out ?_
              rotate_left
              · ((intro w hSw; (try dsimp only at hSw); go_simp) <;> with_reducible rfl)
              try simp only [Act.put, List.setIfInBounds_toArray, List.set_cons_zero, List.set_cons_succ]
              refine T_takeL (i := 12) (v := ?_) rfl (by kernel_rfl) (fun _ _ _ h => h) (Or.inl ⟨by rfl, ?_⟩) HS0.out ?_
              rotate_left
              · ((intro w hSw; (try dsimp only at hSw); go_simp) <;> with_reducible rfl)
              try simp only [Act.put, List.setIfInBounds_toArray, List.set_cons_zero, List.set_cons_succ]
              refine T_takeL (i := 13) (v := ?_) rfl (by kernel_rfl) (fun _ _ _ h => h) (Or.inl ⟨by rfl, ?_⟩) HS0.out ?_
              rotate_left
              · ((intro w hSw; (try dsimp only at hSw); go_simp) <;> with_reducible rfl)
              try simp only [Act.put, List.setIfInBounds_toArray, List.set_cons_zero, List.set_cons_succ]
              refine T_takeL (i := 14) (v := ?_) rfl (by kernel_rfl) (fun _ _ _ h => h) (Or.inl ⟨by rfl, ?_⟩) HS0.out ?_
              rotate_left
              · ((intro w hSw; (try dsimp only at hSw); go_simp) <;> with_reducible rfl)
              try simp only [Act.put, List.setIfInBounds_toArray, List.set_cons_zero, List.set_cons_succ]
              refine T_takeL (i := 15) (v := ?_) rfl (by kernel_rfl) (fun _ _ _ h => h) (Or.inl ⟨by rfl, ?_⟩) HS0.out ?_
              rotate_left
              · ((intro w hSw; (try dsimp only at hSw); go_simp) <;> with_reducible rfl)
              try simp only [Act.put, List.setIfInBounds_toArray, List.set_cons_zero, List.set_cons_succ]
              refine T_takeL (i := 16) (v := ?_) rfl (by kernel_rfl) (fun _ _ _ h => h) (Or.inl ⟨by rfl, ?_⟩) HS0.out ?_
              rotate_left
              · ((intro w hSw; (try dsimp only at hSw); go_simp) <;> with_reducible rfl)
              try simp only [Act.put, List.setIfInBounds_toArray, List.set_cons_zero, List.set_cons_succ]
              refine T_takeL (i := 17) (v := ?_) rfl (by kernel_rfl) (fun _ _ _ h => h) (Or.inl ⟨by rfl, ?_⟩) HS0.out ?_
              rotate_left
              · ((intro w hSw; (try dsimp only at hSw); go_simp) <;> with_reducible rfl)
              try simp only [Act.put, List.setIfInBounds_toArray, List.set_cons_zero, List.set_cons_succ]
              refine T_end (by kernel_rfl) ?_
              have c0 := HC.out
              go_wp2
              go_roundw
              case rel => exact ⟨k + 1, by go_num, by omega, (T3.out.setCell (p := ⟨g, k, none⟩) hgl.1 hgl.2 _).drew, (O3.out.set_ HB.out k _ (by omega) (by omega)).drew, (K3.out.far (p := ⟨g, k, none⟩) (by show w5.heap.size ≠ g; omega) _).drew⟩
              case measure => simp [intOf]; omega
            · have hkn2 : ¬ (k : Int) < (p.n : Int) := by omega
              go_wp2
              go_roundw
              case rel => exact ⟨i + 1, by go_num, by omega, T3.out, O3.out, K3.out⟩
              case measure => simp [intOf]; omega
        have hkn2 : ¬ (i : Int) < (Dx.Wn : Int) := by omega
        have ht := T2.out
        have hV2 := ht.size
        replace C0 := Lib.hid (C0.out.trans (ht.below (by omega) C0.out.size))
        replace OO := Lib.hid (OO.out.touch INO.out ht (by omega))
        replace K0 := Lib.hid (ht.blk K0.out (by omega))
        replace KO := Lib.hid (ht.blk KO.out (by omega))
        clear ht T2 O2 K2
        have y0 := K0.out.cell 0
        have y1 := K0.out.cell 1
        have u0 := KO.out.cell 0
        have u1 := KO.out.cell 1
        go_wp2_with fail
        refine (rsame_yes DO D _ OO.out.at_ ((HD0.out.below C0.out).more C0.out.size) EO.out).mono ?_
        rintro e19 w19 ⟨rfl, hb⟩
        have CF := Lib.hid (C0.out.trans (hb.mono C0.out.size))
        clear hb y0 y1 u0 u1
        go_wp2
        go_ret
        exact ⟨rfl, CF.out⟩
end Go.Proofs.Ythmbjmknifkbaaa
