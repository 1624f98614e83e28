/-
  The walk of DiskDoes. No condition.
-/
import Derived.Test.YtihinhdgfbnlmaaDiskSees
import Derived.Test.YtihinhdgfbnlmaaDiskTurn
import Derived.Test.YtihinhdgfbnlmaaDiskRefB
import Derived.Test.YtihinhdgfbnlmaaDiskRefD
import Derived.Test.YtihinhdgfbnlmaaQuiet
namespace Go.Proofs.Ytihinhdgfbnlmaa
open Go.RowKit Go.Sort
set_option maxHeartbeats 16000000
set_option maxRecDepth 100000
set_option linter.unusedVariables false
set_option linter.unusedSimpArgs false

/-! ### one form per call of the reference -/
theorem rwrite_is (D : HD) (sw : Bool) (A : Option Addr) (n c : Nat) (d : List UInt8) (w : World) (R : Dp.Disk) (r : Int) (hr : Dp.write D.disk ⟨sw, d⟩ = (R, r)) (h : DiskAt w w.heap.size D) (hs : Sm D.disk) (hp' : PutAt w w.heap.size ⟨sw, A, n, c, d⟩) (hn : n ≤ 2000000) :
    Calls Try.prog 22 #[.agg #[.slice D.A D.n D.c, .slice D.WA D.Wn D.Wc], .agg #[.bool sw, .slice A n c]] w fun e w' => ∃ D', e = .returned (.tuple #[.agg #[.slice D'.A D'.n D'.c, .slice D'.WA D'.Wn D'.Wc], .int .i64 r]) ∧ OwnDisk w' w.heap.size D' ∧ D'.disk = R ∧ Below w.heap.size w w' := by
  have := rwrite_any D ⟨sw, A, n, c, d⟩ w h hs hp' hn
  rw [show Dp.write D.disk (HP.put ⟨sw, A, n, c, d⟩) = (R, r) from hr] at this
  exact this
theorem rsync_is (D : HD) (w : World) (R : Dp.Disk) (r : Int) (hr : Dp.sync D.disk = (R, r)) (h : DiskAt w w.heap.size D) (hs : Sm D.disk) :
    Calls Try.prog 23 #[.agg #[.slice D.A D.n D.c, .slice D.WA D.Wn D.Wc]] w fun e w' => ∃ D', e = .returned (.tuple #[.agg #[.slice D'.A D'.n D'.c, .slice D'.WA D'.Wn D'.Wc], .int .i64 r]) ∧ OwnDisk w' w.heap.size D' ∧ D'.disk = R ∧ Below w.heap.size w w' := by
  have := rsync_any D w h hs
  rw [hr] at this
  exact this
theorem rcrash_is (D : HD) (keep many : Int) (w : World) (R : Dp.Disk) (r : Int) (hr : Dp.crash D.disk keep many = (R, r)) (h : DiskAt w w.heap.size D) (hs : Sm D.disk) (hmb : many ≤ 9223372036854775807) :
    Calls Try.prog 24 #[.agg #[.slice D.A D.n D.c, .slice D.WA D.Wn D.Wc], .int .i64 keep, .int .i64 many] w fun e w' => ∃ D', e = .returned (.tuple #[.agg #[.slice D'.A D'.n D'.c, .slice D'.WA D'.Wn D'.Wc], .int .i64 r]) ∧ OwnDisk w' w.heap.size D' ∧ D'.disk = R ∧ Below w.heap.size w w' := by
  have := rcrash_any D keep many w h hs hmb
  rw [hr] at this
  exact this
theorem rsee_is (D : HD) (w : World) (R : List UInt8) (r : Int) (hr : Dp.see D.disk = (R, r)) (h : DiskAt w w.heap.size D) (hs : Sm D.disk) :
    Calls Try.prog 25 #[.agg #[.slice D.A D.n D.c, .slice D.WA D.Wn D.Wc]] w fun e w' => ∃ A2 c2 m, e = .returned (.tuple #[.slice A2 m c2, .int .i64 r]) ∧ R.length = m ∧ w'.ownsRow w.heap.size 5 1 (.slice A2 m c2) m (cb R) ∧ Below w.heap.size w w' := by
  have := rsee_any D w h hs
  rw [hr] at this
  exact this
theorem own_touch {lo hi lo' hi' base n size : Nat} {w w' : World} {e : TypeId} {v : Value} {xs : List Value} (h : w.ownsRow base e size v n xs) (k : ∀ g, v.ownBlock = some g → lo' ≤ g ∧ g < hi') (t : Touch lo hi w w') (hd : hi' ≤ lo ∨ hi ≤ lo') : w'.ownsRow base e size v n xs :=
  own_keep h fun g hg => t.block g (own_lt h hg).2 (by have := k g hg; omega)
theorem eD_is (b : Bool) : (eD b == 0) = b := by cases b <;> rfl
theorem OwnDisk.zero {w : World} {base : Nat} {D : HD} (h : OwnDisk w base D) : OwnDisk w 0 D := h.mono (Nat.zero_le _)

theorem does (D : HD) (A : Option Addr) (n c : Nat) (l : List UInt8) (keep many : Int) (w : World) (hD : DiskAt w w.heap.size D) (hB : IsBytes w A n c l)
    (hk : -9223372036854775808 ≤ keep ∧ keep ≤ 9223372036854775807) (hm : -9223372036854775808 ≤ many ∧ many ≤ 9223372036854775807) :
    Calls Try.prog 5 #[.agg #[.slice D.A D.n D.c, .slice D.WA D.Wn D.Wc], .slice A n c, .int .i64 keep, .int .i64 many] w fun e w' => e = .returned (.bool true) ∧ Below w.heap.size w w' := by
  have hmh := hm.2
  have HD0 := Lib.hid hD
  have HB0 := Lib.hid hB
  have K0 := Lib.hid (Blk.new w 25 #[.slice D.A D.n D.c, .slice D.WA D.Wn D.Wc])
  have C0 := Lib.hid ((Below.refl _ w).alloc (Nat.le_refl w.heap.size) (.cells #[.slice D.A D.n D.c, .slice D.WA D.Wn D.Wc] 25))
  have D0 := Lib.hid (hD.alloc (.cells #[.slice D.A D.n D.c, .slice D.WA D.Wn D.Wc] 25))
  clear hD hB hk hm
  go_enter Try.func5, Try.ntmps5
  go_wp2_with fail
  refine (rgreat_any D _ D0.out).mono ?_
  rintro e1 w1 ⟨⟨r, rfl, hsm⟩, hb⟩
  replace K0 := Lib.hid (K0.out.below hb K0.out.lt)
  replace C0 := Lib.hid (C0.out.trans (hb.mono C0.out.size))
  replace D0 := Lib.hid (D0.out.up hb)
  clear hb
  have z1 : w.heap.size < w1.heap.size := K0.out.lt
  cases r with
  | true => go_wp2; go_ret; exact ⟨rfl, C0.out⟩
  | false =>
  by_cases hn : (2000000 : Int) < (n : Int)
  case pos =>
    have dn : decide ((2000000 : Int) < (n : Int)) = true := decide_eq_true hn
    go_wp2; go_ret; exact ⟨rfl, C0.out⟩
  have dn : decide ((2000000 : Int) < (n : Int)) = false := decide_eq_false hn
  have hn2 : n ≤ 2000000 := by omega
  have SM := Lib.hid (hsm rfl).1
  clear hsm
  have PT := Lib.hid (show PutAt w1 w1.heap.size ⟨true, A, n, c, l⟩ from ⟨(HB0.out.1.below C0.out).more C0.out.size, HB0.out.2.1, HB0.out.2.2, by show n ≤ _; omega⟩)
  have PF := Lib.hid (show PutAt w1 w1.heap.size ⟨false, A, n, c, l⟩ from ⟨(HB0.out.1.below C0.out).more C0.out.size, HB0.out.2.1, HB0.out.2.2, by show n ≤ _; omega⟩)
  obtain ⟨X, rx, hX⟩ : ∃ X r, Dp.write D.disk ⟨false, l⟩ = (X, r) := ⟨_, _, rfl⟩
  obtain ⟨Y, ry, hY⟩ : ∃ X r, Dp.write D.disk ⟨true, l⟩ = (X, r) := ⟨_, _, rfl⟩
  obtain ⟨Z, rz, hZ⟩ : ∃ X r, Dp.sync D.disk = (X, r) := ⟨_, _, rfl⟩
  obtain ⟨U, ru, hU⟩ : ∃ X r, Dp.crash D.disk keep many = (X, r) := ⟨_, _, rfl⟩
  obtain ⟨V, rv, hV⟩ : ∃ X r, Dp.see D.disk = (X, r) := ⟨_, _, rfl⟩
  have HX := Lib.hid hX
  have HY := Lib.hid hY
  have HZ := Lib.hid hZ
  have HU := Lib.hid hU
  have HV := Lib.hid hV
  clear hX hY hZ hU hV
  have y0 := K0.out.cell 0
  have y1 := K0.out.cell 1
  go_wp2_with fail
  refine (rtwin_any D _ D0.out SM.out).mono ?_
  rintro e2 w2 ⟨DO, rfl, hx, hex, hb⟩
  have KO := Lib.hid (Blk.new w2 25 #[.slice DO.A DO.n DO.c, .slice DO.WA DO.Wn DO.Wc])
  have INO := Lib.hid hx.inD
  have OO := Lib.hid (hx.zero.alloc (.cells #[.slice DO.A DO.n DO.c, .slice DO.WA DO.Wn DO.Wc] 25))
  have EO := Lib.hid hex
  have z2 : w1.heap.size ≤ w2.heap.size := hb.size
  replace K0 := Lib.hid ((K0.out.below hb K0.out.lt).alloc (.cells #[.slice DO.A DO.n DO.c, .slice DO.WA DO.Wn DO.Wc] 25))
  replace C0 := Lib.hid (below_alloc (C0.out.trans (hb.mono C0.out.size)) (.cells #[.slice DO.A DO.n DO.c, .slice DO.WA DO.Wn DO.Wc] 25))
  replace D0 := Lib.hid ((D0.out.up hb).alloc (.cells #[.slice DO.A DO.n DO.c, .slice DO.WA DO.Wn DO.Wc] 25))
  replace PT := Lib.hid ((PT.out.up hb).alloc (.cells #[.slice DO.A DO.n DO.c, .slice DO.WA DO.Wn DO.Wc] 25))
  replace PF := Lib.hid ((PF.out.up hb).alloc (.cells #[.slice DO.A DO.n DO.c, .slice DO.WA DO.Wn DO.Wc] 25))
  clear hx hex hb y0 y1
  obtain ⟨W2, hW2⟩ : ∃ W2, w2.alloc (.cells #[.slice DO.A DO.n DO.c, .slice DO.WA DO.Wn DO.Wc] 25) = W2 := ⟨_, rfl⟩
  have z2b : W2.heap.size = w2.heap.size + 1 := by rw [← hW2]; simp
  rw [hW2] at K0
  rw [hW2] at C0
  rw [hW2] at D0
  rw [hW2] at PT
  rw [hW2] at PF
  rw [hW2] at KO
  rw [hW2] at OO
  have y0 := KO.out.cell 0
  have HW2 := Lib.hid hW2
  clear hW2
  go_wp2_with (at_builtin; rw [HW2.out]; refine app_bl rfl (.const (.slice none 0 0)) (.tmp 40) rfl W2.heap.size (.slice none 0 0) 0 [] rfl (World.ownsRow_nil _ _ _ _) W2.heap.size A n c l rfl PT.out.1 (by omega) (Nat.le_refl _) ?_)
  intro v3 w3 o3 g3
  have hb := Lib.hid (g3.below (B := W2.heap.size) (Nat.le_refl _) (by simp [Value.ownBlock]))
  obtain ⟨AI, cI, rfl, _, hcI1, hcI2⟩ := own_form o3
  have o3' : w3.ownsRow W2.heap.size 5 1 (.slice AI n cI) n (cb l) := by rw [z2b]; simpa using o3
  have II : Hid (∀ g, (Value.slice AI n cI).ownBlock = some g → W2.heap.size ≤ g ∧ g < w3.heap.size) := fun g hg => own_lt o3' hg
  have OI := Lib.hid (own_mono o3' (Nat.zero_le _))
  have PIF := Lib.hid (show PutAt w3 w3.heap.size ⟨false, AI, n, cI, l⟩ from ⟨Reads.of_own o3', (own_cap o3').1, (own_cap o3').2, by show n ≤ _; omega⟩)
  have PIT := Lib.hid (show PutAt w3 w3.heap.size ⟨true, AI, n, cI, l⟩ from ⟨Reads.of_own o3', (own_cap o3').1, (own_cap o3').2, by show n ≤ _; omega⟩)
  have z3 : W2.heap.size ≤ w3.heap.size := hb.out.size
  clear o3 o3' g3 y0 hcI1 hcI2
  replace K0 := Lib.hid (K0.out.below hb.out K0.out.lt)
  replace C0 := Lib.hid (C0.out.trans (hb.out.mono C0.out.size))
  replace D0 := Lib.hid (D0.out.up hb.out)
  replace PT := Lib.hid (PT.out.up hb.out)
  replace PF := Lib.hid (PF.out.up hb.out)
  replace KO := Lib.hid (KO.out.below hb.out KO.out.lt)
  replace OO := Lib.hid (OO.out.below hb.out)
  clear hb
  have y0 := KO.out.cell 0
  have y1 := KO.out.cell 1
  go_wp2_with fail
  refine (append_is DO AI n cI l _ X rx (by rw [EO.out]; exact HX.out) OO.out.at_ PIF.out).mono ?_
  rintro e4 w4 ⟨DX, rfl, hx, hex, hb⟩
  have KX := Lib.hid (Blk.new w4 25 #[.slice DX.A DX.n DX.c, .slice DX.WA DX.Wn DX.Wc])
  have IX : Hid (InD (w3.heap.size + 0) w4.heap.size DX) := by rw [Hid]; simpa using hx.inD
  have OX := Lib.hid (hx.zero.alloc (.cells #[.slice DX.A DX.n DX.c, .slice DX.WA DX.Wn DX.Wc] 25))
  have EX := Lib.hid hex
  have z4 : w3.heap.size + 0 ≤ w4.heap.size := by have := hb.size; simpa using this
  replace K0 := Lib.hid ((K0.out.below hb K0.out.lt).alloc (.cells #[.slice DX.A DX.n DX.c, .slice DX.WA DX.Wn DX.Wc] 25))
  replace C0 := Lib.hid (below_alloc (C0.out.trans (hb.mono C0.out.size)) (.cells #[.slice DX.A DX.n DX.c, .slice DX.WA DX.Wn DX.Wc] 25))
  replace D0 := Lib.hid ((D0.out.up hb).alloc (.cells #[.slice DX.A DX.n DX.c, .slice DX.WA DX.Wn DX.Wc] 25))
  replace PT := Lib.hid ((PT.out.up hb).alloc (.cells #[.slice DX.A DX.n DX.c, .slice DX.WA DX.Wn DX.Wc] 25))
  replace PF := Lib.hid ((PF.out.up hb).alloc (.cells #[.slice DX.A DX.n DX.c, .slice DX.WA DX.Wn DX.Wc] 25))
  replace KO := Lib.hid ((KO.out.below hb KO.out.lt).alloc (.cells #[.slice DX.A DX.n DX.c, .slice DX.WA DX.Wn DX.Wc] 25))
  replace OO := Lib.hid ((OO.out.below hb).alloc (.cells #[.slice DX.A DX.n DX.c, .slice DX.WA DX.Wn DX.Wc] 25))
  replace PIF := Lib.hid ((PIF.out.up hb).alloc (.cells #[.slice DX.A DX.n DX.c, .slice DX.WA DX.Wn DX.Wc] 25))
  replace PIT := Lib.hid ((PIT.out.up hb).alloc (.cells #[.slice DX.A DX.n DX.c, .slice DX.WA DX.Wn DX.Wc] 25))
  replace OI := Lib.hid ((own_below OI.out hb).alloc (.cells #[.slice DX.A DX.n DX.c, .slice DX.WA DX.Wn DX.Wc] 25))
  clear hx hex hb y0 y1
  have y0 := K0.out.cell 0
  have y1 := K0.out.cell 1
  go_wp2_with fail
  refine (rwrite_is D false A n c l _ X rx HX.out D0.out SM.out PF.out hn2).mono ?_
  rintro e5 w5 ⟨DX2, rfl, hx, hex, hb⟩
  have KX2 := Lib.hid (Blk.new w5 25 #[.slice DX2.A DX2.n DX2.c, .slice DX2.WA DX2.Wn DX2.Wc])
  have IX2 : Hid (InD (w4.heap.size + 1) w5.heap.size DX2) := by rw [Hid]; simpa using hx.inD
  have OX2 := Lib.hid (hx.zero.alloc (.cells #[.slice DX2.A DX2.n DX2.c, .slice DX2.WA DX2.Wn DX2.Wc] 25))
  have EX2 := Lib.hid hex
  have z5 : w4.heap.size + 1 ≤ w5.heap.size := by have := hb.size; simpa using this
  replace K0 := Lib.hid ((K0.out.below hb K0.out.lt).alloc (.cells #[.slice DX2.A DX2.n DX2.c, .slice DX2.WA DX2.Wn DX2.Wc] 25))
  replace C0 := Lib.hid (below_alloc (C0.out.trans (hb.mono C0.out.size)) (.cells #[.slice DX2.A DX2.n DX2.c, .slice DX2.WA DX2.Wn DX2.Wc] 25))
  replace D0 := Lib.hid ((D0.out.up hb).alloc (.cells #[.slice DX2.A DX2.n DX2.c, .slice DX2.WA DX2.Wn DX2.Wc] 25))
  replace PT := Lib.hid ((PT.out.up hb).alloc (.cells #[.slice DX2.A DX2.n DX2.c, .slice DX2.WA DX2.Wn DX2.Wc] 25))
  replace PF := Lib.hid ((PF.out.up hb).alloc (.cells #[.slice DX2.A DX2.n DX2.c, .slice DX2.WA DX2.Wn DX2.Wc] 25))
  replace KO := Lib.hid ((KO.out.below hb KO.out.lt).alloc (.cells #[.slice DX2.A DX2.n DX2.c, .slice DX2.WA DX2.Wn DX2.Wc] 25))
  replace OO := Lib.hid ((OO.out.below hb).alloc (.cells #[.slice DX2.A DX2.n DX2.c, .slice DX2.WA DX2.Wn DX2.Wc] 25))
  replace PIF := Lib.hid ((PIF.out.up hb).alloc (.cells #[.slice DX2.A DX2.n DX2.c, .slice DX2.WA DX2.Wn DX2.Wc] 25))
  replace PIT := Lib.hid ((PIT.out.up hb).alloc (.cells #[.slice DX2.A DX2.n DX2.c, .slice DX2.WA DX2.Wn DX2.Wc] 25))
  replace KX := Lib.hid ((KX.out.below hb KX.out.lt).alloc (.cells #[.slice DX2.A DX2.n DX2.c, .slice DX2.WA DX2.Wn DX2.Wc] 25))
  replace OX := Lib.hid ((OX.out.below hb).alloc (.cells #[.slice DX2.A DX2.n DX2.c, .slice DX2.WA DX2.Wn DX2.Wc] 25))
  replace OI := Lib.hid ((own_below OI.out hb).alloc (.cells #[.slice DX2.A DX2.n DX2.c, .slice DX2.WA DX2.Wn DX2.Wc] 25))
  clear hx hex hb y0 y1
  have y0 := KO.out.cell 0
  have y1 := KO.out.cell 1
  go_wp2_with fail
  refine (swap_is DO AI n cI l _ Y ry (by rw [EO.out]; exact HY.out) OO.out.at_ PIT.out).mono ?_
  rintro e6 w6 ⟨DY, rfl, hx, hex, hb⟩
  have KY := Lib.hid (Blk.new w6 25 #[.slice DY.A DY.n DY.c, .slice DY.WA DY.Wn DY.Wc])
  have IY : Hid (InD (w5.heap.size + 1) w6.heap.size DY) := by rw [Hid]; simpa using hx.inD
  have OY := Lib.hid (hx.zero.alloc (.cells #[.slice DY.A DY.n DY.c, .slice DY.WA DY.Wn DY.Wc] 25))
  have EY := Lib.hid hex
  have z6 : w5.heap.size + 1 ≤ w6.heap.size := by have := hb.size; simpa using this
  replace K0 := Lib.hid ((K0.out.below hb K0.out.lt).alloc (.cells #[.slice DY.A DY.n DY.c, .slice DY.WA DY.Wn DY.Wc] 25))
  replace C0 := Lib.hid (below_alloc (C0.out.trans (hb.mono C0.out.size)) (.cells #[.slice DY.A DY.n DY.c, .slice DY.WA DY.Wn DY.Wc] 25))
  replace D0 := Lib.hid ((D0.out.up hb).alloc (.cells #[.slice DY.A DY.n DY.c, .slice DY.WA DY.Wn DY.Wc] 25))
  replace PT := Lib.hid ((PT.out.up hb).alloc (.cells #[.slice DY.A DY.n DY.c, .slice DY.WA DY.Wn DY.Wc] 25))
  replace PF := Lib.hid ((PF.out.up hb).alloc (.cells #[.slice DY.A DY.n DY.c, .slice DY.WA DY.Wn DY.Wc] 25))
  replace KO := Lib.hid ((KO.out.below hb KO.out.lt).alloc (.cells #[.slice DY.A DY.n DY.c, .slice DY.WA DY.Wn DY.Wc] 25))
  replace OO := Lib.hid ((OO.out.below hb).alloc (.cells #[.slice DY.A DY.n DY.c, .slice DY.WA DY.Wn DY.Wc] 25))
  replace PIF := Lib.hid ((PIF.out.up hb).alloc (.cells #[.slice DY.A DY.n DY.c, .slice DY.WA DY.Wn DY.Wc] 25))
  replace PIT := Lib.hid ((PIT.out.up hb).alloc (.cells #[.slice DY.A DY.n DY.c, .slice DY.WA DY.Wn DY.Wc] 25))
  replace KX := Lib.hid ((KX.out.below hb KX.out.lt).alloc (.cells #[.slice DY.A DY.n DY.c, .slice DY.WA DY.Wn DY.Wc] 25))
  replace OX := Lib.hid ((OX.out.below hb).alloc (.cells #[.slice DY.A DY.n DY.c, .slice DY.WA DY.Wn DY.Wc] 25))
  replace KX2 := Lib.hid ((KX2.out.below hb KX2.out.lt).alloc (.cells #[.slice DY.A DY.n DY.c, .slice DY.WA DY.Wn DY.Wc] 25))
  replace OX2 := Lib.hid ((OX2.out.below hb).alloc (.cells #[.slice DY.A DY.n DY.c, .slice DY.WA DY.Wn DY.Wc] 25))
  replace OI := Lib.hid ((own_below OI.out hb).alloc (.cells #[.slice DY.A DY.n DY.c, .slice DY.WA DY.Wn DY.Wc] 25))
  clear hx hex hb y0 y1
  have y0 := K0.out.cell 0
  have y1 := K0.out.cell 1
  go_wp2_with fail
  refine (rwrite_is D true A n c l _ Y ry HY.out D0.out SM.out PT.out hn2).mono ?_
  rintro e7 w7 ⟨DY2, rfl, hx, hex, hb⟩
  have KY2 := Lib.hid (Blk.new w7 25 #[.slice DY2.A DY2.n DY2.c, .slice DY2.WA DY2.Wn DY2.Wc])
  have IY2 : Hid (InD (w6.heap.size + 1) w7.heap.size DY2) := by rw [Hid]; simpa using hx.inD
  have OY2 := Lib.hid (hx.zero.alloc (.cells #[.slice DY2.A DY2.n DY2.c, .slice DY2.WA DY2.Wn DY2.Wc] 25))
  have EY2 := Lib.hid hex
  have z7 : w6.heap.size + 1 ≤ w7.heap.size := by have := hb.size; simpa using this
  replace K0 := Lib.hid ((K0.out.below hb K0.out.lt).alloc (.cells #[.slice DY2.A DY2.n DY2.c, .slice DY2.WA DY2.Wn DY2.Wc] 25))
  replace C0 := Lib.hid (below_alloc (C0.out.trans (hb.mono C0.out.size)) (.cells #[.slice DY2.A DY2.n DY2.c, .slice DY2.WA DY2.Wn DY2.Wc] 25))
  replace D0 := Lib.hid ((D0.out.up hb).alloc (.cells #[.slice DY2.A DY2.n DY2.c, .slice DY2.WA DY2.Wn DY2.Wc] 25))
  replace PT := Lib.hid ((PT.out.up hb).alloc (.cells #[.slice DY2.A DY2.n DY2.c, .slice DY2.WA DY2.Wn DY2.Wc] 25))
  replace PF := Lib.hid ((PF.out.up hb).alloc (.cells #[.slice DY2.A DY2.n DY2.c, .slice DY2.WA DY2.Wn DY2.Wc] 25))
  replace KO := Lib.hid ((KO.out.below hb KO.out.lt).alloc (.cells #[.slice DY2.A DY2.n DY2.c, .slice DY2.WA DY2.Wn DY2.Wc] 25))
  replace OO := Lib.hid ((OO.out.below hb).alloc (.cells #[.slice DY2.A DY2.n DY2.c, .slice DY2.WA DY2.Wn DY2.Wc] 25))
  replace PIF := Lib.hid ((PIF.out.up hb).alloc (.cells #[.slice DY2.A DY2.n DY2.c, .slice DY2.WA DY2.Wn DY2.Wc] 25))
  replace PIT := Lib.hid ((PIT.out.up hb).alloc (.cells #[.slice DY2.A DY2.n DY2.c, .slice DY2.WA DY2.Wn DY2.Wc] 25))
  replace KX := Lib.hid ((KX.out.below hb KX.out.lt).alloc (.cells #[.slice DY2.A DY2.n DY2.c, .slice DY2.WA DY2.Wn DY2.Wc] 25))
  replace OX := Lib.hid ((OX.out.below hb).alloc (.cells #[.slice DY2.A DY2.n DY2.c, .slice DY2.WA DY2.Wn DY2.Wc] 25))
  replace KX2 := Lib.hid ((KX2.out.below hb KX2.out.lt).alloc (.cells #[.slice DY2.A DY2.n DY2.c, .slice DY2.WA DY2.Wn DY2.Wc] 25))
  replace OX2 := Lib.hid ((OX2.out.below hb).alloc (.cells #[.slice DY2.A DY2.n DY2.c, .slice DY2.WA DY2.Wn DY2.Wc] 25))
  replace KY := Lib.hid ((KY.out.below hb KY.out.lt).alloc (.cells #[.slice DY2.A DY2.n DY2.c, .slice DY2.WA DY2.Wn DY2.Wc] 25))
  replace OY := Lib.hid ((OY.out.below hb).alloc (.cells #[.slice DY2.A DY2.n DY2.c, .slice DY2.WA DY2.Wn DY2.Wc] 25))
  replace OI := Lib.hid ((own_below OI.out hb).alloc (.cells #[.slice DY2.A DY2.n DY2.c, .slice DY2.WA DY2.Wn DY2.Wc] 25))
  clear hx hex hb y0 y1
  have y0 := KO.out.cell 0
  have y1 := KO.out.cell 1
  go_wp2_with fail
  refine (sync_is DO _ Z rz (by rw [EO.out]; exact HZ.out) OO.out.at_).mono ?_
  rintro e8 w8 ⟨DZ, rfl, hx, hex, hb⟩
  have KZ := Lib.hid (Blk.new w8 25 #[.slice DZ.A DZ.n DZ.c, .slice DZ.WA DZ.Wn DZ.Wc])
  have IZ : Hid (InD (w7.heap.size + 1) w8.heap.size DZ) := by rw [Hid]; simpa using hx.inD
  have OZ := Lib.hid (hx.zero.alloc (.cells #[.slice DZ.A DZ.n DZ.c, .slice DZ.WA DZ.Wn DZ.Wc] 25))
  have EZ := Lib.hid hex
  have z8 : w7.heap.size + 1 ≤ w8.heap.size := by have := hb.size; simpa using this
  replace K0 := Lib.hid ((K0.out.below hb K0.out.lt).alloc (.cells #[.slice DZ.A DZ.n DZ.c, .slice DZ.WA DZ.Wn DZ.Wc] 25))
  replace C0 := Lib.hid (below_alloc (C0.out.trans (hb.mono C0.out.size)) (.cells #[.slice DZ.A DZ.n DZ.c, .slice DZ.WA DZ.Wn DZ.Wc] 25))
  replace D0 := Lib.hid ((D0.out.up hb).alloc (.cells #[.slice DZ.A DZ.n DZ.c, .slice DZ.WA DZ.Wn DZ.Wc] 25))
  replace PT := Lib.hid ((PT.out.up hb).alloc (.cells #[.slice DZ.A DZ.n DZ.c, .slice DZ.WA DZ.Wn DZ.Wc] 25))
  replace PF := Lib.hid ((PF.out.up hb).alloc (.cells #[.slice DZ.A DZ.n DZ.c, .slice DZ.WA DZ.Wn DZ.Wc] 25))
  replace KO := Lib.hid ((KO.out.below hb KO.out.lt).alloc (.cells #[.slice DZ.A DZ.n DZ.c, .slice DZ.WA DZ.Wn DZ.Wc] 25))
  replace OO := Lib.hid ((OO.out.below hb).alloc (.cells #[.slice DZ.A DZ.n DZ.c, .slice DZ.WA DZ.Wn DZ.Wc] 25))
  replace PIF := Lib.hid ((PIF.out.up hb).alloc (.cells #[.slice DZ.A DZ.n DZ.c, .slice DZ.WA DZ.Wn DZ.Wc] 25))
  replace PIT := Lib.hid ((PIT.out.up hb).alloc (.cells #[.slice DZ.A DZ.n DZ.c, .slice DZ.WA DZ.Wn DZ.Wc] 25))
  replace KX := Lib.hid ((KX.out.below hb KX.out.lt).alloc (.cells #[.slice DZ.A DZ.n DZ.c, .slice DZ.WA DZ.Wn DZ.Wc] 25))
  replace OX := Lib.hid ((OX.out.below hb).alloc (.cells #[.slice DZ.A DZ.n DZ.c, .slice DZ.WA DZ.Wn DZ.Wc] 25))
  replace KX2 := Lib.hid ((KX2.out.below hb KX2.out.lt).alloc (.cells #[.slice DZ.A DZ.n DZ.c, .slice DZ.WA DZ.Wn DZ.Wc] 25))
  replace OX2 := Lib.hid ((OX2.out.below hb).alloc (.cells #[.slice DZ.A DZ.n DZ.c, .slice DZ.WA DZ.Wn DZ.Wc] 25))
  replace KY := Lib.hid ((KY.out.below hb KY.out.lt).alloc (.cells #[.slice DZ.A DZ.n DZ.c, .slice DZ.WA DZ.Wn DZ.Wc] 25))
  replace OY := Lib.hid ((OY.out.below hb).alloc (.cells #[.slice DZ.A DZ.n DZ.c, .slice DZ.WA DZ.Wn DZ.Wc] 25))
  replace KY2 := Lib.hid ((KY2.out.below hb KY2.out.lt).alloc (.cells #[.slice DZ.A DZ.n DZ.c, .slice DZ.WA DZ.Wn DZ.Wc] 25))
  replace OY2 := Lib.hid ((OY2.out.below hb).alloc (.cells #[.slice DZ.A DZ.n DZ.c, .slice DZ.WA DZ.Wn DZ.Wc] 25))
  replace OI := Lib.hid ((own_below OI.out hb).alloc (.cells #[.slice DZ.A DZ.n DZ.c, .slice DZ.WA DZ.Wn DZ.Wc] 25))
  clear hx hex hb y0 y1
  have y0 := K0.out.cell 0
  have y1 := K0.out.cell 1
  go_wp2_with fail
  refine (rsync_is D _ Z rz HZ.out D0.out SM.out).mono ?_
  rintro e9 w9 ⟨DZ2, rfl, hx, hex, hb⟩
  have KZ2 := Lib.hid (Blk.new w9 25 #[.slice DZ2.A DZ2.n DZ2.c, .slice DZ2.WA DZ2.Wn DZ2.Wc])
  have IZ2 : Hid (InD (w8.heap.size + 1) w9.heap.size DZ2) := by rw [Hid]; simpa using hx.inD
  have OZ2 := Lib.hid (hx.zero.alloc (.cells #[.slice DZ2.A DZ2.n DZ2.c, .slice DZ2.WA DZ2.Wn DZ2.Wc] 25))
  have EZ2 := Lib.hid hex
  have z9 : w8.heap.size + 1 ≤ w9.heap.size := by have := hb.size; simpa using this
  replace K0 := Lib.hid ((K0.out.below hb K0.out.lt).alloc (.cells #[.slice DZ2.A DZ2.n DZ2.c, .slice DZ2.WA DZ2.Wn DZ2.Wc] 25))
  replace C0 := Lib.hid (below_alloc (C0.out.trans (hb.mono C0.out.size)) (.cells #[.slice DZ2.A DZ2.n DZ2.c, .slice DZ2.WA DZ2.Wn DZ2.Wc] 25))
  replace D0 := Lib.hid ((D0.out.up hb).alloc (.cells #[.slice DZ2.A DZ2.n DZ2.c, .slice DZ2.WA DZ2.Wn DZ2.Wc] 25))
  replace PT := Lib.hid ((PT.out.up hb).alloc (.cells #[.slice DZ2.A DZ2.n DZ2.c, .slice DZ2.WA DZ2.Wn DZ2.Wc] 25))
  replace PF := Lib.hid ((PF.out.up hb).alloc (.cells #[.slice DZ2.A DZ2.n DZ2.c, .slice DZ2.WA DZ2.Wn DZ2.Wc] 25))
  replace KO := Lib.hid ((KO.out.below hb KO.out.lt).alloc (.cells #[.slice DZ2.A DZ2.n DZ2.c, .slice DZ2.WA DZ2.Wn DZ2.Wc] 25))
  replace OO := Lib.hid ((OO.out.below hb).alloc (.cells #[.slice DZ2.A DZ2.n DZ2.c, .slice DZ2.WA DZ2.Wn DZ2.Wc] 25))
  replace PIF := Lib.hid ((PIF.out.up hb).alloc (.cells #[.slice DZ2.A DZ2.n DZ2.c, .slice DZ2.WA DZ2.Wn DZ2.Wc] 25))
  replace PIT := Lib.hid ((PIT.out.up hb).alloc (.cells #[.slice DZ2.A DZ2.n DZ2.c, .slice DZ2.WA DZ2.Wn DZ2.Wc] 25))
  replace KX := Lib.hid ((KX.out.below hb KX.out.lt).alloc (.cells #[.slice DZ2.A DZ2.n DZ2.c, .slice DZ2.WA DZ2.Wn DZ2.Wc] 25))
  replace OX := Lib.hid ((OX.out.below hb).alloc (.cells #[.slice DZ2.A DZ2.n DZ2.c, .slice DZ2.WA DZ2.Wn DZ2.Wc] 25))
  replace KX2 := Lib.hid ((KX2.out.below hb KX2.out.lt).alloc (.cells #[.slice DZ2.A DZ2.n DZ2.c, .slice DZ2.WA DZ2.Wn DZ2.Wc] 25))
  replace OX2 := Lib.hid ((OX2.out.below hb).alloc (.cells #[.slice DZ2.A DZ2.n DZ2.c, .slice DZ2.WA DZ2.Wn DZ2.Wc] 25))
  replace KY := Lib.hid ((KY.out.below hb KY.out.lt).alloc (.cells #[.slice DZ2.A DZ2.n DZ2.c, .slice DZ2.WA DZ2.Wn DZ2.Wc] 25))
  replace OY := Lib.hid ((OY.out.below hb).alloc (.cells #[.slice DZ2.A DZ2.n DZ2.c, .slice DZ2.WA DZ2.Wn DZ2.Wc] 25))
  replace KY2 := Lib.hid ((KY2.out.below hb KY2.out.lt).alloc (.cells #[.slice DZ2.A DZ2.n DZ2.c, .slice DZ2.WA DZ2.Wn DZ2.Wc] 25))
  replace OY2 := Lib.hid ((OY2.out.below hb).alloc (.cells #[.slice DZ2.A DZ2.n DZ2.c, .slice DZ2.WA DZ2.Wn DZ2.Wc] 25))
  replace KZ := Lib.hid ((KZ.out.below hb KZ.out.lt).alloc (.cells #[.slice DZ2.A DZ2.n DZ2.c, .slice DZ2.WA DZ2.Wn DZ2.Wc] 25))
  replace OZ := Lib.hid ((OZ.out.below hb).alloc (.cells #[.slice DZ2.A DZ2.n DZ2.c, .slice DZ2.WA DZ2.Wn DZ2.Wc] 25))
  replace OI := Lib.hid ((own_below OI.out hb).alloc (.cells #[.slice DZ2.A DZ2.n DZ2.c, .slice DZ2.WA DZ2.Wn DZ2.Wc] 25))
  clear hx hex hb y0 y1
  have y0 := KO.out.cell 0
  have y1 := KO.out.cell 1
  go_wp2_with fail
  refine (crash_is DO keep many _ U ru (by rw [EO.out]; exact HU.out) OO.out.at_ hmh).mono ?_
  rintro e10 w10 ⟨DU, rfl, hx, hex, hb⟩
  have KU := Lib.hid (Blk.new w10 25 #[.slice DU.A DU.n DU.c, .slice DU.WA DU.Wn DU.Wc])
  have IU : Hid (InD (w9.heap.size + 1) w10.heap.size DU) := by rw [Hid]; simpa using hx.inD
  have OU := Lib.hid (hx.zero.alloc (.cells #[.slice DU.A DU.n DU.c, .slice DU.WA DU.Wn DU.Wc] 25))
  have EU := Lib.hid hex
  have z10 : w9.heap.size + 1 ≤ w10.heap.size := by have := hb.size; simpa using this
  replace K0 := Lib.hid ((K0.out.below hb K0.out.lt).alloc (.cells #[.slice DU.A DU.n DU.c, .slice DU.WA DU.Wn DU.Wc] 25))
  replace C0 := Lib.hid (below_alloc (C0.out.trans (hb.mono C0.out.size)) (.cells #[.slice DU.A DU.n DU.c, .slice DU.WA DU.Wn DU.Wc] 25))
  replace D0 := Lib.hid ((D0.out.up hb).alloc (.cells #[.slice DU.A DU.n DU.c, .slice DU.WA DU.Wn DU.Wc] 25))
  replace PT := Lib.hid ((PT.out.up hb).alloc (.cells #[.slice DU.A DU.n DU.c, .slice DU.WA DU.Wn DU.Wc] 25))
  replace PF := Lib.hid ((PF.out.up hb).alloc (.cells #[.slice DU.A DU.n DU.c, .slice DU.WA DU.Wn DU.Wc] 25))
  replace KO := Lib.hid ((KO.out.below hb KO.out.lt).alloc (.cells #[.slice DU.A DU.n DU.c, .slice DU.WA DU.Wn DU.Wc] 25))
  replace OO := Lib.hid ((OO.out.below hb).alloc (.cells #[.slice DU.A DU.n DU.c, .slice DU.WA DU.Wn DU.Wc] 25))
  replace PIF := Lib.hid ((PIF.out.up hb).alloc (.cells #[.slice DU.A DU.n DU.c, .slice DU.WA DU.Wn DU.Wc] 25))
  replace PIT := Lib.hid ((PIT.out.up hb).alloc (.cells #[.slice DU.A DU.n DU.c, .slice DU.WA DU.Wn DU.Wc] 25))
  replace KX := Lib.hid ((KX.out.below hb KX.out.lt).alloc (.cells #[.slice DU.A DU.n DU.c, .slice DU.WA DU.Wn DU.Wc] 25))
  replace OX := Lib.hid ((OX.out.below hb).alloc (.cells #[.slice DU.A DU.n DU.c, .slice DU.WA DU.Wn DU.Wc] 25))
  replace KX2 := Lib.hid ((KX2.out.below hb KX2.out.lt).alloc (.cells #[.slice DU.A DU.n DU.c, .slice DU.WA DU.Wn DU.Wc] 25))
  replace OX2 := Lib.hid ((OX2.out.below hb).alloc (.cells #[.slice DU.A DU.n DU.c, .slice DU.WA DU.Wn DU.Wc] 25))
  replace KY := Lib.hid ((KY.out.below hb KY.out.lt).alloc (.cells #[.slice DU.A DU.n DU.c, .slice DU.WA DU.Wn DU.Wc] 25))
  replace OY := Lib.hid ((OY.out.below hb).alloc (.cells #[.slice DU.A DU.n DU.c, .slice DU.WA DU.Wn DU.Wc] 25))
  replace KY2 := Lib.hid ((KY2.out.below hb KY2.out.lt).alloc (.cells #[.slice DU.A DU.n DU.c, .slice DU.WA DU.Wn DU.Wc] 25))
  replace OY2 := Lib.hid ((OY2.out.below hb).alloc (.cells #[.slice DU.A DU.n DU.c, .slice DU.WA DU.Wn DU.Wc] 25))
  replace KZ := Lib.hid ((KZ.out.below hb KZ.out.lt).alloc (.cells #[.slice DU.A DU.n DU.c, .slice DU.WA DU.Wn DU.Wc] 25))
  replace OZ := Lib.hid ((OZ.out.below hb).alloc (.cells #[.slice DU.A DU.n DU.c, .slice DU.WA DU.Wn DU.Wc] 25))
  replace KZ2 := Lib.hid ((KZ2.out.below hb KZ2.out.lt).alloc (.cells #[.slice DU.A DU.n DU.c, .slice DU.WA DU.Wn DU.Wc] 25))
  replace OZ2 := Lib.hid ((OZ2.out.below hb).alloc (.cells #[.slice DU.A DU.n DU.c, .slice DU.WA DU.Wn DU.Wc] 25))
  replace OI := Lib.hid ((own_below OI.out hb).alloc (.cells #[.slice DU.A DU.n DU.c, .slice DU.WA DU.Wn DU.Wc] 25))
  clear hx hex hb y0 y1
  have y0 := K0.out.cell 0
  have y1 := K0.out.cell 1
  go_wp2_with fail
  refine (rcrash_is D keep many _ U ru HU.out D0.out SM.out hmh).mono ?_
  rintro e11 w11 ⟨DU2, rfl, hx, hex, hb⟩
  have KU2 := Lib.hid (Blk.new w11 25 #[.slice DU2.A DU2.n DU2.c, .slice DU2.WA DU2.Wn DU2.Wc])
  have IU2 : Hid (InD (w10.heap.size + 1) w11.heap.size DU2) := by rw [Hid]; simpa using hx.inD
  have OU2 := Lib.hid (hx.zero.alloc (.cells #[.slice DU2.A DU2.n DU2.c, .slice DU2.WA DU2.Wn DU2.Wc] 25))
  have EU2 := Lib.hid hex
  have z11 : w10.heap.size + 1 ≤ w11.heap.size := by have := hb.size; simpa using this
  replace K0 := Lib.hid ((K0.out.below hb K0.out.lt).alloc (.cells #[.slice DU2.A DU2.n DU2.c, .slice DU2.WA DU2.Wn DU2.Wc] 25))
  replace C0 := Lib.hid (below_alloc (C0.out.trans (hb.mono C0.out.size)) (.cells #[.slice DU2.A DU2.n DU2.c, .slice DU2.WA DU2.Wn DU2.Wc] 25))
  replace D0 := Lib.hid ((D0.out.up hb).alloc (.cells #[.slice DU2.A DU2.n DU2.c, .slice DU2.WA DU2.Wn DU2.Wc] 25))
  replace PT := Lib.hid ((PT.out.up hb).alloc (.cells #[.slice DU2.A DU2.n DU2.c, .slice DU2.WA DU2.Wn DU2.Wc] 25))
  replace PF := Lib.hid ((PF.out.up hb).alloc (.cells #[.slice DU2.A DU2.n DU2.c, .slice DU2.WA DU2.Wn DU2.Wc] 25))
  replace KO := Lib.hid ((KO.out.below hb KO.out.lt).alloc (.cells #[.slice DU2.A DU2.n DU2.c, .slice DU2.WA DU2.Wn DU2.Wc] 25))
  replace OO := Lib.hid ((OO.out.below hb).alloc (.cells #[.slice DU2.A DU2.n DU2.c, .slice DU2.WA DU2.Wn DU2.Wc] 25))
  replace PIF := Lib.hid ((PIF.out.up hb).alloc (.cells #[.slice DU2.A DU2.n DU2.c, .slice DU2.WA DU2.Wn DU2.Wc] 25))
  replace PIT := Lib.hid ((PIT.out.up hb).alloc (.cells #[.slice DU2.A DU2.n DU2.c, .slice DU2.WA DU2.Wn DU2.Wc] 25))
  replace KX := Lib.hid ((KX.out.below hb KX.out.lt).alloc (.cells #[.slice DU2.A DU2.n DU2.c, .slice DU2.WA DU2.Wn DU2.Wc] 25))
  replace OX := Lib.hid ((OX.out.below hb).alloc (.cells #[.slice DU2.A DU2.n DU2.c, .slice DU2.WA DU2.Wn DU2.Wc] 25))
  replace KX2 := Lib.hid ((KX2.out.below hb KX2.out.lt).alloc (.cells #[.slice DU2.A DU2.n DU2.c, .slice DU2.WA DU2.Wn DU2.Wc] 25))
  replace OX2 := Lib.hid ((OX2.out.below hb).alloc (.cells #[.slice DU2.A DU2.n DU2.c, .slice DU2.WA DU2.Wn DU2.Wc] 25))
  replace KY := Lib.hid ((KY.out.below hb KY.out.lt).alloc (.cells #[.slice DU2.A DU2.n DU2.c, .slice DU2.WA DU2.Wn DU2.Wc] 25))
  replace OY := Lib.hid ((OY.out.below hb).alloc (.cells #[.slice DU2.A DU2.n DU2.c, .slice DU2.WA DU2.Wn DU2.Wc] 25))
  replace KY2 := Lib.hid ((KY2.out.below hb KY2.out.lt).alloc (.cells #[.slice DU2.A DU2.n DU2.c, .slice DU2.WA DU2.Wn DU2.Wc] 25))
  replace OY2 := Lib.hid ((OY2.out.below hb).alloc (.cells #[.slice DU2.A DU2.n DU2.c, .slice DU2.WA DU2.Wn DU2.Wc] 25))
  replace KZ := Lib.hid ((KZ.out.below hb KZ.out.lt).alloc (.cells #[.slice DU2.A DU2.n DU2.c, .slice DU2.WA DU2.Wn DU2.Wc] 25))
  replace OZ := Lib.hid ((OZ.out.below hb).alloc (.cells #[.slice DU2.A DU2.n DU2.c, .slice DU2.WA DU2.Wn DU2.Wc] 25))
  replace KZ2 := Lib.hid ((KZ2.out.below hb KZ2.out.lt).alloc (.cells #[.slice DU2.A DU2.n DU2.c, .slice DU2.WA DU2.Wn DU2.Wc] 25))
  replace OZ2 := Lib.hid ((OZ2.out.below hb).alloc (.cells #[.slice DU2.A DU2.n DU2.c, .slice DU2.WA DU2.Wn DU2.Wc] 25))
  replace KU := Lib.hid ((KU.out.below hb KU.out.lt).alloc (.cells #[.slice DU2.A DU2.n DU2.c, .slice DU2.WA DU2.Wn DU2.Wc] 25))
  replace OU := Lib.hid ((OU.out.below hb).alloc (.cells #[.slice DU2.A DU2.n DU2.c, .slice DU2.WA DU2.Wn DU2.Wc] 25))
  replace OI := Lib.hid ((own_below OI.out hb).alloc (.cells #[.slice DU2.A DU2.n DU2.c, .slice DU2.WA DU2.Wn DU2.Wc] 25))
  clear hx hex hb y0 y1
  have y0 := KO.out.cell 0
  have y1 := KO.out.cell 1
  go_wp2_with fail
  refine (see_is DO _ V rv (by rw [EO.out]; exact HV.out) OO.out.at_).mono ?_
  rintro e12 w12 ⟨Av, cv, mv, rfl, hmm, ho, hb⟩
  have Rv := Lib.hid (Reads.of_own ho)
  have z12 : w11.heap.size + 1 ≤ w12.heap.size := by have := hb.size; simpa using this
  replace K0 := Lib.hid (K0.out.below hb K0.out.lt)
  replace C0 := Lib.hid (C0.out.trans (hb.mono C0.out.size))
  replace D0 := Lib.hid (D0.out.up hb)
  replace PT := Lib.hid (PT.out.up hb)
  replace PF := Lib.hid (PF.out.up hb)
  replace KO := Lib.hid (KO.out.below hb KO.out.lt)
  replace OO := Lib.hid (OO.out.below hb)
  replace PIF := Lib.hid (PIF.out.up hb)
  replace PIT := Lib.hid (PIT.out.up hb)
  replace KX := Lib.hid (KX.out.below hb KX.out.lt)
  replace OX := Lib.hid (OX.out.below hb)
  replace KX2 := Lib.hid (KX2.out.below hb KX2.out.lt)
  replace OX2 := Lib.hid (OX2.out.below hb)
  replace KY := Lib.hid (KY.out.below hb KY.out.lt)
  replace OY := Lib.hid (OY.out.below hb)
  replace KY2 := Lib.hid (KY2.out.below hb KY2.out.lt)
  replace OY2 := Lib.hid (OY2.out.below hb)
  replace KZ := Lib.hid (KZ.out.below hb KZ.out.lt)
  replace OZ := Lib.hid (OZ.out.below hb)
  replace KZ2 := Lib.hid (KZ2.out.below hb KZ2.out.lt)
  replace OZ2 := Lib.hid (OZ2.out.below hb)
  replace KU := Lib.hid (KU.out.below hb KU.out.lt)
  replace OU := Lib.hid (OU.out.below hb)
  replace KU2 := Lib.hid (KU2.out.below hb KU2.out.lt)
  replace OU2 := Lib.hid (OU2.out.below hb)
  replace OI := Lib.hid (own_below OI.out hb)
  clear hmm ho hb y0 y1
  have y0 := K0.out.cell 0
  have y1 := K0.out.cell 1
  go_wp2_with fail
  refine (rsee_is D _ V rv HV.out D0.out SM.out).mono ?_
  rintro e13 w13 ⟨Av2, cv2, mv2, rfl, hmm, ho, hb⟩
  have Rv2 := Lib.hid (Reads.of_own ho)
  have z13 : w12.heap.size + 0 ≤ w13.heap.size := by have := hb.size; simpa using this
  replace K0 := Lib.hid (K0.out.below hb K0.out.lt)
  replace C0 := Lib.hid (C0.out.trans (hb.mono C0.out.size))
  replace D0 := Lib.hid (D0.out.up hb)
  replace PT := Lib.hid (PT.out.up hb)
  replace PF := Lib.hid (PF.out.up hb)
  replace KO := Lib.hid (KO.out.below hb KO.out.lt)
  replace OO := Lib.hid (OO.out.below hb)
  replace PIF := Lib.hid (PIF.out.up hb)
  replace PIT := Lib.hid (PIT.out.up hb)
  replace KX := Lib.hid (KX.out.below hb KX.out.lt)
  replace OX := Lib.hid (OX.out.below hb)
  replace KX2 := Lib.hid (KX2.out.below hb KX2.out.lt)
  replace OX2 := Lib.hid (OX2.out.below hb)
  replace KY := Lib.hid (KY.out.below hb KY.out.lt)
  replace OY := Lib.hid (OY.out.below hb)
  replace KY2 := Lib.hid (KY2.out.below hb KY2.out.lt)
  replace OY2 := Lib.hid (OY2.out.below hb)
  replace KZ := Lib.hid (KZ.out.below hb KZ.out.lt)
  replace OZ := Lib.hid (OZ.out.below hb)
  replace KZ2 := Lib.hid (KZ2.out.below hb KZ2.out.lt)
  replace OZ2 := Lib.hid (OZ2.out.below hb)
  replace KU := Lib.hid (KU.out.below hb KU.out.lt)
  replace OU := Lib.hid (OU.out.below hb)
  replace KU2 := Lib.hid (KU2.out.below hb KU2.out.lt)
  replace OU2 := Lib.hid (OU2.out.below hb)
  replace Rv := Lib.hid ((Rv.out.below hb).more hb.size)
  replace OI := Lib.hid (own_below OI.out hb)
  clear hmm ho hb y0 y1
  have k00 := cell_regrown (K0.out.cell 0)
  have k01 := cell_regrown (K0.out.cell 1)
  have ko0 := cell_regrown (KO.out.cell 0)
  have ko1 := cell_regrown (KO.out.cell 1)
  have kx0 := cell_regrown (KX.out.cell 0)
  have kx1 := cell_regrown (KX.out.cell 1)
  have kx20 := cell_regrown (KX2.out.cell 0)
  have kx21 := cell_regrown (KX2.out.cell 1)
  have ky0 := cell_regrown (KY.out.cell 0)
  have ky1 := cell_regrown (KY.out.cell 1)
  have ky20 := cell_regrown (KY2.out.cell 0)
  have ky21 := cell_regrown (KY2.out.cell 1)
  have kz0 := cell_regrown (KZ.out.cell 0)
  have kz1 := cell_regrown (KZ.out.cell 1)
  have kz20 := cell_regrown (KZ2.out.cell 0)
  have kz21 := cell_regrown (KZ2.out.cell 1)
  have ku0 := cell_regrown (KU.out.cell 0)
  have ku1 := cell_regrown (KU.out.cell 1)
  have ku20 := cell_regrown (KU2.out.cell 0)
  have ku21 := cell_regrown (KU2.out.cell 1)
  have FX := Lib.hid (qb (W := w13) fun cur ht => rsame_yes DX DX2 cur (OX.out.at_.up ht) (OX2.out.at_.up ht) (by rw [EX.out, EX2.out]))
  have FY := Lib.hid (qb (W := w13) fun cur ht => rsame_yes DY DY2 cur (OY.out.at_.up ht) (OY2.out.at_.up ht) (by rw [EY.out, EY2.out]))
  have FZ := Lib.hid (qb (W := w13) fun cur ht => rsame_yes DZ DZ2 cur (OZ.out.at_.up ht) (OZ2.out.at_.up ht) (by rw [EZ.out, EZ2.out]))
  have FU := Lib.hid (qb (W := w13) fun cur ht => rsame_yes DU DU2 cur (OU.out.at_.up ht) (OU2.out.at_.up ht) (by rw [EU.out, EU2.out]))
  have FC := Lib.hid (qb (W := w13) fun cur ht => check_any DO cur (Dp.mayD D.disk) (by rw [EO.out]) (OO.out.at_.up ht))
  have FM := Lib.hid (qb (W := w13) fun cur ht => rmay_any D cur (D0.out.up ht) SM.out)
  have hED := eD_is (Dp.mayD D.disk)
  have u1 := fun d os => conv_b (w := grow (redrawn w13 d) os) (c := cv) (Rv.out.regrown (Nat.le_refl _) d os)
  have u2 := fun d os => conv_b (w := grow (redrawn w13 d) os) (c := cv2) (Rv2.out.regrown (Nat.le_refl _) d os)
  go_wp2_with fail
  obtain ⟨bm, hbm⟩ : ∃ bm, Dp.mayD D.disk = bm := ⟨_, rfl⟩
  rw [hbm] at FC FM hED
  clear hbm
  refine wp_region_quiet_below (by kernel_rfl) (by kernel_rfl) ?_
  repeat (go_big_quiet_step ((first | with_reducible exact FX.out _ _ | with_reducible exact FY.out _ _ | with_reducible exact FZ.out _ _ | with_reducible exact FU.out _ _ | with_reducible exact FC.out _ _ | with_reducible exact FM.out _ _)))
  refine wpQuiet_nil ?_
  intro _ hw'
  obtain ⟨⟨dq, osq⟩, hw''⟩ := hw'
  subst hw''
  have hb := below_regrown w13 dq osq
  replace K0 := Lib.hid (K0.out.below hb K0.out.lt)
  replace C0 := Lib.hid (C0.out.trans (hb.mono C0.out.size))
  replace D0 := Lib.hid (D0.out.up hb)
  replace PT := Lib.hid (PT.out.up hb)
  replace PF := Lib.hid (PF.out.up hb)
  replace KO := Lib.hid (KO.out.below hb KO.out.lt)
  replace OO := Lib.hid (OO.out.below hb)
  replace PIF := Lib.hid (PIF.out.up hb)
  replace PIT := Lib.hid (PIT.out.up hb)
  replace KX := Lib.hid (KX.out.below hb KX.out.lt)
  replace OX := Lib.hid (OX.out.below hb)
  replace KX2 := Lib.hid (KX2.out.below hb KX2.out.lt)
  replace OX2 := Lib.hid (OX2.out.below hb)
  replace KY := Lib.hid (KY.out.below hb KY.out.lt)
  replace OY := Lib.hid (OY.out.below hb)
  replace KY2 := Lib.hid (KY2.out.below hb KY2.out.lt)
  replace OY2 := Lib.hid (OY2.out.below hb)
  replace KZ := Lib.hid (KZ.out.below hb KZ.out.lt)
  replace OZ := Lib.hid (OZ.out.below hb)
  replace KZ2 := Lib.hid (KZ2.out.below hb KZ2.out.lt)
  replace OZ2 := Lib.hid (OZ2.out.below hb)
  replace KU := Lib.hid (KU.out.below hb KU.out.lt)
  replace OU := Lib.hid (OU.out.below hb)
  replace KU2 := Lib.hid (KU2.out.below hb KU2.out.lt)
  replace OU2 := Lib.hid (OU2.out.below hb)
  replace Rv := Lib.hid ((Rv.out.below hb).more hb.size)
  replace Rv2 := Lib.hid ((Rv2.out.below hb).more hb.size)
  replace OI := Lib.hid (own_below OI.out hb)
  have z14 : w13.heap.size ≤ (grow (redrawn w13 dq) osq).heap.size := hb.size
  clear hb u1 u2 FX FY FZ FU FC FM hED
  clear k00 k01 ko0 ko1 kx0 kx1 kx20 kx21 ky0 ky1 ky20 ky21 kz0 kz1 kz20 kz21 ku0 ku1 ku20 ku21
  generalize grow (redrawn w13 dq) osq = V0 at *
  have y0 := KX.out.cell 0
  have y1 := KX.out.cell 1
  go_wp2_with fail
  refine (turn_any DX w3.heap.size w4.heap.size _ OX.out IX.out (by omega)).mono ?_
  rintro e15 V1 ⟨rfl, ht⟩
  have z15 : V0.heap.size ≤ V1.heap.size := ht.size
  replace C0 := Lib.hid (C0.out.trans (ht.below (by omega) C0.out.size))
  replace OI := Lib.hid (own_touch OI.out II.out ht (by omega))
  replace OO := Lib.hid (OO.out.touch INO.out ht (by omega))
  replace K0 := Lib.hid (ht.blk K0.out (by omega))
  replace KO := Lib.hid (ht.blk KO.out (by omega))
  replace KY := Lib.hid (ht.blk KY.out (by omega))
  replace OY := Lib.hid (OY.out.touch IY.out ht (by omega))
  replace KZ := Lib.hid (ht.blk KZ.out (by omega))
  replace OZ := Lib.hid (OZ.out.touch IZ.out ht (by omega))
  replace KU := Lib.hid (ht.blk KU.out (by omega))
  replace OU := Lib.hid (OU.out.touch IU.out ht (by omega))
  clear ht y0 y1 KX OX
  have y0 := KY.out.cell 0
  have y1 := KY.out.cell 1
  go_wp2_with fail
  refine (turn_any DY (w5.heap.size + 1) w6.heap.size _ OY.out IY.out (by omega)).mono ?_
  rintro e16 V2 ⟨rfl, ht⟩
  have z16 : V1.heap.size ≤ V2.heap.size := ht.size
  replace C0 := Lib.hid (C0.out.trans (ht.below (by omega) C0.out.size))
  replace OI := Lib.hid (own_touch OI.out II.out ht (by omega))
  replace OO := Lib.hid (OO.out.touch INO.out ht (by omega))
  replace K0 := Lib.hid (ht.blk K0.out (by omega))
  replace KO := Lib.hid (ht.blk KO.out (by omega))
  replace KZ := Lib.hid (ht.blk KZ.out (by omega))
  replace OZ := Lib.hid (OZ.out.touch IZ.out ht (by omega))
  replace KU := Lib.hid (ht.blk KU.out (by omega))
  replace OU := Lib.hid (OU.out.touch IU.out ht (by omega))
  clear ht y0 y1 KY OY
  have y0 := KZ.out.cell 0
  have y1 := KZ.out.cell 1
  go_wp2_with fail
  refine (turn_any DZ (w7.heap.size + 1) w8.heap.size _ OZ.out IZ.out (by omega)).mono ?_
  rintro e17 V3 ⟨rfl, ht⟩
  have z17 : V2.heap.size ≤ V3.heap.size := ht.size
  replace C0 := Lib.hid (C0.out.trans (ht.below (by omega) C0.out.size))
  replace OI := Lib.hid (own_touch OI.out II.out ht (by omega))
  replace OO := Lib.hid (OO.out.touch INO.out ht (by omega))
  replace K0 := Lib.hid (ht.blk K0.out (by omega))
  replace KO := Lib.hid (ht.blk KO.out (by omega))
  replace KU := Lib.hid (ht.blk KU.out (by omega))
  replace OU := Lib.hid (OU.out.touch IU.out ht (by omega))
  clear ht y0 y1 KZ OZ
  have y0 := KU.out.cell 0
  have y1 := KU.out.cell 1
  go_wp2_with fail
  refine (turn_any DU (w9.heap.size + 1) w10.heap.size _ OU.out IU.out (by omega)).mono ?_
  rintro e18 V4 ⟨rfl, ht⟩
  have z18 : V3.heap.size ≤ V4.heap.size := ht.size
  replace C0 := Lib.hid (C0.out.trans (ht.below (by omega) C0.out.size))
  replace OI := Lib.hid (own_touch OI.out II.out ht (by omega))
  replace OO := Lib.hid (OO.out.touch INO.out ht (by omega))
  replace K0 := Lib.hid (ht.blk K0.out (by omega))
  replace KO := Lib.hid (ht.blk KO.out (by omega))
  clear ht y0 y1 KU OU
  have y0 := K0.out.cell 0
  have y1 := K0.out.cell 1
  have x0 := KO.out.cell 0
  have x1 := KO.out.cell 1
  go_wp2_with fail
  refine (rsame_yes DO D _ OO.out.at_ ((HD0.out.below C0.out).more C0.out.size) EO.out).mono ?_
  rintro e19 V5 ⟨rfl, hb⟩
  have CF := Lib.hid (C0.out.trans (hb.mono C0.out.size))
  have u1 := conv_b (c := cI) ((Reads.of_own OI.out).below hb)
  have u2 := conv_b (c := c) (HB0.out.1.below CF.out)
  clear hb y0 y1 x0 x1
  go_wp2
  go_ret
  exact ⟨rfl, CF.out⟩
end Go.Proofs.Ytihinhdgfbnlmaa
