/-
  The walk of DiskSwaps. No condition.
-/
import Derived.Test.YtihinhdgfbnlmaaDiskSees
namespace Go.Proofs.Ytihinhdgfbnlmaa
open Go.RowKit
set_option maxHeartbeats 8000000
set_option maxRecDepth 100000
set_option linter.unusedVariables false
set_option linter.unusedSimpArgs false

theorem S_extract (l : List UInt8) (k : Nat) : (S l).extract 0 k = S (l.take k) := by
  apply ByteArray.ext
  apply Array.toList_inj.1
  simp [S, ByteArray.data_extract]
theorem run_str_to {P : Program} (t : TypeId) (ht : P.underlying t = some .string) (l : List UInt8) (k : Nat) (hk : k ≤ l.length) (w : World) :
    (Instr.slice t (.string (S l)) none (some (.int .i64 (k : Int))) none).run P w = .ok (.string (S (l.take k))) w := by
  have h := run_slice_string_h (P := P) w t (S l) ht .i64 (k : Int) (by omega) (by rw [S_size]; omega)
  rw [h, Int.toNat_natCast, S_extract]
theorem app_take (s a : List UInt8) (m : Nat) : s ++ a.take m = (s ++ a).take (s ++ a.take m).length := by
  rw [List.length_append, List.length_take, List.take_length_add_append, take_min]
theorem swaps_plain {d S X Y Z R : Dp.Disk} {a b c : List UInt8} {keep many : Int} (hS : Dp.sync d = (S, 0)) (hX : Dp.write S ⟨false, a⟩ = (X, 0)) (hY : Dp.write X ⟨true, b⟩ = (Y, 0)) (hZ : Dp.write Y ⟨false, c⟩ = (Z, 0)) (hR : Dp.crash Z keep many = (R, 0)) :
    (keep < 2 → R.data = (S.data ++ a).take R.data.length ∧ S.data.length ≤ R.data.length ∧ R.data.length ≤ S.data.length + a.length) ∧
    (¬ keep < 2 → R.data = (b ++ c).take R.data.length ∧ b.length ≤ R.data.length ∧ R.data.length ≤ b.length + c.length) ∧ S.data.length + a.length ≤ 1048576 ∧ b.length + c.length ≤ 1048576 := by
  have m0 : Dp.mayD d = true := by
    cases hm : Dp.mayD d with
    | true => rfl
    | false => rw [Dp.sync, if_neg (by rw [hm]; simp)] at hS; simp at hS
  have e0 := (Dp.sync_see m0).1
  rw [hS] at e0
  have e1 : S = ⟨Dp.seen d, []⟩ := (Prod.mk.inj e0).1
  obtain ⟨m1, -, e2⟩ := Dp.write_is (d := S) (p := ⟨false, a⟩) (by rw [hX])
  obtain ⟨m2, -, e3⟩ := Dp.write_is (d := X) (p := ⟨true, b⟩) (by rw [hY])
  obtain ⟨m3, m4, e4⟩ := Dp.write_is (d := Y) (p := ⟨false, c⟩) (by rw [hZ])
  rw [hX] at e2
  rw [hY] at e3
  rw [hZ] at e4
  simp only at e2 e3 e4
  subst e1
  subst e2
  subst e3
  subst e4
  generalize Dp.seen d = s at *
  have f2 : s.length + a.length ≤ 1048576 := by
    have h := Dp.mayD_fits m2
    simp [Dp.fits, Dp.step] at h
    omega
  have f4 : b.length + c.length ≤ 1048576 := by
    have h := Dp.mayD_fits m4
    simp [Dp.fits, Dp.step] at h
    omega
  unfold Dp.crash at hR
  rw [if_pos m4] at hR
  split at hR
  · simp at hR
  · rename_i hk
    simp only [List.nil_append, List.cons_append, List.length_cons, List.length_nil] at hk hR
    have e5 := (Prod.mk.inj hR).1
    subst e5
    obtain ⟨m, rfl⟩ : ∃ m : Nat, many = m := ⟨many.toNat, by omega⟩
    obtain rfl | rfl | rfl | rfl : keep = 0 ∨ keep = 1 ∨ keep = 2 ∨ keep = 3 := by omega
    · refine ⟨fun _ => ?_, fun h => absurd (by omega) h, f2, f4⟩
      have e : (⟨Dp.done s (List.take (0 : Int).toNat [⟨false, a⟩, ⟨true, b⟩, ⟨false, c⟩]) ++ Dp.part [⟨false, a⟩, ⟨true, b⟩, ⟨false, c⟩] (0 : Int).toNat (m : Int).toNat, []⟩ : Dp.Disk).data = s ++ a.take m := by simp [Dp.done, Dp.part]
      rw [e]
      exact ⟨app_take s a m, by simp, by simp; omega⟩
    · refine ⟨fun _ => ?_, fun h => absurd (by omega) h, f2, f4⟩
      have e : (⟨Dp.done s (List.take (1 : Int).toNat [⟨false, a⟩, ⟨true, b⟩, ⟨false, c⟩]) ++ Dp.part [⟨false, a⟩, ⟨true, b⟩, ⟨false, c⟩] (1 : Int).toNat (m : Int).toNat, []⟩ : Dp.Disk).data = s ++ a := by simp [Dp.done, Dp.part, Dp.step]
      rw [e]
      exact ⟨(List.take_of_length_le (Nat.le_refl _)).symm, by simp, by simp⟩
    · refine ⟨fun h => absurd h (by omega), fun _ => ?_, f2, f4⟩
      have e : (⟨Dp.done s (List.take (2 : Int).toNat [⟨false, a⟩, ⟨true, b⟩, ⟨false, c⟩]) ++ Dp.part [⟨false, a⟩, ⟨true, b⟩, ⟨false, c⟩] (2 : Int).toNat (m : Int).toNat, []⟩ : Dp.Disk).data = b ++ c.take m := by simp [Dp.done, Dp.part, Dp.step]
      rw [e]
      exact ⟨app_take b c m, by simp, by simp; omega⟩
    · refine ⟨fun h => absurd h (by omega), fun _ => ?_, f2, f4⟩
      have e : (⟨Dp.done s (List.take (3 : Int).toNat [⟨false, a⟩, ⟨true, b⟩, ⟨false, c⟩]) ++ Dp.part [⟨false, a⟩, ⟨true, b⟩, ⟨false, c⟩] (3 : Int).toNat (m : Int).toNat, []⟩ : Dp.Disk).data = b ++ c := by simp [Dp.done, Dp.part, Dp.step]
      rw [e]
      exact ⟨(List.take_of_length_le (Nat.le_refl _)).symm, by simp, by simp⟩

theorem swaps (D : HD) (A1 : Option Addr) (n1 c1 : Nat) (l1 : List UInt8) (A2 : Option Addr) (n2 c2 : Nat) (l2 : List UInt8) (A3 : Option Addr) (n3 c3 : Nat) (l3 : List UInt8) (keep many : Int) (w : World) (hD : DiskAt w w.heap.size D)
    (hB1 : IsBytes w A1 n1 c1 l1) (k1 : c1 ≤ 140737488351232) (hB2 : IsBytes w A2 n2 c2 l2) (k2 : c2 ≤ 140737488351232) (hB3 : IsBytes w A3 n3 c3 l3) (k3 : c3 ≤ 140737488351232)
    (hk : -9223372036854775808 ≤ keep ∧ keep ≤ 9223372036854775807) (hm : -9223372036854775808 ≤ many ∧ many ≤ 9223372036854775807) :
    Calls Try.prog 7 #[.agg #[.slice D.A D.n D.c, .slice D.WA D.Wn D.Wc], .slice A1 n1 c1, .slice A2 n2 c2, .slice A3 n3 c3, .int .i64 keep, .int .i64 many] w fun e w' => e = .returned (.bool true) ∧ Below w.heap.size w w' := by
  have hkl := hk.1
  have hkh := hk.2
  have hmh := hm.2
  have P1 := Lib.hid (show PutAt w w.heap.size ⟨false, A1, n1, c1, l1⟩ from ⟨hB1.1, hB1.2.1, hB1.2.2, by show n1 ≤ _; have := hB1.2.1; omega⟩)
  have P2 := Lib.hid (show PutAt w w.heap.size ⟨true, A2, n2, c2, l2⟩ from ⟨hB2.1, hB2.2.1, hB2.2.2, by show n2 ≤ _; have := hB2.2.1; omega⟩)
  have P3 := Lib.hid (show PutAt w w.heap.size ⟨false, A3, n3, c3, l3⟩ from ⟨hB3.1, hB3.2.1, hB3.2.2, by show n3 ≤ _; have := hB3.2.1; omega⟩)
  have L1 := Lib.hid hB1.1.len_b
  have L2 := Lib.hid hB2.1.len_b
  have L3 := Lib.hid hB3.1.len_b
  have K0 := Lib.hid (Blk.new w 25 #[.slice D.A D.n D.c, .slice D.WA D.Wn D.Wc])
  have C0 := Lib.hid ((Below.refl _ w).alloc (Nat.le_refl w.heap.size) (.cells #[.slice D.A D.n D.c, .slice D.WA D.Wn D.Wc] 25))
  have D0 := Lib.hid (hD.alloc (.cells #[.slice D.A D.n D.c, .slice D.WA D.Wn D.Wc] 25))
  replace P1 := Lib.hid (P1.out.alloc (.cells #[.slice D.A D.n D.c, .slice D.WA D.Wn D.Wc] 25))
  replace P2 := Lib.hid (P2.out.alloc (.cells #[.slice D.A D.n D.c, .slice D.WA D.Wn D.Wc] 25))
  replace P3 := Lib.hid (P3.out.alloc (.cells #[.slice D.A D.n D.c, .slice D.WA D.Wn D.Wc] 25))
  clear hD hB1 hB2 hB3 hk hm k1 k2 k3
  obtain ⟨S', e, hS⟩ : ∃ S e, Dp.sync D.disk = (S, e) := ⟨_, _, rfl⟩
  obtain ⟨X, f, hX⟩ : ∃ X f, Dp.write S' ⟨false, l1⟩ = (X, f) := ⟨_, _, rfl⟩
  obtain ⟨Y, g, hY⟩ : ∃ Y g, Dp.write X ⟨true, l2⟩ = (Y, g) := ⟨_, _, rfl⟩
  obtain ⟨Z, h, hZ⟩ : ∃ Z h, Dp.write Y ⟨false, l3⟩ = (Z, h) := ⟨_, _, rfl⟩
  obtain ⟨R, i, hR⟩ : ∃ R i, Dp.crash Z keep many = (R, i) := ⟨_, _, rfl⟩
  have HS := Lib.hid hS
  have HX := Lib.hid hX
  have HY := Lib.hid hY
  have HZ := Lib.hid hZ
  have HR := Lib.hid hR
  clear hS hX hY hZ hR
  go_enter Try.func7, Try.ntmps7
  go_wp2_with fail
  refine (alive03_any _).mono ?_
  rintro e w1 ⟨rfl, hb⟩
  replace K0 := Lib.hid (K0.out.below hb K0.out.lt)
  replace C0 := Lib.hid (C0.out.trans (hb.mono C0.out.size))
  replace D0 := Lib.hid (D0.out.up hb)
  replace P1 := Lib.hid (P1.out.up hb)
  replace P2 := Lib.hid (P2.out.up hb)
  replace P3 := Lib.hid (P3.out.up hb)
  clear hb
  have y0 := K0.out.cell 0
  have y1 := K0.out.cell 1
  go_wp2_with fail
  refine (sync_is D _ S' e HS.out D0.out).mono ?_
  rintro e2 w2 ⟨DS, rfl, hx, hex, hb⟩
  have KS := Lib.hid (Blk.new w2 25 #[.slice DS.A DS.n DS.c, .slice DS.WA DS.Wn DS.Wc])
  have D1S := Lib.hid (hx.at_.alloc (.cells #[.slice DS.A DS.n DS.c, .slice DS.WA DS.Wn DS.Wc] 25))
  have ES := Lib.hid hex
  replace K0 := Lib.hid ((K0.out.below hb K0.out.lt).alloc (.cells #[.slice DS.A DS.n DS.c, .slice DS.WA DS.Wn DS.Wc] 25))
  replace C0 := Lib.hid (below_alloc (C0.out.trans (hb.mono C0.out.size)) (.cells #[.slice DS.A DS.n DS.c, .slice DS.WA DS.Wn DS.Wc] 25))
  replace D0 := Lib.hid ((D0.out.up hb).alloc (.cells #[.slice DS.A DS.n DS.c, .slice DS.WA DS.Wn DS.Wc] 25))
  replace P1 := Lib.hid ((P1.out.up hb).alloc (.cells #[.slice DS.A DS.n DS.c, .slice DS.WA DS.Wn DS.Wc] 25))
  replace P2 := Lib.hid ((P2.out.up hb).alloc (.cells #[.slice DS.A DS.n DS.c, .slice DS.WA DS.Wn DS.Wc] 25))
  replace P3 := Lib.hid ((P3.out.up hb).alloc (.cells #[.slice DS.A DS.n DS.c, .slice DS.WA DS.Wn DS.Wc] 25))
  clear hx hex hb y0 y1
  have y0 := KS.out.cell 0
  have y1 := KS.out.cell 1
  go_wp2_with fail
  refine (append_is DS A1 n1 c1 l1 _ X f (by rw [ES.out]; exact HX.out) D1S.out P1.out).mono ?_
  rintro e3 w3 ⟨DX, rfl, hx, hex, hb⟩
  have KX := Lib.hid (Blk.new w3 25 #[.slice DX.A DX.n DX.c, .slice DX.WA DX.Wn DX.Wc])
  have D1X := Lib.hid (hx.at_.alloc (.cells #[.slice DX.A DX.n DX.c, .slice DX.WA DX.Wn DX.Wc] 25))
  have EX := Lib.hid hex
  replace K0 := Lib.hid ((K0.out.below hb K0.out.lt).alloc (.cells #[.slice DX.A DX.n DX.c, .slice DX.WA DX.Wn DX.Wc] 25))
  replace C0 := Lib.hid (below_alloc (C0.out.trans (hb.mono C0.out.size)) (.cells #[.slice DX.A DX.n DX.c, .slice DX.WA DX.Wn DX.Wc] 25))
  replace D0 := Lib.hid ((D0.out.up hb).alloc (.cells #[.slice DX.A DX.n DX.c, .slice DX.WA DX.Wn DX.Wc] 25))
  replace P1 := Lib.hid ((P1.out.up hb).alloc (.cells #[.slice DX.A DX.n DX.c, .slice DX.WA DX.Wn DX.Wc] 25))
  replace P2 := Lib.hid ((P2.out.up hb).alloc (.cells #[.slice DX.A DX.n DX.c, .slice DX.WA DX.Wn DX.Wc] 25))
  replace P3 := Lib.hid ((P3.out.up hb).alloc (.cells #[.slice DX.A DX.n DX.c, .slice DX.WA DX.Wn DX.Wc] 25))
  replace KS := Lib.hid ((KS.out.below hb KS.out.lt).alloc (.cells #[.slice DX.A DX.n DX.c, .slice DX.WA DX.Wn DX.Wc] 25))
  replace D1S := Lib.hid ((D1S.out.up hb).alloc (.cells #[.slice DX.A DX.n DX.c, .slice DX.WA DX.Wn DX.Wc] 25))
  clear hx hex hb y0 y1
  have y0 := KX.out.cell 0
  have y1 := KX.out.cell 1
  go_wp2_with fail
  refine (swap_is DX A2 n2 c2 l2 _ Y g (by rw [EX.out]; exact HY.out) D1X.out P2.out).mono ?_
  rintro e4 w4 ⟨DY, rfl, hx, hex, hb⟩
  have KY := Lib.hid (Blk.new w4 25 #[.slice DY.A DY.n DY.c, .slice DY.WA DY.Wn DY.Wc])
  have D1Y := Lib.hid (hx.at_.alloc (.cells #[.slice DY.A DY.n DY.c, .slice DY.WA DY.Wn DY.Wc] 25))
  have EY := Lib.hid hex
  replace K0 := Lib.hid ((K0.out.below hb K0.out.lt).alloc (.cells #[.slice DY.A DY.n DY.c, .slice DY.WA DY.Wn DY.Wc] 25))
  replace C0 := Lib.hid (below_alloc (C0.out.trans (hb.mono C0.out.size)) (.cells #[.slice DY.A DY.n DY.c, .slice DY.WA DY.Wn DY.Wc] 25))
  replace D0 := Lib.hid ((D0.out.up hb).alloc (.cells #[.slice DY.A DY.n DY.c, .slice DY.WA DY.Wn DY.Wc] 25))
  replace P1 := Lib.hid ((P1.out.up hb).alloc (.cells #[.slice DY.A DY.n DY.c, .slice DY.WA DY.Wn DY.Wc] 25))
  replace P2 := Lib.hid ((P2.out.up hb).alloc (.cells #[.slice DY.A DY.n DY.c, .slice DY.WA DY.Wn DY.Wc] 25))
  replace P3 := Lib.hid ((P3.out.up hb).alloc (.cells #[.slice DY.A DY.n DY.c, .slice DY.WA DY.Wn DY.Wc] 25))
  replace KS := Lib.hid ((KS.out.below hb KS.out.lt).alloc (.cells #[.slice DY.A DY.n DY.c, .slice DY.WA DY.Wn DY.Wc] 25))
  replace D1S := Lib.hid ((D1S.out.up hb).alloc (.cells #[.slice DY.A DY.n DY.c, .slice DY.WA DY.Wn DY.Wc] 25))
  replace KX := Lib.hid ((KX.out.below hb KX.out.lt).alloc (.cells #[.slice DY.A DY.n DY.c, .slice DY.WA DY.Wn DY.Wc] 25))
  replace D1X := Lib.hid ((D1X.out.up hb).alloc (.cells #[.slice DY.A DY.n DY.c, .slice DY.WA DY.Wn DY.Wc] 25))
  clear hx hex hb y0 y1
  have y0 := KY.out.cell 0
  have y1 := KY.out.cell 1
  go_wp2_with fail
  refine (append_is DY A3 n3 c3 l3 _ Z h (by rw [EY.out]; exact HZ.out) D1Y.out P3.out).mono ?_
  rintro e5 w5 ⟨DZ, rfl, hx, hex, hb⟩
  have KZ := Lib.hid (Blk.new w5 25 #[.slice DZ.A DZ.n DZ.c, .slice DZ.WA DZ.Wn DZ.Wc])
  have D1Z := Lib.hid (hx.at_.alloc (.cells #[.slice DZ.A DZ.n DZ.c, .slice DZ.WA DZ.Wn DZ.Wc] 25))
  have EZ := Lib.hid hex
  replace K0 := Lib.hid ((K0.out.below hb K0.out.lt).alloc (.cells #[.slice DZ.A DZ.n DZ.c, .slice DZ.WA DZ.Wn DZ.Wc] 25))
  replace C0 := Lib.hid (below_alloc (C0.out.trans (hb.mono C0.out.size)) (.cells #[.slice DZ.A DZ.n DZ.c, .slice DZ.WA DZ.Wn DZ.Wc] 25))
  replace D0 := Lib.hid ((D0.out.up hb).alloc (.cells #[.slice DZ.A DZ.n DZ.c, .slice DZ.WA DZ.Wn DZ.Wc] 25))
  replace P1 := Lib.hid ((P1.out.up hb).alloc (.cells #[.slice DZ.A DZ.n DZ.c, .slice DZ.WA DZ.Wn DZ.Wc] 25))
  replace P2 := Lib.hid ((P2.out.up hb).alloc (.cells #[.slice DZ.A DZ.n DZ.c, .slice DZ.WA DZ.Wn DZ.Wc] 25))
  replace P3 := Lib.hid ((P3.out.up hb).alloc (.cells #[.slice DZ.A DZ.n DZ.c, .slice DZ.WA DZ.Wn DZ.Wc] 25))
  replace KS := Lib.hid ((KS.out.below hb KS.out.lt).alloc (.cells #[.slice DZ.A DZ.n DZ.c, .slice DZ.WA DZ.Wn DZ.Wc] 25))
  replace D1S := Lib.hid ((D1S.out.up hb).alloc (.cells #[.slice DZ.A DZ.n DZ.c, .slice DZ.WA DZ.Wn DZ.Wc] 25))
  replace KX := Lib.hid ((KX.out.below hb KX.out.lt).alloc (.cells #[.slice DZ.A DZ.n DZ.c, .slice DZ.WA DZ.Wn DZ.Wc] 25))
  replace D1X := Lib.hid ((D1X.out.up hb).alloc (.cells #[.slice DZ.A DZ.n DZ.c, .slice DZ.WA DZ.Wn DZ.Wc] 25))
  replace KY := Lib.hid ((KY.out.below hb KY.out.lt).alloc (.cells #[.slice DZ.A DZ.n DZ.c, .slice DZ.WA DZ.Wn DZ.Wc] 25))
  replace D1Y := Lib.hid ((D1Y.out.up hb).alloc (.cells #[.slice DZ.A DZ.n DZ.c, .slice DZ.WA DZ.Wn DZ.Wc] 25))
  clear hx hex hb y0 y1
  have y0 := KZ.out.cell 0
  have y1 := KZ.out.cell 1
  go_wp2_with fail
  refine (crash_is DZ keep many _ R i (by rw [EZ.out]; exact HR.out) D1Z.out hmh).mono ?_
  rintro e6 w6 ⟨DR, rfl, hx, hex, hb⟩
  have KR := Lib.hid (Blk.new w6 25 #[.slice DR.A DR.n DR.c, .slice DR.WA DR.Wn DR.Wc])
  have D1R := Lib.hid (hx.at_.alloc (.cells #[.slice DR.A DR.n DR.c, .slice DR.WA DR.Wn DR.Wc] 25))
  have ER := Lib.hid hex
  replace K0 := Lib.hid ((K0.out.below hb K0.out.lt).alloc (.cells #[.slice DR.A DR.n DR.c, .slice DR.WA DR.Wn DR.Wc] 25))
  replace C0 := Lib.hid (below_alloc (C0.out.trans (hb.mono C0.out.size)) (.cells #[.slice DR.A DR.n DR.c, .slice DR.WA DR.Wn DR.Wc] 25))
  replace D0 := Lib.hid ((D0.out.up hb).alloc (.cells #[.slice DR.A DR.n DR.c, .slice DR.WA DR.Wn DR.Wc] 25))
  replace P1 := Lib.hid ((P1.out.up hb).alloc (.cells #[.slice DR.A DR.n DR.c, .slice DR.WA DR.Wn DR.Wc] 25))
  replace P2 := Lib.hid ((P2.out.up hb).alloc (.cells #[.slice DR.A DR.n DR.c, .slice DR.WA DR.Wn DR.Wc] 25))
  replace P3 := Lib.hid ((P3.out.up hb).alloc (.cells #[.slice DR.A DR.n DR.c, .slice DR.WA DR.Wn DR.Wc] 25))
  replace KS := Lib.hid ((KS.out.below hb KS.out.lt).alloc (.cells #[.slice DR.A DR.n DR.c, .slice DR.WA DR.Wn DR.Wc] 25))
  replace D1S := Lib.hid ((D1S.out.up hb).alloc (.cells #[.slice DR.A DR.n DR.c, .slice DR.WA DR.Wn DR.Wc] 25))
  replace KX := Lib.hid ((KX.out.below hb KX.out.lt).alloc (.cells #[.slice DR.A DR.n DR.c, .slice DR.WA DR.Wn DR.Wc] 25))
  replace D1X := Lib.hid ((D1X.out.up hb).alloc (.cells #[.slice DR.A DR.n DR.c, .slice DR.WA DR.Wn DR.Wc] 25))
  replace KY := Lib.hid ((KY.out.below hb KY.out.lt).alloc (.cells #[.slice DR.A DR.n DR.c, .slice DR.WA DR.Wn DR.Wc] 25))
  replace D1Y := Lib.hid ((D1Y.out.up hb).alloc (.cells #[.slice DR.A DR.n DR.c, .slice DR.WA DR.Wn DR.Wc] 25))
  replace KZ := Lib.hid ((KZ.out.below hb KZ.out.lt).alloc (.cells #[.slice DR.A DR.n DR.c, .slice DR.WA DR.Wn DR.Wc] 25))
  replace D1Z := Lib.hid ((D1Z.out.up hb).alloc (.cells #[.slice DR.A DR.n DR.c, .slice DR.WA DR.Wn DR.Wc] 25))
  clear hx hex hb y0 y1
  have y0 := K0.out.cell 0
  have y1 := K0.out.cell 1
  go_wp2_with fail
  refine (rgreat_any D _ D0.out).mono ?_
  rintro e7 w7 ⟨⟨r, rfl, -⟩, hb⟩
  replace K0 := Lib.hid (K0.out.below hb K0.out.lt)
  replace C0 := Lib.hid (C0.out.trans (hb.mono C0.out.size))
  replace D0 := Lib.hid (D0.out.up hb)
  replace P1 := Lib.hid (P1.out.up hb)
  replace P2 := Lib.hid (P2.out.up hb)
  replace P3 := Lib.hid (P3.out.up hb)
  replace KS := Lib.hid (KS.out.below hb KS.out.lt)
  replace D1S := Lib.hid (D1S.out.up hb)
  replace KX := Lib.hid (KX.out.below hb KX.out.lt)
  replace D1X := Lib.hid (D1X.out.up hb)
  replace KY := Lib.hid (KY.out.below hb KY.out.lt)
  replace D1Y := Lib.hid (D1Y.out.up hb)
  replace KZ := Lib.hid (KZ.out.below hb KZ.out.lt)
  replace D1Z := Lib.hid (D1Z.out.up hb)
  replace KR := Lib.hid (KR.out.below hb KR.out.lt)
  replace D1R := Lib.hid (D1R.out.up hb)
  clear hb y0 y1 KX KY KZ
  cases r with
  | true => go_wp2; go_ret; exact ⟨rfl, C0.out⟩
  | false =>
  by_cases qe : e = 0
  case neg =>
    have de : decide (e = 0) = false := decide_eq_false qe
    go_wp2; go_ret; exact ⟨rfl, C0.out⟩
  subst qe
  by_cases qf : f = 0
  case neg =>
    have df : decide (f = 0) = false := decide_eq_false qf
    go_wp2; go_ret; exact ⟨rfl, C0.out⟩
  subst qf
  by_cases qg : g = 0
  case neg =>
    have dg : decide (g = 0) = false := decide_eq_false qg
    go_wp2; go_ret; exact ⟨rfl, C0.out⟩
  subst qg
  by_cases qh : h = 0
  case neg =>
    have dh : decide (h = 0) = false := decide_eq_false qh
    go_wp2; go_ret; exact ⟨rfl, C0.out⟩
  subst qh
  by_cases qi : i = 0
  case neg =>
    have di : decide (i = 0) = false := decide_eq_false qi
    go_wp2; go_ret; exact ⟨rfl, C0.out⟩
  subst qi
  obtain ⟨p1, p2, p3, p4⟩ := swaps_plain HS.out HX.out HY.out HZ.out HR.out
  have PL1 := Lib.hid p1
  have PL2 := Lib.hid p2
  have LS : Hid (S'.data.length = DS.n) := by rw [Hid, ← ES.out]; exact D1S.out.len_d
  have LR : Hid (R.data.length = DR.n) := by rw [Hid, ← ER.out]; exact D1R.out.len_d
  have ds : DS.d = S'.data := congrArg Dp.Disk.data ES.out
  have dr : DR.d = R.data := congrArg Dp.Disk.data ER.out
  have rs := D1S.out.rd
  have rr := D1R.out.rd
  rw [ds] at rs
  rw [dr] at rr
  have RS := Lib.hid rs
  have RR := Lib.hid rr
  rw [LS.out, L1.out] at p3
  rw [L2.out, L3.out] at p4
  clear p1 p2 ds dr rs rr HS HX HY HZ HR ES EX EY EZ ER D0 D1X D1Y D1Z
  obtain ⟨sd, hsd⟩ : ∃ sd, S'.data = sd := ⟨_, rfl⟩
  obtain ⟨rd, hrd⟩ : ∃ rd, R.data = rd := ⟨_, rfl⟩
  rw [hsd] at PL1 LS RS
  rw [hrd] at PL1 PL2 LR RR
  clear hsd hrd
  have y0 := KR.out.cell 0
  have z0 := KS.out.cell 0
  have v1 := conv_b (c := DS.c) RS.out
  have v2 := conv_b (c := c1) P1.out.1
  have v3 := fun q => conv_b (w := w7.drewN q) (c := DR.c) (RR.out.drewN q)
  have v4 := conv_b (c := c2) P2.out.1
  have v5 := conv_b (c := c3) P3.out.1
  by_cases hk2 : keep < 2
  · have dk : decide (keep < 2) = true := decide_eq_true hk2
    obtain ⟨t1, t2, t3⟩ := PL1.out hk2
    rw [LR.out, LS.out] at t2
    rw [LR.out, LS.out, L1.out] at t3
    have T1 : Hid ((sd ++ l1).take DR.n = rd) := by rw [Hid, ← LR.out]; exact t1.symm
    have sS := S_app2 sd l1
    have hsz : ¬ 9223372036854775807 < (S sd).size + (S l1).size := by rw [S_size, S_size, LS.out, L1.out]; omega
    have hln : (S (sd ++ l1)).size = DS.n + n1 := by rw [S_size, List.length_append, LS.out, L1.out]
    have hsl := fun W => run_str_to (P := Try.prog) 9 Try.underlying9 (sd ++ l1) DR.n (by rw [List.length_append, LS.out, L1.out]; omega) W
    rw [T1.out] at hsl
    have g3 : decide (DS.n ≤ DR.n) = true := decide_eq_true (by omega)
    have g4 : decide (DR.n ≤ DS.n + n1) = true := decide_eq_true (by omega)
    have g1 : decide ((DS.n : Int) ≤ (DR.n : Int)) = true := decide_eq_true (by omega)
    have g2 : decide ((DR.n : Int) ≤ (DS.n : Int) + (n1 : Int)) = true := decide_eq_true (by omega)
    clear t1 t2 t3 PL1 PL2
    go_wp2_with fail
    go_quiet (fail)
    go_wp2
    go_ret
    exact ⟨rfl, below_drewN C0.out _⟩
  · have dk : decide (keep < 2) = false := decide_eq_false hk2
    obtain ⟨t1, t2, t3⟩ := PL2.out hk2
    rw [LR.out, L2.out] at t2
    rw [LR.out, L2.out, L3.out] at t3
    have T1 : Hid ((l2 ++ l3).take DR.n = rd) := by rw [Hid, ← LR.out]; exact t1.symm
    have sS := S_app2 l2 l3
    have hsz : ¬ 9223372036854775807 < (S l2).size + (S l3).size := by rw [S_size, S_size, L2.out, L3.out]; omega
    have hln : (S (l2 ++ l3)).size = n2 + n3 := by rw [S_size, List.length_append, L2.out, L3.out]
    have hsl := fun W => run_str_to (P := Try.prog) 9 Try.underlying9 (l2 ++ l3) DR.n (by rw [List.length_append, L2.out, L3.out]; omega) W
    rw [T1.out] at hsl
    have g3 : decide (n2 ≤ DR.n) = true := decide_eq_true (by omega)
    have g4 : decide (DR.n ≤ n2 + n3) = true := decide_eq_true (by omega)
    have g1 : decide ((n2 : Int) ≤ (DR.n : Int)) = true := decide_eq_true (by omega)
    have g2 : decide ((DR.n : Int) ≤ (n2 : Int) + (n3 : Int)) = true := decide_eq_true (by omega)
    clear t1 t2 t3 PL1 PL2
    go_wp2_with fail
    go_quiet (fail)
    go_wp2
    go_ret
    exact ⟨rfl, below_drewN C0.out _⟩
end Go.Proofs.Ytihinhdgfbnlmaa
