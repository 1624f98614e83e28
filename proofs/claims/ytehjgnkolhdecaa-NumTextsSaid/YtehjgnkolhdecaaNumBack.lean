/-
  The walk of NumBack: what is written is read back, whatever stands behind; what is read is written as just these bytes.
-/
import Derived.Test.YtehjgnkolhdecaaNumApart
import Derived.Test.YtehjgnkolhdecaaNumMore
namespace Go.Proofs.Ytehjgnkolhdecaa
open Go.RowKit
set_option maxHeartbeats 400000
set_option maxRecDepth 100000
set_option linter.unusedVariables false

theorem get_is (A : Option Addr) (n c B : Nat) (l : List UInt8) (m k : Nat) (w : World) (hr : Reads w B 1 A n (cb l)) (hn : n ≤ 1000000000000) (h : Nm.get l = some (m, k)) :
    Calls Try.prog 18 #[.slice A n c] w fun e w' => e = .returned (.tuple #[.int .i64 (m : Int), .int .i64 (k : Int), .int .i64 0]) ∧ w = w' := by
  have := get_any A n c B l w hr hn
  rw [h] at this
  exact this
theorem get_no (A : Option Addr) (n c B : Nat) (l : List UInt8) (w : World) (hr : Reads w B 1 A n (cb l)) (hn : n ≤ 1000000000000) (h : Nm.get l = none) :
    Calls Try.prog 18 #[.slice A n c] w fun e w' => e = .returned (.tuple #[.int .i64 0, .int .i64 0, .int .i64 8]) ∧ w = w' := by
  have := get_any A n c B l w hr hn
  rw [h] at this
  exact this

theorem numBack_walk (n : Int) (A : Option Addr) (len cap : Nat) (l : List UInt8) (w : World) (hn : -9223372036854775808 ≤ n ∧ n ≤ 9223372036854775807) (hb : IsBytes w A len cap l) :
    Calls Try.prog 5 #[.int .i64 n, .slice A len cap] w fun e w' => e = .returned (.bool true) ∧ Below w.heap.size w w' := by
  obtain ⟨hn1, hn2⟩ := hn
  obtain ⟨hr, hc1, hc2⟩ := hb
  have hlen := hr.len_b
  unfold maxLen at hc2
  by_cases hbig : 10000 < len
  · clear hr hlen
    go_enter Try.func5, Try.ntmps5
    go_wp2_with fail
    refine (alive01 _).mono ?_
    rintro e w1 ⟨rfl, b1⟩
    have B1 := Lib.hid b1
    clear b1
    go_wp2
    go_ret
    exact ⟨rfl, B1.out⟩
  · have HR := Lib.hid hr
    have HLEN := Lib.hid hlen
    clear hr hlen
    by_cases cn : 0 ≤ n ∧ n ≤ 1099511627776
    · obtain ⟨cn1, cn2⟩ := cn
      obtain ⟨x, hx⟩ : ∃ l, Nm.enc n.toNat = l := ⟨_, rfl⟩
      obtain ⟨kx, hkx⟩ : ∃ k, x.length = k := ⟨_, rfl⟩
      have hk6 := Nm.enc_len6 (n := n.toNat) (by omega)
      rw [hx, hkx] at hk6
      have hgx := Nm.get_enc (n := n.toNat) (by omega) l
      rw [hx, hkx] at hgx
      have HGX := Lib.hid hgx
      have HX := Lib.hid hx
      have HKX := Lib.hid hkx
      clear hx hkx hgx
      rcases hg : Nm.get l with _ | ⟨m, k⟩
      · have HG := Lib.hid hg
        clear hg
        go_enter Try.func5, Try.ntmps5
        go_wp2_with fail
        refine (alive01 _).mono ?_
        rintro e w1 ⟨rfl, b1⟩
        have B1 := Lib.hid b1
        clear b1
        go_wp2_with fail
        refine (nput_is n x kx w1 cn1 cn2 HX.out HKX.out).mono ?_
        rintro e w2 ⟨A2, c2, rfl, o2, b2⟩
        have B2 := Lib.hid b2
        have O2 := Lib.hid o2
        clear b2 o2
        go_wp2_with (at_builtin; refine app_bs rfl _ (.tmp 40) rfl w2.heap.size (.slice none 0 0) 0 [] rfl (World.ownsRow_nil _ _ _ _) w2.heap.size A2 kx c2 x rfl (Reads.of_own O2.out) ?c1 ?c2 ?_)
        case c1 => omega
        case c2 => exact Nat.le_refl _
        intro v3 w3 o3 g3
        have B3 := Lib.hid (g3.below (Nat.le_refl _) (by simp [Value.ownBlock]))
        have O3 : Hid (w3.ownsRow w2.heap.size 5 1 v3 kx (cb x)) := by simpa [Hid] using o3
        clear o3 g3
        have r3 := Lib.hid ((HR.out.below (then_ B1.out B2.out)).below (B3.out.mono (then_ B1.out B2.out).size))
        go_wp2_with (at_builtin; refine app_bs rfl _ (.tmp 42) rfl w2.heap.size v3 kx x rfl O3.out w.heap.size A len cap l rfl r3.out ?c1 ?c2 ?_)
        case c1 => omega
        case c2 => exact B3.out.size
        intro v4 w4 o4 g4
        have B4 := Lib.hid (g4.belowOwn O3.out B3.out.size)
        have O4 := Lib.hid o4
        clear o4 g4
        obtain ⟨A4, c4, rfl, r4, _, _⟩ := own_form O4.out
        have R4 := Lib.hid r4
        clear r4
        go_wp2_with fail
        refine (get_is A4 (kx + len) c4 _ _ n.toNat kx w4 R4.out (by omega) HGX.out).mono ?_
        rintro e w5 ⟨rfl, rfl⟩
        have e1 : ((n.toNat : Int) != n) = false := by simp; omega
        have BW := Lib.hid (then_ (then_ B1.out B2.out) (B3.out.trans B4.out))
        go_wp2_with fail
        refine (get_no A len cap _ l _ (HR.out.below BW.out) (by omega) HG.out).mono ?_
        rintro e w6 ⟨rfl, rfl⟩
        go_wp2
        go_ret
        exact ⟨rfl, BW.out⟩
      · obtain ⟨hm1, hk2, hk3, hy⟩ := Nm.get_back hg
        obtain ⟨y, hyl⟩ : ∃ y, l.take k = y := ⟨_, rfl⟩
        rw [hyl] at hy
        have HYK : Hid (y.length = k) := by rw [← hy, ← hk2]; rfl
        have HY : Hid (Nm.enc ((m : Int)).toNat = y) := hy
        have HYL := Lib.hid hyl
        have HG := Lib.hid hg
        rw [HLEN.out] at hk3
        clear hg hy hyl hk2
        go_enter Try.func5, Try.ntmps5
        go_wp2_with fail
        refine (alive01 _).mono ?_
        rintro e w1 ⟨rfl, b1⟩
        have B1 := Lib.hid b1
        clear b1
        go_wp2_with fail
        refine (nput_is n x kx w1 cn1 cn2 HX.out HKX.out).mono ?_
        rintro e w2 ⟨A2, c2, rfl, o2, b2⟩
        have B2 := Lib.hid b2
        have O2 := Lib.hid o2
        clear b2 o2
        go_wp2_with (at_builtin; refine app_bs rfl _ (.tmp 40) rfl w2.heap.size (.slice none 0 0) 0 [] rfl (World.ownsRow_nil _ _ _ _) w2.heap.size A2 kx c2 x rfl (Reads.of_own O2.out) ?c1 ?c2 ?_)
        case c1 => omega
        case c2 => exact Nat.le_refl _
        intro v3 w3 o3 g3
        have B3 := Lib.hid (g3.below (Nat.le_refl _) (by simp [Value.ownBlock]))
        have O3 : Hid (w3.ownsRow w2.heap.size 5 1 v3 kx (cb x)) := by simpa [Hid] using o3
        clear o3 g3
        have r3 := Lib.hid ((HR.out.below (then_ B1.out B2.out)).below (B3.out.mono (then_ B1.out B2.out).size))
        go_wp2_with (at_builtin; refine app_bs rfl _ (.tmp 42) rfl w2.heap.size v3 kx x rfl O3.out w.heap.size A len cap l rfl r3.out ?c1 ?c2 ?_)
        case c1 => omega
        case c2 => exact B3.out.size
        intro v4 w4 o4 g4
        have B4 := Lib.hid (g4.belowOwn O3.out B3.out.size)
        have O4 := Lib.hid o4
        clear o4 g4
        obtain ⟨A4, c4, rfl, r4, _, _⟩ := own_form O4.out
        have R4 := Lib.hid r4
        clear r4
        go_wp2_with fail
        refine (get_is A4 (kx + len) c4 _ _ n.toNat kx w4 R4.out (by omega) HGX.out).mono ?_
        rintro e w5 ⟨rfl, rfl⟩
        have e1 : ((n.toNat : Int) != n) = false := by simp; omega
        have BW := Lib.hid (then_ (then_ B1.out B2.out) (B3.out.trans B4.out))
        go_wp2_with fail
        refine (get_is A len cap _ l m k _ (HR.out.below BW.out) (by omega) HG.out).mono ?_
        rintro e w6 ⟨rfl, rfl⟩
        go_wp2_with fail
        refine (nput_is (m : Int) y k _ (by omega) (by omega) HY.out HYK.out).mono ?_
        rintro e w7 ⟨A7, c7, rfl, o7, b7⟩
        have B7 := Lib.hid b7
        have r7 := Reads.of_own o7
        have s1 : ∀ w, (Instr.slice 23 (.slice A len cap) none (some (.int .i64 (k : Int))) none).run Try.prog w = .ok (.slice A k cap) w := fun w => run_slice_to Try.underlying23 A len cap k (by omega) w u8_size
        have r8 := ((HR.out.below (then_ BW.out b7)).first (k := k) hk3)
        rw [cb_take, HYL.out] at r8
        have v1 := fun q => run_conv (P := Try.prog) Try.underlying23 Try.underlying5 Try.underlying9 (w := w7.drewN q) (c := cap) (r8.drewN q)
        have v2 := fun q => run_conv (P := Try.prog) Try.underlying23 Try.underlying5 Try.underlying9 (w := w7.drewN q) (c := c7) (r7.drewN q)
        clear o7 b7 r7 r8
        go_wp2_with fail
        go_quiet (fail)
        go_wp2
        go_ret
        exact ⟨rfl, then_drewN (then_ BW.out B7.out) _⟩
    · have HCN := Lib.hid cn
      by_cases c0 : 0 ≤ n
      · have t1 : decide (n ≤ 1099511627776) = false := by simp; omega
        clear cn
        rcases hg : Nm.get l with _ | ⟨m, k⟩
        · have HG := Lib.hid hg
          clear hg
          go_enter Try.func5, Try.ntmps5
          go_wp2_with fail
          refine (alive01 _).mono ?_
          rintro e w1 ⟨rfl, b1⟩
          have B1 := Lib.hid b1
          clear b1
          go_wp2_with fail
          refine (nput_bad n w1 HCN.out).mono ?_
          rintro e w2 ⟨rfl, rfl⟩
          have BW := B1
          obtain ⟨w4, hw4⟩ : ∃ w4, w4 = w1 := ⟨_, rfl⟩
          subst hw4
          go_wp2_with fail
          refine (get_no A len cap _ l _ (HR.out.below BW.out) (by omega) HG.out).mono ?_
          rintro e w6 ⟨rfl, rfl⟩
          go_wp2
          go_ret
          exact ⟨rfl, BW.out⟩
        · obtain ⟨hm1, hk2, hk3, hy⟩ := Nm.get_back hg
          obtain ⟨y, hyl⟩ : ∃ y, l.take k = y := ⟨_, rfl⟩
          rw [hyl] at hy
          have HYK : Hid (y.length = k) := by rw [← hy, ← hk2]; rfl
          have HY : Hid (Nm.enc ((m : Int)).toNat = y) := hy
          have HYL := Lib.hid hyl
          have HG := Lib.hid hg
          rw [HLEN.out] at hk3
          clear hg hy hyl hk2
          go_enter Try.func5, Try.ntmps5
          go_wp2_with fail
          refine (alive01 _).mono ?_
          rintro e w1 ⟨rfl, b1⟩
          have B1 := Lib.hid b1
          clear b1
          go_wp2_with fail
          refine (nput_bad n w1 HCN.out).mono ?_
          rintro e w2 ⟨rfl, rfl⟩
          have BW := B1
          obtain ⟨w4, hw4⟩ : ∃ w4, w4 = w1 := ⟨_, rfl⟩
          subst hw4
          go_wp2_with fail
          refine (get_is A len cap _ l m k _ (HR.out.below BW.out) (by omega) HG.out).mono ?_
          rintro e w6 ⟨rfl, rfl⟩
          go_wp2_with fail
          refine (nput_is (m : Int) y k _ (by omega) (by omega) HY.out HYK.out).mono ?_
          rintro e w7 ⟨A7, c7, rfl, o7, b7⟩
          have B7 := Lib.hid b7
          have r7 := Reads.of_own o7
          have s1 : ∀ w, (Instr.slice 23 (.slice A len cap) none (some (.int .i64 (k : Int))) none).run Try.prog w = .ok (.slice A k cap) w := fun w => run_slice_to Try.underlying23 A len cap k (by omega) w u8_size
          have r8 := ((HR.out.below (then_ BW.out b7)).first (k := k) hk3)
          rw [cb_take, HYL.out] at r8
          have v1 := fun q => run_conv (P := Try.prog) Try.underlying23 Try.underlying5 Try.underlying9 (w := w7.drewN q) (c := cap) (r8.drewN q)
          have v2 := fun q => run_conv (P := Try.prog) Try.underlying23 Try.underlying5 Try.underlying9 (w := w7.drewN q) (c := c7) (r7.drewN q)
          clear o7 b7 r7 r8
          go_wp2_with fail
          go_quiet (fail)
          go_wp2
          go_ret
          exact ⟨rfl, then_drewN (then_ BW.out B7.out) _⟩
      · have t1 : decide (0 ≤ n) = false := by simp; omega
        clear cn c0
        rcases hg : Nm.get l with _ | ⟨m, k⟩
        · have HG := Lib.hid hg
          clear hg
          go_enter Try.func5, Try.ntmps5
          go_wp2_with fail
          refine (alive01 _).mono ?_
          rintro e w1 ⟨rfl, b1⟩
          have B1 := Lib.hid b1
          clear b1
          go_wp2_with fail
          refine (nput_bad n w1 HCN.out).mono ?_
          rintro e w2 ⟨rfl, rfl⟩
          have BW := B1
          obtain ⟨w4, hw4⟩ : ∃ w4, w4 = w1 := ⟨_, rfl⟩
          subst hw4
          go_wp2_with fail
          refine (get_no A len cap _ l _ (HR.out.below BW.out) (by omega) HG.out).mono ?_
          rintro e w6 ⟨rfl, rfl⟩
          go_wp2
          go_ret
          exact ⟨rfl, BW.out⟩
        · obtain ⟨hm1, hk2, hk3, hy⟩ := Nm.get_back hg
          obtain ⟨y, hyl⟩ : ∃ y, l.take k = y := ⟨_, rfl⟩
          rw [hyl] at hy
          have HYK : Hid (y.length = k) := by rw [← hy, ← hk2]; rfl
          have HY : Hid (Nm.enc ((m : Int)).toNat = y) := hy
          have HYL := Lib.hid hyl
          have HG := Lib.hid hg
          rw [HLEN.out] at hk3
          clear hg hy hyl hk2
          go_enter Try.func5, Try.ntmps5
          go_wp2_with fail
          refine (alive01 _).mono ?_
          rintro e w1 ⟨rfl, b1⟩
          have B1 := Lib.hid b1
          clear b1
          go_wp2_with fail
          refine (nput_bad n w1 HCN.out).mono ?_
          rintro e w2 ⟨rfl, rfl⟩
          have BW := B1
          obtain ⟨w4, hw4⟩ : ∃ w4, w4 = w1 := ⟨_, rfl⟩
          subst hw4
          go_wp2_with fail
          refine (get_is A len cap _ l m k _ (HR.out.below BW.out) (by omega) HG.out).mono ?_
          rintro e w6 ⟨rfl, rfl⟩
          go_wp2_with fail
          refine (nput_is (m : Int) y k _ (by omega) (by omega) HY.out HYK.out).mono ?_
          rintro e w7 ⟨A7, c7, rfl, o7, b7⟩
          have B7 := Lib.hid b7
          have r7 := Reads.of_own o7
          have s1 : ∀ w, (Instr.slice 23 (.slice A len cap) none (some (.int .i64 (k : Int))) none).run Try.prog w = .ok (.slice A k cap) w := fun w => run_slice_to Try.underlying23 A len cap k (by omega) w u8_size
          have r8 := ((HR.out.below (then_ BW.out b7)).first (k := k) hk3)
          rw [cb_take, HYL.out] at r8
          have v1 := fun q => run_conv (P := Try.prog) Try.underlying23 Try.underlying5 Try.underlying9 (w := w7.drewN q) (c := cap) (r8.drewN q)
          have v2 := fun q => run_conv (P := Try.prog) Try.underlying23 Try.underlying5 Try.underlying9 (w := w7.drewN q) (c := c7) (r7.drewN q)
          clear o7 b7 r7 r8
          go_wp2_with fail
          go_quiet (fail)
          go_wp2
          go_ret
          exact ⟨rfl, then_drewN (then_ BW.out B7.out) _⟩
end Go.Proofs.Ytehjgnkolhdecaa
