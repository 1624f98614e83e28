/-
  The walks of layer 1's first statements: alive, NumApart.
-/
import Derived.Test.YtehjgnkolhdecaaNum
namespace Go.Proofs.Ytehjgnkolhdecaa
open Go.RowKit
set_option maxHeartbeats 400000
set_option maxRecDepth 100000
set_option linter.unusedVariables false

theorem alive01 (w : World) : Calls Try.prog 13 #[] w fun e w' => e = .returned (.bool true) ∧ Below w.heap.size w w' := by
  go_enter Try.func13, Try.ntmps13
  go_wp2_with fail
  refine (nput_is 128 [128, 1] 2 _ (by omega) (by omega) (by decide) rfl).mono ?_
  rintro e w' ⟨A, c, rfl, ho, hb⟩
  have hr := Reads.of_own ho
  have HB := Lib.hid hb
  have hcv2 := run_conv Try.underlying23 Try.underlying5 Try.underlying9 hr (c := c)
  clear ho hb hr
  go_wp2
  go_ret
  exact ⟨rfl, HB.out⟩

theorem numApart_walk (n m : Int) (w : World) (hn : -9223372036854775808 ≤ n ∧ n ≤ 9223372036854775807) (hm : -9223372036854775808 ≤ m ∧ m ≤ 9223372036854775807) :
    Calls Try.prog 3 #[.int .i64 n, .int .i64 m] w fun e w' => e = .returned (.bool true) ∧ Below w.heap.size w w' := by
  obtain ⟨hn1, hn2⟩ := hn
  obtain ⟨hm1, hm2⟩ := hm
  by_cases cn : 0 ≤ n ∧ n ≤ 1099511627776
  · obtain ⟨cn1, cn2⟩ := cn
    obtain ⟨l, hl⟩ : ∃ l, Nm.enc n.toNat = l := ⟨_, rfl⟩
    obtain ⟨k, hk⟩ : ∃ k, l.length = k := ⟨_, rfl⟩
    by_cases cm : 0 ≤ m ∧ m ≤ 1099511627776
    · obtain ⟨cm1, cm2⟩ := cm
      obtain ⟨l', hl'⟩ : ∃ l, Nm.enc m.toNat = l := ⟨_, rfl⟩
      obtain ⟨k', hk'⟩ : ∃ k, l'.length = k := ⟨_, rfl⟩
      by_cases hne : n = m
      · subst hne
        have H1 := Lib.hid hl
        have H2 := Lib.hid hk
        clear hl hk hl' hk'
        go_enter Try.func3, Try.ntmps3
        go_wp2_with fail
        refine (alive01 _).mono ?_
        rintro e w1 ⟨rfl, b1⟩
        have B1 := Lib.hid b1
        clear b1
        go_wp2_with fail
        refine (nput_is n l k w1 cn1 cn2 H1.out H2.out).mono ?_
        rintro e w2 ⟨A, c, rfl, o2, b2⟩
        have B2 := Lib.hid b2
        clear b2 o2
        go_wp2_with fail
        refine (nput_is n l k w2 cn1 cn2 H1.out H2.out).mono ?_
        rintro e w3 ⟨A', c', rfl, o3, b3⟩
        have B3 := Lib.hid b3
        clear b3 o3
        go_wp2
        go_ret
        exact ⟨rfl, then_ (then_ B1.out B2.out) B3.out⟩
      · have hap : l.take (min k k') ≠ l'.take (min k k') := by
          rw [← hl, ← hl']
          exact Nm.apart (by omega) (by omega) (by omega) (by rw [hl, hl', hk, hk'])
        have hbeq : (n == m) = false := by simpa using hne
        have H1 := Lib.hid hl
        have H2 := Lib.hid hk
        have H3 := Lib.hid hl'
        have H4 := Lib.hid hk'
        have H6 := Lib.hid hne
        clear hl hk hl' hk' hne
        have hkk := Nat.lt_or_ge k' k
        rcases hkk with hkk | hkk
        · rw [Nat.min_eq_right (Nat.le_of_lt hkk)] at hap
          have H5 : Hid ((l.take k' == l'.take k') = false) := by simpa [Hid] using hap
          clear hap
          go_enter Try.func3, Try.ntmps3
          go_wp2_with fail
          refine (alive01 _).mono ?_
          rintro e w1 ⟨rfl, b1⟩
          have B1 := Lib.hid b1
          clear b1
          go_wp2_with fail
          refine (nput_is n l k w1 cn1 cn2 H1.out H2.out).mono ?_
          rintro e w2 ⟨A, c, rfl, o2, b2⟩
          have B2 := Lib.hid b2
          have O2 := Lib.hid o2
          clear b2 o2
          go_wp2_with fail
          refine (nput_is m l' k' w2 cm1 cm2 H3.out H4.out).mono ?_
          rintro e w3 ⟨A', c', rfl, o3, b3⟩
          have r2 := (Reads.of_own O2.out).below b3
          have r3 := Reads.of_own o3
          have q2 := (own_cap O2.out).1
          have q3 := (own_cap o3).1
          have B3 := Lib.hid b3
          clear b3 o3
          have s1 : ∀ w, (Instr.slice 23 (.slice A k c) none (some (.int .i64 (k' : Int))) none).run Try.prog w = .ok (.slice A k' c) w := fun w => run_slice_to Try.underlying23 A k c k' (by omega) w u8_size
          have s2 : ∀ w, (Instr.slice 23 (.slice A' k' c') none (some (.int .i64 (k' : Int))) none).run Try.prog w = .ok (.slice A' k' c') w := fun w => run_slice_to Try.underlying23 A' k' c' k' (by omega) w u8_size
          have v1 := fun q => run_conv (P := Try.prog) Try.underlying23 Try.underlying5 Try.underlying9 (w := w3.drewN q) (c := c) (cb_take l k' ▸ (r2.first (k := k') (by omega)).drewN q)
          have v2 := fun q => run_conv (P := Try.prog) Try.underlying23 Try.underlying5 Try.underlying9 (w := w3.drewN q) (c := c') (cb_take l' k' ▸ (r3.first (k := k') (by omega)).drewN q)
          clear r2 r3
          have f := H5.out
          go_wp2_with fail
          go_quiet (fail)
          go_wp2
          go_ret
          exact ⟨rfl, then_drewN (then_ (then_ B1.out B2.out) B3.out) _⟩
        · rw [Nat.min_eq_left hkk] at hap
          have H5 : Hid ((l.take k == l'.take k) = false) := by simpa [Hid] using hap
          clear hap
          go_enter Try.func3, Try.ntmps3
          go_wp2_with fail
          refine (alive01 _).mono ?_
          rintro e w1 ⟨rfl, b1⟩
          have B1 := Lib.hid b1
          clear b1
          go_wp2_with fail
          refine (nput_is n l k w1 cn1 cn2 H1.out H2.out).mono ?_
          rintro e w2 ⟨A, c, rfl, o2, b2⟩
          have B2 := Lib.hid b2
          have O2 := Lib.hid o2
          clear b2 o2
          go_wp2_with fail
          refine (nput_is m l' k' w2 cm1 cm2 H3.out H4.out).mono ?_
          rintro e w3 ⟨A', c', rfl, o3, b3⟩
          have r2 := (Reads.of_own O2.out).below b3
          have r3 := Reads.of_own o3
          have q2 := (own_cap O2.out).1
          have q3 := (own_cap o3).1
          have B3 := Lib.hid b3
          clear b3 o3
          have s1 : ∀ w, (Instr.slice 23 (.slice A k c) none (some (.int .i64 (k : Int))) none).run Try.prog w = .ok (.slice A k c) w := fun w => run_slice_to Try.underlying23 A k c k (by omega) w u8_size
          have s2 : ∀ w, (Instr.slice 23 (.slice A' k' c') none (some (.int .i64 (k : Int))) none).run Try.prog w = .ok (.slice A' k c') w := fun w => run_slice_to Try.underlying23 A' k' c' k (by omega) w u8_size
          have v1 := fun q => run_conv (P := Try.prog) Try.underlying23 Try.underlying5 Try.underlying9 (w := w3.drewN q) (c := c) (cb_take l k ▸ (r2.first (k := k) (by omega)).drewN q)
          have v2 := fun q => run_conv (P := Try.prog) Try.underlying23 Try.underlying5 Try.underlying9 (w := w3.drewN q) (c := c') (cb_take l' k ▸ (r3.first (k := k) (by omega)).drewN q)
          clear r2 r3
          have f := H5.out
          go_wp2_with fail
          go_quiet (fail)
          go_wp2
          go_ret
          exact ⟨rfl, then_drewN (then_ (then_ B1.out B2.out) B3.out) _⟩
    · have H1 := Lib.hid hl
      have H2 := Lib.hid hk
      have C := Lib.hid cm
      clear hl hk cm
      go_enter Try.func3, Try.ntmps3
      go_wp2_with fail
      refine (alive01 _).mono ?_
      rintro e w1 ⟨rfl, b1⟩
      have B1 := Lib.hid b1
      clear b1
      go_wp2_with fail
      refine (nput_is n l k w1 cn1 cn2 H1.out H2.out).mono ?_
      rintro e w2 ⟨A, c, rfl, o2, b2⟩
      have B2 := Lib.hid b2
      clear b2 o2
      go_wp2_with fail
      refine (nput_bad m w2 C.out).mono ?_
      rintro e w3 ⟨rfl, rfl⟩
      go_wp2
      go_ret
      exact ⟨rfl, then_ B1.out B2.out⟩
  · have C := Lib.hid cn
    clear cn
    go_enter Try.func3, Try.ntmps3
    go_wp2_with fail
    refine (alive01 _).mono ?_
    rintro e w1 ⟨rfl, b1⟩
    have B1 := Lib.hid b1
    clear b1
    go_wp2_with fail
    refine (nput_bad n w1 C.out).mono ?_
    rintro e w2 ⟨rfl, rfl⟩
    go_wp2_with fail
    refine (nput_or m w1).mono ?_
    rintro e w3 ⟨A, k, c, x, rfl, b3⟩
    have B3 := Lib.hid b3
    clear b3
    go_wp2
    go_ret
    exact ⟨rfl, then_ B1.out B3.out⟩
end Go.Proofs.Ytehjgnkolhdecaa
