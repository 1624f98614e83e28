/-
  The walks of NumWrites and NumReads.
-/
import Derived.Test.YtehjgnkolhdecaaNumEither
namespace Go.Proofs.Ytehjgnkolhdecaa
open Go.RowKit
set_option maxHeartbeats 1000000
set_option maxRecDepth 100000
set_option linter.unusedVariables false

theorem numWrites_walk (n : Int) (s : ByteArray) (A : Option Addr) (len cap : Nat) (l : List Int) (w : World) (hn : -9223372036854775808 ≤ n ∧ n ≤ 9223372036854775807) (hs : s.size ≤ maxLen) (hi : IsInts w A len cap l) :
    Calls Try.prog 6 #[.int .i64 n, .string s, .slice A len cap] w fun e w' => e = .returned (.bool true) ∧ Below w.heap.size w w' := by
  obtain ⟨hr, hc, hm, h64⟩ := hi
  unfold maxLen at hs hm
  have hl := hr.len_i
  by_cases q1 : 5000 < s.size
  · clear hr h64 hl hn
    go_enter Try.func6, Try.ntmps6
    go_wp2
    go_ret
    exact ⟨rfl, Below.refl _ _⟩
  · by_cases q2 : 5000 < len
    · clear hr h64 hl hn
      go_enter Try.func6, Try.ntmps6
      go_wp2
      go_ret
      exact ⟨rfl, Below.refl _ _⟩
    · obtain ⟨l1, m1, x1, p1, r1⟩ := put_tri n
      obtain ⟨l2, m2, x2, p2, r2⟩ := text_tri s
      obtain ⟨l3, m3, x3, p3, r3⟩ := ints_tri len l hl (by omega) h64
      have P1 := Lib.hid p1
      have Q1 := Lib.hid r1
      have P2 := Lib.hid p2
      have Q2 := Lib.hid r2
      have P3 := Lib.hid p3
      have Q3 := Lib.hid r3
      have HR := Lib.hid hr
      clear p1 r1 p2 r2 p3 r3 hr h64 hl hn
      go_enter Try.func6, Try.ntmps6
      go_wp2_with fail
      refine (P1.out w).mono ?_
      rintro e w1 ⟨A1, c1, rfl, r1, b1⟩
      have R1 := Lib.hid r1
      have B1 := Lib.hid b1
      clear r1 b1
      go_wp2_with fail
      refine (Q1.out w1).mono ?_
      rintro e w2 ⟨A2, c2, rfl, r2, b2⟩
      have R2 := Lib.hid r2
      have B2 := Lib.hid b2
      clear r2 b2
      go_wp2_with fail
      refine (P2.out w2).mono ?_
      rintro e w3 ⟨A3, c3, rfl, r3, b3⟩
      have R3 := Lib.hid r3
      have B3 := Lib.hid b3
      clear r3 b3
      go_wp2_with fail
      refine (Q2.out w3).mono ?_
      rintro e w4 ⟨A4, c4, rfl, r4, b4⟩
      have R4 := Lib.hid r4
      have B4 := Lib.hid b4
      clear r4 b4
      have C4 := Lib.hid (then_ (then_ (then_ B1.out B2.out) B3.out) B4.out)
      go_wp2_with fail
      refine (P3.out A cap w4 (HR.out.below C4.out |>.more C4.out.size)).mono ?_
      rintro e w5 ⟨A5, c5, rfl, r5, b5⟩
      have R5 := Lib.hid r5
      have B5 := Lib.hid b5
      clear r5 b5
      have C5 := Lib.hid (then_ C4.out B5.out)
      go_wp2_with fail
      refine (Q3.out A cap w5 (HR.out.below C5.out |>.more C5.out.size)).mono ?_
      rintro e w6 ⟨A6, c6, rfl, r6, b6⟩
      have C6 := Lib.hid (then_ C5.out b6)
      have C56 := Lib.hid b6
      have C46 := Lib.hid (then_ B5.out b6)
      have C36 := Lib.hid (then_ B4.out C46.out)
      have C26 := Lib.hid (then_ B3.out C36.out)
      have C16 := Lib.hid (then_ B2.out C26.out)
      have v1 := run_conv (P := Try.prog) Try.underlying23 Try.underlying5 Try.underlying9 (c := c1) (R1.out.below C16.out)
      have v2 := run_conv (P := Try.prog) Try.underlying23 Try.underlying5 Try.underlying9 (c := c2) (R2.out.below C26.out)
      have v3 := run_conv (P := Try.prog) Try.underlying23 Try.underlying5 Try.underlying9 (c := c3) (R3.out.below C36.out)
      have v4 := run_conv (P := Try.prog) Try.underlying23 Try.underlying5 Try.underlying9 (c := c4) (R4.out.below C46.out)
      have v5 := run_conv (P := Try.prog) Try.underlying23 Try.underlying5 Try.underlying9 (c := c5) (R5.out.below C56.out)
      have v6 := run_conv (P := Try.prog) Try.underlying23 Try.underlying5 Try.underlying9 (c := c6) r6
      clear r6 b6
      go_wp2
      go_ret
      exact ⟨rfl, C6.out⟩

theorem numReads_walk (A : Option Addr) (len cap : Nat) (l : List UInt8) (most : Int) (w : World) (hb : IsBytes w A len cap l) (hm : -9223372036854775808 ≤ most ∧ most ≤ 9223372036854775807) :
    Calls Try.prog 10 #[.slice A len cap, .int .i64 most] w fun e w' => e = .returned (.bool true) ∧ Below w.heap.size w w' := by
  obtain ⟨hr, hc, hcm⟩ := hb
  unfold maxLen at hcm
  by_cases q : 10000 < len
  · clear hr hm
    go_enter Try.func10, Try.ntmps10
    go_wp2
    go_ret
    exact ⟨rfl, Below.refl _ _⟩
  · obtain ⟨m1, k1, x1, p1, r1⟩ := get_tri l
    obtain ⟨t2, k2, x2, p2, r2⟩ := getText_tri l
    obtain ⟨r, m3, k3, x3, hm3, p3, r3⟩ := getInts_tri l most
    have P1 := Lib.hid p1
    have Q1 := Lib.hid r1
    have P2 := Lib.hid p2
    have Q2 := Lib.hid r2
    have P3 := Lib.hid p3
    have Q3 := Lib.hid r3
    have HR := Lib.hid hr
    clear p1 r1 p2 r2 p3 r3 hr hm
    go_enter Try.func10, Try.ntmps10
    go_wp2_with (at_builtin; refine app_bs rfl _ (.tmp 27) rfl w.heap.size (.slice none 0 0) 0 [] rfl (World.ownsRow_nil _ _ _ _) w.heap.size A len cap l rfl HR.out ?c1 ?c2 ?_)
    case c1 => omega
    case c2 => exact Nat.le_refl _
    intro v1 w1 o1 g1
    have B1 := Lib.hid (g1.below (Nat.le_refl _) (by simp [Value.ownBlock]))
    have O1 : Hid (w1.ownsRow w.heap.size 5 1 v1 len (cb l)) := by simpa [Hid] using o1
    clear o1 g1
    obtain ⟨A1, c1, rfl, s1, hc1, _⟩ := own_form O1.out
    have R1 := Lib.hid s1
    have HR1 := Lib.hid (HR.out.below B1.out |>.more B1.out.size)
    clear s1
    go_wp2_with fail
    refine (P1.out A1 len c1 _ w1 R1.out (by omega)).mono ?_
    rintro e w' ⟨rfl, rfl⟩
    go_wp2_with fail
    refine (Q1.out A len cap _ w1 HR1.out (by omega)).mono ?_
    rintro e w' ⟨rfl, rfl⟩
    go_wp2_with fail
    refine (P2.out A1 len c1 _ w1 R1.out hc1 (by omega)).mono ?_
    rintro e w' ⟨rfl, rfl⟩
    go_wp2_with fail
    refine (Q2.out A len cap _ w1 HR1.out hc (by omega)).mono ?_
    rintro e w' ⟨rfl, rfl⟩
    go_wp2_with fail
    refine (P3.out A1 len c1 w1 R1.out hc1 (by omega)).mono ?_
    rintro e w2 ⟨A2, c2, rfl, r2, b2⟩
    have R2 := Lib.hid r2
    have B2 := Lib.hid b2
    have HR2 := Lib.hid (HR1.out.below b2 |>.more b2.size)
    clear r2 b2
    go_wp2_with fail
    refine (Q3.out A len cap w2 HR2.out hc (by omega)).mono ?_
    rintro e w3 ⟨A3, c3, rfl, r3, b3⟩
    have R3 := Lib.hid r3
    have B3 := Lib.hid b3
    clear r3 b3
    go_wp2_with fail
    refine (sameInts_yes A2 m3 c2 A3 m3 c3 _ _ r r w3 (R2.out.below B3.out) R3.out (by omega) rfl).mono ?_
    rintro e w4 ⟨rfl, q, rfl⟩
    have v1 := run_conv (P := Try.prog) Try.underlying23 Try.underlying5 Try.underlying9 (c := c1) (((R1.out.below B2.out).below (B3.out.mono B2.out.size)).drewN q)
    have v2 := run_conv (P := Try.prog) Try.underlying23 Try.underlying5 Try.underlying9 (c := cap) ((HR2.out.below B3.out).drewN q)
    go_wp2
    go_ret
    exact ⟨rfl, then_drewN (then_ (then_ B1.out B2.out) B3.out) q⟩
end Go.Proofs.Ytehjgnkolhdecaa
