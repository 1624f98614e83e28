/-
  Layer 23: WireReads' walk.
-/
import Derived.Test.YtdodfpjejjjciaaWireOnly
import Derived.Test.YtdodfpjejjjciaaWireRefR
namespace Go.Proofs.Ytdodfpjejjjciaa
open Go.RowKit Bal Go.Sort Go.BigFrame
set_option maxHeartbeats 8000000
set_option maxRecDepth 100000
set_option linter.unusedVariables false
set_option linter.unusedSimpArgs false

theorem rread23_no (A : Option Addr) (n c : Nat) (l : List UInt8) (w : World) (hr : Reads w w.heap.size 1 A n (cb l)) (hc : n ≤ c) (hc2 : c ≤ 9223372036854775807) (hn : n ≤ 4096) (h : Wp.readM l = none) :
    Calls Try.prog 24 #[.slice A n c] w fun e w' => e = .returned (.tuple #[.agg #[.int .i64 0, .int .i64 0, .int .u8 0, .int .i64 0, .int .i64 0, .int .i64 0, .int .i64 0, .string ⟨#[]⟩, .int .i64 0, .int .i64 0], .int .i64 8]) ∧ Below w.heap.size w w' := by
  have := rread23_any A n c l w hr hc hc2 hn
  rw [h] at this
  exact this
theorem rread23_is (A : Option Addr) (n c : Nat) (l : List UInt8) (m : Wp.Mail) (w : World) (hr : Reads w w.heap.size 1 A n (cb l)) (hc : n ≤ c) (hc2 : c ≤ 9223372036854775807) (hn : n ≤ 4096) (h : Wp.readM l = some m) :
    Calls Try.prog 24 #[.slice A n c] w fun e w' => e = .returned (.tuple #[.agg (mA m), .int .i64 0]) ∧ Below w.heap.size w w' := by
  have := rread23_any A n c l w hr hc hc2 hn
  rw [h] at this
  exact this
theorem mEq (m : Wp.Mail) (w : World) : (binOp .eql 23 (.agg (mA m)) (.agg (mA m))).run Try.prog w = .ok (.bool true) w := by
  have h := mail_eq m.f m.t m.k m.g m.s m.b m.p m.i m.tm m.f m.t m.k m.g m.s m.b m.p m.i m.tm (S m.v) (S m.v) w
  rw [mail_self] at h
  exact h
theorem mEqIn (m : Wp.Mail) (w : World) : (Op.equalIn 10000 23 (.agg (mA m)) (.agg (mA m))).run Try.prog w = .ok true w := by
  rw [mail_eqInM]
  simp [eqM]
theorem wireReads_walk (A : Option Addr) (n c : Nat) (l : List UInt8) (w : World) (hi : IsBytes w A n c l) :
    Calls Try.prog 8 #[.slice A n c] w fun e w' => e = .returned (.bool true) ∧ Below w.heap.size w w' := by
  obtain ⟨hr, hc, hm⟩ := hi
  unfold maxLen at hm
  have hln := hr.len_b
  have HR := Lib.hid hr
  clear hr
  by_cases z : (10000 : Int) < (n : Int)
  · go_enter Try.func8, Try.ntmps8
    go_wp2
    go_ret
    exact ⟨rfl, Below.refl _ _⟩
  go_enter Try.func8, Try.ntmps8
  go_wp2_with (at_builtin; refine app_bs rfl (.tmp 11) (.tmp 12) rfl w.heap.size (.slice none 0 0) 0 [] rfl (World.ownsRow_nil _ _ _ _) w.heap.size A n c l rfl HR.out ?c1 ?c2 ?_)
  case c1 => omega
  intro v1 w1 o1 g1
  have B1 := Lib.hid (g1.below (Nat.le_refl _) (by intro k hk; cases hk))
  obtain ⟨A1, c1, rfl, hr1, hc1, hm1⟩ := own_form o1
  unfold maxLen at hm1
  have R1 := Lib.hid hr1
  have HR1 := Lib.hid ((HR.out.below B1.out).more B1.out.size)
  clear o1 g1 hr1
  by_cases z2 : 4096 < n
  · have zq := fun w => mEq zM w
    have zq2 := fun w => mEqIn zM w
    rw [show mA zM = #[.int .i64 0, .int .i64 0, .int .u8 0, .int .i64 0, .int .i64 0, .int .i64 0, .int .i64 0, .string ⟨#[]⟩, .int .i64 0, .int .i64 0] from rfl] at zq zq2
    go_wp2_with fail
    refine (wread_big A1 n c1 w1 z2 (by omega)).mono ?_
    rintro e w2 ⟨rfl, hb⟩
    have B2 := Lib.hid ((then_ B1.out hb).alloc (then_ B1.out hb).size (.cells #[.int .i64 0, .int .i64 0, .int .u8 0, .int .i64 0, .int .i64 0, .int .i64 0, .int .i64 0, .string ⟨#[]⟩, .int .i64 0, .int .i64 0] 23))
    have K2 := Lib.hid (Blk.new w2 23 #[.int .i64 0, .int .i64 0, .int .u8 0, .int .i64 0, .int .i64 0, .int .i64 0, .int .i64 0, .string ⟨#[]⟩, .int .i64 0, .int .i64 0])
    have BX := Lib.hid (show Below w1.heap.size w1 (w2.alloc (.cells #[.int .i64 0, .int .i64 0, .int .u8 0, .int .i64 0, .int .i64 0, .int .i64 0, .int .i64 0, .string ⟨#[]⟩, .int .i64 0, .int .i64 0] 23)) from hb.alloc hb.size _)
    clear hb
    go_wp2_with fail
    refine (rread23_big A n c _ z2 (by omega)).mono ?_
    rintro e w3 ⟨rfl, hb⟩
    have K3 := Lib.hid (K2.out.below hb K2.out.lt)
    have B3 := Lib.hid ((then_ B2.out hb).alloc (then_ B2.out hb).size (.cells #[.int .i64 0, .int .i64 0, .int .u8 0, .int .i64 0, .int .i64 0, .int .i64 0, .int .i64 0, .string ⟨#[]⟩, .int .i64 0, .int .i64 0] 23))
    have BY := Lib.hid (show Below w1.heap.size w1 (w3.alloc (.cells #[.int .i64 0, .int .i64 0, .int .u8 0, .int .i64 0, .int .i64 0, .int .i64 0, .int .i64 0, .string ⟨#[]⟩, .int .i64 0, .int .i64 0] 23)) from (then_ BX.out hb).alloc (then_ BX.out hb).size _)
    clear hb
    have hk3 := K3.out.lt
    have y0 := K3.out.cell 0
    have y1 := K3.out.cell 1
    have y2 := K3.out.cell 2
    have y3 := K3.out.cell 3
    have y4 := K3.out.cell 4
    have y5 := K3.out.cell 5
    have y6 := K3.out.cell 6
    have y7 := K3.out.cell 7
    have y8 := K3.out.cell 8
    have y9 := K3.out.cell 9
    have v1 := run_conv (P := Try.prog) Try.underlying24 Try.underlying5 Try.underlying9 (c := c1) (R1.out.below BY.out)
    have v2 := run_conv (P := Try.prog) Try.underlying24 Try.underlying5 Try.underlying9 (c := c) (HR1.out.below BY.out)
    obtain ⟨X, hX⟩ : ∃ X, S l = X := ⟨_, rfl⟩
    rw [hX] at v1 v2
    clear hX
    go_wp2
    go_ret
    exact ⟨rfl, B3.out⟩
  cases hq : Wp.readM l with
  | none =>
    have H1 := Lib.hid (wread_no A1 n c1 l w1 R1.out hc1 (by omega) (by omega) hq)
    have H2 := Lib.hid (fun w hr => rread23_no A n c l w hr hc (by omega) (by omega) hq)
    have zq := fun w => mEq zM w
    have zq2 := fun w => mEqIn zM w
    rw [show mA zM = #[.int .i64 0, .int .i64 0, .int .u8 0, .int .i64 0, .int .i64 0, .int .i64 0, .int .i64 0, .string ⟨#[]⟩, .int .i64 0, .int .i64 0] from rfl] at zq zq2
    clear hq
    go_wp2_with fail
    refine (H1.out).mono ?_
    rintro e w2 ⟨rfl, hb⟩
    have B2 := Lib.hid ((then_ B1.out hb).alloc (then_ B1.out hb).size (.cells #[.int .i64 0, .int .i64 0, .int .u8 0, .int .i64 0, .int .i64 0, .int .i64 0, .int .i64 0, .string ⟨#[]⟩, .int .i64 0, .int .i64 0] 23))
    have K2 := Lib.hid (Blk.new w2 23 #[.int .i64 0, .int .i64 0, .int .u8 0, .int .i64 0, .int .i64 0, .int .i64 0, .int .i64 0, .string ⟨#[]⟩, .int .i64 0, .int .i64 0])
    have BX := Lib.hid (show Below w1.heap.size w1 (w2.alloc (.cells #[.int .i64 0, .int .i64 0, .int .u8 0, .int .i64 0, .int .i64 0, .int .i64 0, .int .i64 0, .string ⟨#[]⟩, .int .i64 0, .int .i64 0] 23)) from hb.alloc hb.size _)
    clear hb
    go_wp2_with fail
    refine (H2.out _ ((HR1.out.below BX.out).more BX.out.size)).mono ?_
    rintro e w3 ⟨rfl, hb⟩
    have K3 := Lib.hid (K2.out.below hb K2.out.lt)
    have B3 := Lib.hid ((then_ B2.out hb).alloc (then_ B2.out hb).size (.cells #[.int .i64 0, .int .i64 0, .int .u8 0, .int .i64 0, .int .i64 0, .int .i64 0, .int .i64 0, .string ⟨#[]⟩, .int .i64 0, .int .i64 0] 23))
    have BY := Lib.hid (show Below w1.heap.size w1 (w3.alloc (.cells #[.int .i64 0, .int .i64 0, .int .u8 0, .int .i64 0, .int .i64 0, .int .i64 0, .int .i64 0, .string ⟨#[]⟩, .int .i64 0, .int .i64 0] 23)) from (then_ BX.out hb).alloc (then_ BX.out hb).size _)
    clear hb
    have hk3 := K3.out.lt
    have y0 := K3.out.cell 0
    have y1 := K3.out.cell 1
    have y2 := K3.out.cell 2
    have y3 := K3.out.cell 3
    have y4 := K3.out.cell 4
    have y5 := K3.out.cell 5
    have y6 := K3.out.cell 6
    have y7 := K3.out.cell 7
    have y8 := K3.out.cell 8
    have y9 := K3.out.cell 9
    have v1 := run_conv (P := Try.prog) Try.underlying24 Try.underlying5 Try.underlying9 (c := c1) (R1.out.below BY.out)
    have v2 := run_conv (P := Try.prog) Try.underlying24 Try.underlying5 Try.underlying9 (c := c) (HR1.out.below BY.out)
    obtain ⟨X, hX⟩ : ∃ X, S l = X := ⟨_, rfl⟩
    rw [hX] at v1 v2
    clear hX
    go_wp2
    go_ret
    exact ⟨rfl, B3.out⟩
  | some m =>
    have H1 := wread_yes A1 n c1 l m w1 R1.out hc1 (by omega) (by omega) hq
    have H2 := fun w hr => rread23_is A n c l m w hr hc (by omega) (by omega) hq
    have zq := fun w => mEq m w
    have zq2 := fun w => mEqIn m w
    obtain ⟨U, hU⟩ : ∃ U, S m.v = U := ⟨_, rfl⟩
    have eA : mA m = #[.int .i64 m.f, .int .i64 m.t, .int .u8 m.k, .int .i64 m.g, .int .i64 m.s, .int .i64 m.b, .int .i64 m.p, .string U, .int .i64 m.i, .int .i64 m.tm] := by rw [← hU]; rfl
    rw [eA] at H1 H2 zq zq2
    replace H1 := Lib.hid H1
    replace H2 := Lib.hid H2
    clear hq hU eA
    go_wp2_with fail
    refine (H1.out).mono ?_
    rintro e w2 ⟨rfl, hb⟩
    have B2 := Lib.hid ((then_ B1.out hb).alloc (then_ B1.out hb).size (.cells #[.int .i64 m.f, .int .i64 m.t, .int .u8 m.k, .int .i64 m.g, .int .i64 m.s, .int .i64 m.b, .int .i64 m.p, .string U, .int .i64 m.i, .int .i64 m.tm] 23))
    have K2 := Lib.hid (Blk.new w2 23 #[.int .i64 m.f, .int .i64 m.t, .int .u8 m.k, .int .i64 m.g, .int .i64 m.s, .int .i64 m.b, .int .i64 m.p, .string U, .int .i64 m.i, .int .i64 m.tm])
    have BX := Lib.hid (show Below w1.heap.size w1 (w2.alloc (.cells #[.int .i64 m.f, .int .i64 m.t, .int .u8 m.k, .int .i64 m.g, .int .i64 m.s, .int .i64 m.b, .int .i64 m.p, .string U, .int .i64 m.i, .int .i64 m.tm] 23)) from hb.alloc hb.size _)
    clear hb
    go_wp2_with fail
    refine (H2.out _ ((HR1.out.below BX.out).more BX.out.size)).mono ?_
    rintro e w3 ⟨rfl, hb⟩
    have K3 := Lib.hid (K2.out.below hb K2.out.lt)
    have B3 := Lib.hid ((then_ B2.out hb).alloc (then_ B2.out hb).size (.cells #[.int .i64 m.f, .int .i64 m.t, .int .u8 m.k, .int .i64 m.g, .int .i64 m.s, .int .i64 m.b, .int .i64 m.p, .string U, .int .i64 m.i, .int .i64 m.tm] 23))
    have BY := Lib.hid (show Below w1.heap.size w1 (w3.alloc (.cells #[.int .i64 m.f, .int .i64 m.t, .int .u8 m.k, .int .i64 m.g, .int .i64 m.s, .int .i64 m.b, .int .i64 m.p, .string U, .int .i64 m.i, .int .i64 m.tm] 23)) from (then_ BX.out hb).alloc (then_ BX.out hb).size _)
    clear hb
    have hk3 := K3.out.lt
    have y0 := K3.out.cell 0
    have y1 := K3.out.cell 1
    have y2 := K3.out.cell 2
    have y3 := K3.out.cell 3
    have y4 := K3.out.cell 4
    have y5 := K3.out.cell 5
    have y6 := K3.out.cell 6
    have y7 := K3.out.cell 7
    have y8 := K3.out.cell 8
    have y9 := K3.out.cell 9
    have v1 := run_conv (P := Try.prog) Try.underlying24 Try.underlying5 Try.underlying9 (c := c1) (R1.out.below BY.out)
    have v2 := run_conv (P := Try.prog) Try.underlying24 Try.underlying5 Try.underlying9 (c := c) (HR1.out.below BY.out)
    obtain ⟨X, hX⟩ : ∃ X, S l = X := ⟨_, rfl⟩
    rw [hX] at v1 v2
    clear hX
    go_wp2
    go_ret
    exact ⟨rfl, B3.out⟩
end Go.Proofs.Ytdodfpjejjjciaa
