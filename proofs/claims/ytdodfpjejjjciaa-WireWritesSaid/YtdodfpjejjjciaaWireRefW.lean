/-
  The reference of layer 23: Write and Check.
-/
import Derived.Test.YtdodfpjejjjciaaWireRefM
import Derived.Test.YtdodfpjejjjciaaWireRefB
namespace Go.Proofs.Ytdodfpjejjjciaa
open Go.RowKit Bal
set_option maxHeartbeats 2000000
set_option maxRecDepth 100000
set_option linter.unusedVariables false
set_option linter.unusedSimpArgs false

theorem rcheck23_any (f t k g s b p : Int) (u : ByteArray) (i tm : Int) (w : World) (hu : u.size ≤ 9223372036854775807) (x : Bool) (hx : Wp.mayM ⟨f, t, k, g, s, b, p, u.data.toList, i, tm⟩ = x) :
    Calls Try.prog 15 #[.agg #[.int .i64 f, .int .i64 t, .int .u8 k, .int .i64 g, .int .i64 s, .int .i64 b, .int .i64 p, .string u, .int .i64 i, .int .i64 tm]] w fun e w' => e = .returned (.int .i64 (if x = true then 0 else 8)) ∧ Below w.heap.size w w' := by
  have CM := rmay23_any f t k g s b p u i tm (w.alloc (.cells #[.int .i64 f, .int .i64 t, .int .u8 k, .int .i64 g, .int .i64 s, .int .i64 b, .int .i64 p, .string u, .int .i64 i, .int .i64 tm] 23)) hu
  rw [hx] at CM
  have B0 := Lib.hid ((Below.refl _ w).alloc (Nat.le_refl w.heap.size) (.cells #[.int .i64 f, .int .i64 t, .int .u8 k, .int .i64 g, .int .i64 s, .int .i64 b, .int .i64 p, .string u, .int .i64 i, .int .i64 tm] 23))
  have HC := Lib.hid CM
  clear CM hx
  cases x with
  | false =>
    go_enter Try.func15, Try.ntmps15
    go_wp2_with fail
    refine HC.out.mono ?_
    rintro e w1 ⟨rfl, hb⟩
    have B1 := Lib.hid (then_ B0.out hb)
    clear hb
    go_wp2
    go_ret
    exact ⟨rfl, B1.out⟩
  | true =>
    go_enter Try.func15, Try.ntmps15
    go_wp2_with fail
    refine HC.out.mono ?_
    rintro e w1 ⟨rfl, hb⟩
    have B1 := Lib.hid (then_ B0.out hb)
    clear hb
    go_wp2
    go_ret
    exact ⟨rfl, B1.out⟩

theorem rwrite23_ok (f t k g s b p : Int) (u : ByteArray) (i tm : Int) (w : World) (lb : List UInt8) (nb : Nat) (hm : Wp.mayM ⟨f, t, k, g, s, b, p, u.data.toList, i, tm⟩ = true) (hlb : Wp.bytesM ⟨f, t, k, g, s, b, p, u.data.toList, i, tm⟩ = lb) (hnb : lb.length = nb) :
    Calls Try.prog 13 #[.agg #[.int .i64 f, .int .i64 t, .int .u8 k, .int .i64 g, .int .i64 s, .int .i64 b, .int .i64 p, .string u, .int .i64 i, .int .i64 tm]] w fun e w' => ∃ A c, e = .returned (.tuple #[.slice A nb c, .int .i64 0]) ∧ w'.ownsRow w.heap.size 5 1 (.slice A nb c) nb (cb lb) ∧ Below w.heap.size w w' := by
  have hu : u.size ≤ 9223372036854775807 := by
    have h := (Wp.mayM_cases hm).2.2.2.1
    simp only at h
    rw [size_data] at h
    omega
  have CM := rmay23_any f t k g s b p u i tm (w.alloc (.cells #[.int .i64 f, .int .i64 t, .int .u8 k, .int .i64 g, .int .i64 s, .int .i64 b, .int .i64 p, .string u, .int .i64 i, .int .i64 tm] 23)) hu
  rw [hm] at CM
  have B0 := Lib.hid ((Below.refl _ w).alloc (Nat.le_refl w.heap.size) (.cells #[.int .i64 f, .int .i64 t, .int .u8 k, .int .i64 g, .int .i64 s, .int .i64 b, .int .i64 p, .string u, .int .i64 i, .int .i64 tm] 23))
  have K0 := Lib.hid (Blk.new w 23 #[.int .i64 f, .int .i64 t, .int .u8 k, .int .i64 g, .int .i64 s, .int .i64 b, .int .i64 p, .string u, .int .i64 i, .int .i64 tm])
  have HM := Lib.hid hm
  have HLB := Lib.hid hlb
  have HNB := Lib.hid hnb
  have HC := Lib.hid CM
  clear CM hm hlb hnb
  go_enter Try.func13, Try.ntmps13
  go_wp2_with fail
  refine HC.out.mono ?_
  rintro e w1 ⟨rfl, hb⟩
  have B1 := Lib.hid (then_ B0.out hb)
  have K1 := Lib.hid (K0.out.below hb K0.out.lt)
  clear hb
  have r0 := K1.out.cell 0
  have r1 := K1.out.cell 1
  have r2 := K1.out.cell 2
  have r3 := K1.out.cell 3
  have r4 := K1.out.cell 4
  have r5 := K1.out.cell 5
  have r6 := K1.out.cell 6
  have r7 := K1.out.cell 7
  have r8 := K1.out.cell 8
  have r9 := K1.out.cell 9
  go_wp2_with fail
  refine (rbytes23_any f t k g s b p u i tm w1 lb nb HM.out HLB.out HNB.out).mono ?_
  rintro e w2 ⟨A, c, rfl, ho, hb⟩
  have B2 := Lib.hid (then_ B1.out hb)
  have HO := Lib.hid (own_mono ho B1.out.size)
  clear ho hb
  go_wp2
  go_ret2
  exact ⟨_, _, rfl, HO.out, B2.out⟩

theorem rwrite23_bad (f t k g s b p : Int) (u : ByteArray) (i tm : Int) (w : World) (hu : u.size ≤ 9223372036854775807) (hm : Wp.mayM ⟨f, t, k, g, s, b, p, u.data.toList, i, tm⟩ = false) :
    Calls Try.prog 13 #[.agg #[.int .i64 f, .int .i64 t, .int .u8 k, .int .i64 g, .int .i64 s, .int .i64 b, .int .i64 p, .string u, .int .i64 i, .int .i64 tm]] w fun e w' => e = .returned (.tuple #[.slice none 0 0, .int .i64 8]) ∧ Below w.heap.size w w' := by
  have CM := rmay23_any f t k g s b p u i tm (w.alloc (.cells #[.int .i64 f, .int .i64 t, .int .u8 k, .int .i64 g, .int .i64 s, .int .i64 b, .int .i64 p, .string u, .int .i64 i, .int .i64 tm] 23)) hu
  rw [hm] at CM
  have B0 := Lib.hid ((Below.refl _ w).alloc (Nat.le_refl w.heap.size) (.cells #[.int .i64 f, .int .i64 t, .int .u8 k, .int .i64 g, .int .i64 s, .int .i64 b, .int .i64 p, .string u, .int .i64 i, .int .i64 tm] 23))
  have HC := Lib.hid CM
  clear CM hm
  go_enter Try.func13, Try.ntmps13
  go_wp2_with fail
  refine HC.out.mono ?_
  rintro e w1 ⟨rfl, hb⟩
  have B1 := Lib.hid (then_ B0.out hb)
  clear hb
  go_wp2
  go_ret2
  exact ⟨rfl, B1.out⟩
end Go.Proofs.Ytdodfpjejjjciaa
