/-
  Layer 23: WireBack's walk.
-/
import Derived.Test.YtdodfpjejjjciaaWireOnly
namespace Go.Proofs.Ytdodfpjejjjciaa
open Go.RowKit Bal
set_option maxHeartbeats 8000000
set_option maxRecDepth 100000
set_option linter.unusedVariables false
set_option linter.unusedSimpArgs false

theorem wireBack_walkM (m : Wp.Mail) (n : Int) (w : World) (hm : IsMailM m) (hn : -9223372036854775808 ≤ n ∧ n ≤ 9223372036854775807) :
    Calls Try.prog 10 #[.agg (mA m), .int .i64 n] w fun e w' => e = .returned (.bool true) ∧ Below w.heap.size w w' := by
  obtain ⟨n0, n1⟩ := hn
  obtain ⟨U, hU⟩ : ∃ U, S m.v = U := ⟨_, rfl⟩
  have hUz : U.size = m.v.length := by rw [← hU, S_size]
  have hvl := hm.2.1
  have hu9 : U.size ≤ 9223372036854775807 := by omega
  have eA : mA m = #[.int .i64 m.f, .int .i64 m.t, .int .u8 m.k, .int .i64 m.g, .int .i64 m.s, .int .i64 m.b, .int .i64 m.p, .string U, .int .i64 m.i, .int .i64 m.tm] := by rw [← hU]; rfl
  clear hUz hvl
  rw [eA]
  have EA := Lib.hid eA
  have HM := Lib.hid hm
  clear eA hU hm
  go_enter Try.func10, Try.ntmps10
  go_wp2_with fail
  refine (alive23 _).mono ?_
  rintro e w1 ⟨rfl, hb⟩
  have K1 := Lib.hid (Blk.below (Blk.new w 23 #[.int .i64 m.f, .int .i64 m.t, .int .u8 m.k, .int .i64 m.g, .int .i64 m.s, .int .i64 m.b, .int .i64 m.p, .string U, .int .i64 m.i, .int .i64 m.tm]) hb (by simp))
  have B1 := Lib.hid (below_of_alloc (hb.mono (B' := w.heap.size) (by simp)) (Nat.le_refl _))
  have c0x := K1.out.cell 0
  have c1x := K1.out.cell 1
  have c2x := K1.out.cell 2
  have c3x := K1.out.cell 3
  have c4x := K1.out.cell 4
  have c5x := K1.out.cell 5
  have c6x := K1.out.cell 6
  have c7x := K1.out.cell 7
  have c8x := K1.out.cell 8
  have c9x := K1.out.cell 9
  clear hb
  by_cases z : (10000 : Int) < (U.size : Int)
  · go_wp2
    go_ret
    exact ⟨rfl, B1.out⟩
  cases hmay : Wp.mayM m with
  | false =>
    have W1 := fun w => wwrite_bad m w HM.out hmay
    have C1 := fun w => wcheck_is m w HM.out false hmay
    rw [EA.out] at W1 C1
    have HW := Lib.hid W1
    have HC := Lib.hid C1
    clear W1 C1 hmay
    go_wp2_with fail
    refine (HW.out _).mono ?_
    rintro e w2 ⟨rfl, hb⟩
    have B2 := Lib.hid (then_ B1.out hb)
    have K2 := Lib.hid (K1.out.below hb K1.out.lt)
    clear hb c0x c1x c2x c3x c4x c5x c6x c7x c8x c9x
    have c0x := K2.out.cell 0
    have c1x := K2.out.cell 1
    have c2x := K2.out.cell 2
    have c3x := K2.out.cell 3
    have c4x := K2.out.cell 4
    have c5x := K2.out.cell 5
    have c6x := K2.out.cell 6
    have c7x := K2.out.cell 7
    have c8x := K2.out.cell 8
    have c9x := K2.out.cell 9
    go_wp2_with fail
    refine (HC.out _).mono ?_
    rintro e w3 ⟨rfl, hb⟩
    have B3 := Lib.hid (then_ B2.out hb)
    clear hb c0x c1x c2x c3x c4x c5x c6x c7x c8x c9x
    go_wp2
    go_ret
    exact ⟨rfl, B3.out⟩
  | true =>
    obtain ⟨x, hx⟩ : ∃ x, Wp.bytesM m = x := ⟨_, rfl⟩
    have hsm := bytesM_small hmay
    rw [hx] at hsm
    have hrd : Wp.readM x = some m := by rw [← hx]; exact Wp.readM_bytes hmay
    obtain ⟨k, hk⟩ : ∃ k, x.length = k := ⟨_, rfl⟩
    rw [hk] at hsm
    have W1 := fun w => wwrite_is m x k w hmay hx hk
    have R1 := fun A c w hr hc hc2 => wread_yes A k c x m w hr hc hc2 hsm hrd
    have hno : ∀ j, j < k → Wp.readM (x.take j) = none := by
      intro j hj
      cases hq : Wp.readM (x.take j) with
      | none => rfl
      | some m' =>
        obtain ⟨a1, a2⟩ := Wp.readM_back hq
        have a3 : Wp.bytesM m = Wp.bytesM m' ++ x.drop j := by rw [a2, hx, List.take_append_drop]
        have a4 := congrArg List.length (Wp.bytesM_apart hmay a1 a3)
        rw [List.length_drop] at a4
        simp at a4
        omega
    have heq : ∀ w, (Op.equalIn 10000 23 (.agg (mA m)) (.agg (mA m))).run Try.prog w = .ok true w := fun w => by rw [mail_eqInM]; congr 1; simp [eqM]
    rw [EA.out] at W1 R1 heq
    have HW := Lib.hid W1
    have HR := Lib.hid R1
    have HNO := Lib.hid hno
    have HEQ := Lib.hid heq
    have HXK := Lib.hid hk
    clear W1 R1 hno heq hmay hx hrd hk
    go_wp2_with fail
    refine (HW.out _).mono ?_
    rintro e w2 ⟨A2, c2, rfl, hr2, hk2, hc2, hb⟩
    unfold maxLen at hc2
    have B2 := Lib.hid (then_ B1.out hb)
    have K2 := Lib.hid (K1.out.below hb K1.out.lt)
    have HR2 := Lib.hid hr2
    clear hb hr2 c0x c1x c2x c3x c4x c5x c6x c7x c8x c9x
    go_wp2_with fail
    refine (HR.out A2 c2 w2 HR2.out hk2 (by omega)).mono ?_
    rintro e w3 ⟨rfl, hb⟩
    have hlt3 := K2.out.lt
    have K3 := Lib.hid (K2.out.below hb K2.out.lt)
    have hlt4 := K3.out.lt
    have B3 := Lib.hid ((then_ B2.out hb).alloc (then_ B2.out hb).size (.cells #[.int .i64 m.f, .int .i64 m.t, .int .u8 m.k, .int .i64 m.g, .int .i64 m.s, .int .i64 m.b, .int .i64 m.p, .string U, .int .i64 m.i, .int .i64 m.tm] 23))
    have HR3 := Lib.hid ((HR2.out.below hb).alloc hb.size (.cells #[.int .i64 m.f, .int .i64 m.t, .int .u8 m.k, .int .i64 m.g, .int .i64 m.s, .int .i64 m.b, .int .i64 m.p, .string U, .int .i64 m.i, .int .i64 m.tm] 23) |>.more (Nat.le_trans hb.size (by simp : w3.heap.size ≤ (w3.alloc (.cells #[.int .i64 m.f, .int .i64 m.t, .int .u8 m.k, .int .i64 m.g, .int .i64 m.s, .int .i64 m.b, .int .i64 m.p, .string U, .int .i64 m.i, .int .i64 m.tm] 23)).heap.size)))
    clear hb
    have c0x := K3.out.cell 0
    have c1x := K3.out.cell 1
    have c2x := K3.out.cell 2
    have c3x := K3.out.cell 3
    have c4x := K3.out.cell 4
    have c5x := K3.out.cell 5
    have c6x := K3.out.cell 6
    have c7x := K3.out.cell 7
    have c8x := K3.out.cell 8
    have c9x := K3.out.cell 9
    have heq := HEQ.out
    by_cases h0 : n < 0
    · go_wp2
      go_ret
      exact ⟨rfl, B3.out⟩
    obtain ⟨j, rfl⟩ := Int.eq_ofNat_of_zero_le (by omega : 0 ≤ n)
    by_cases h1 : (k : Int) ≤ (j : Int)
    · go_wp2
      go_ret
      exact ⟨rfl, B3.out⟩
    have hjk : j < k := by omega
    have hs := fun w => run_slice_to (P := Try.prog) Try.underlying24 A2 k c2 j (by omega) w u8_size
    have hr4 := HR3.out.first (k := j) (by omega)
    rw [cb_take] at hr4
    have HN := Lib.hid (wread_no A2 j c2 (x.take j) _ hr4 (by omega) (by omega) (by omega) (HNO.out j hjk))
    clear hr4
    go_wp2_with fail
    with_reducible refine HN.out.mono ?_
    rintro e w4 ⟨rfl, hb⟩
    have B4 := Lib.hid ((then_ B3.out hb).alloc (then_ B3.out hb).size (.cells #[.int .i64 0, .int .i64 0, .int .u8 0, .int .i64 0, .int .i64 0, .int .i64 0, .int .i64 0, .string ⟨#[]⟩, .int .i64 0, .int .i64 0] 23))
    clear hb c0x c1x c2x c3x c4x c5x c6x c7x c8x c9x heq hs
    go_wp2
    go_ret
    exact ⟨rfl, B4.out⟩
theorem wireBack_walk (f t k g s b p : Int) (u : ByteArray) (i tm n : Int) (w : World) (hm : IsMail f t k g s b p u i tm) (hn : -9223372036854775808 ≤ n ∧ n ≤ 9223372036854775807) :
    Calls Try.prog 10 #[.agg #[.int .i64 f, .int .i64 t, .int .u8 k, .int .i64 g, .int .i64 s, .int .i64 b, .int .i64 p, .string u, .int .i64 i, .int .i64 tm], .int .i64 n] w fun e w' => e = .returned (.bool true) ∧ Below w.heap.size w w' := by
  have := wireBack_walkM ⟨f, t, k, g, s, b, p, u.data.toList, i, tm⟩ n w hm.2 hn
  simp only [mA, S_of] at this
  exact this
end Go.Proofs.Ytdodfpjejjjciaa
