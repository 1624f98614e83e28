/-
  Layer 23: WireWrites' walk.
-/
import Derived.Test.YtdodfpjejjjciaaWireOnly
import Derived.Test.YtdodfpjejjjciaaWireRefW
import Derived.Test.YtdodfpjejjjciaaQuiet
namespace Go.Proofs.Ytdodfpjejjjciaa
open Go.RowKit Bal Go.Sort Go.BigFrame
set_option maxHeartbeats 8000000
set_option maxRecDepth 100000
set_option linter.unusedVariables false
set_option linter.unusedSimpArgs false

theorem wireWrites_walkM (m : Wp.Mail) (w : World) (hm : IsMailM m) :
    Calls Try.prog 3 #[.agg (mA m)] w fun e w' => e = .returned (.bool true) ∧ Below w.heap.size w w' := by
  obtain ⟨U, hU⟩ : ∃ U, S m.v = U := ⟨_, rfl⟩
  have hUz : U.size = m.v.length := by rw [← hU, S_size]
  have hUd : U.data.toList = m.v := by rw [← hU]; rfl
  have hvl := hm.2.1
  have hu9 : U.size ≤ 9223372036854775807 := by omega
  have eA : mA m = #[.int .i64 m.f, .int .i64 m.t, .int .u8 m.k, .int .i64 m.g, .int .i64 m.s, .int .i64 m.b, .int .i64 m.p, .string U, .int .i64 m.i, .int .i64 m.tm] := by rw [← hU]; rfl
  have em : (⟨m.f, m.t, m.k, m.g, m.s, m.b, m.p, U.data.toList, m.i, m.tm⟩ : Wp.Mail) = m := by rw [hUd]
  clear hUz hvl hUd
  rw [eA]
  have EA := Lib.hid eA
  have EM := Lib.hid em
  have HM := Lib.hid hm
  have B0 := Lib.hid ((Below.refl _ w).alloc (Nat.le_refl w.heap.size) (.cells #[.int .i64 m.f, .int .i64 m.t, .int .u8 m.k, .int .i64 m.g, .int .i64 m.s, .int .i64 m.b, .int .i64 m.p, .string U, .int .i64 m.i, .int .i64 m.tm] 23))
  have K0 := Lib.hid (Blk.new w 23 #[.int .i64 m.f, .int .i64 m.t, .int .u8 m.k, .int .i64 m.g, .int .i64 m.s, .int .i64 m.b, .int .i64 m.p, .string U, .int .i64 m.i, .int .i64 m.tm])
  clear eA hU hm em
  by_cases z : (10000 : Int) < (U.size : Int)
  · go_enter Try.func3, Try.ntmps3
    go_wp2
    go_ret
    exact ⟨rfl, B0.out⟩
  cases hmay : Wp.mayM m with
  | false =>
    have W1 := fun w => wwrite_bad m w HM.out hmay
    have W2 := fun w => rwrite23_bad m.f m.t m.k m.g m.s m.b m.p U m.i m.tm w hu9 (by rw [EM.out]; exact hmay)
    have C1 := fun w => wcheck_is m w HM.out false hmay
    have C2 := fun w => rcheck23_any m.f m.t m.k m.g m.s m.b m.p U m.i m.tm w hu9 false (by rw [EM.out]; exact hmay)
    rw [EA.out] at W1 C1
    have H1 := Lib.hid W1
    have H2 := Lib.hid W2
    have H3 := Lib.hid C1
    have H4 := Lib.hid C2
    clear W1 W2 C1 C2 hmay
    go_enter Try.func3, Try.ntmps3
    go_wp2_with fail
    refine (H1.out _).mono ?_
    rintro e w1 ⟨rfl, hb⟩
    have K1 := Lib.hid (K0.out.below hb K0.out.lt)
    have B1 := Lib.hid (then_ B0.out hb)
    clear hb
    have y0 := K1.out.cell 0
    have y1 := K1.out.cell 1
    have y2 := K1.out.cell 2
    have y3 := K1.out.cell 3
    have y4 := K1.out.cell 4
    have y5 := K1.out.cell 5
    have y6 := K1.out.cell 6
    have y7 := K1.out.cell 7
    have y8 := K1.out.cell 8
    have y9 := K1.out.cell 9
    go_wp2_with fail
    refine (H2.out _).mono ?_
    rintro e w2 ⟨rfl, hb⟩
    have K2 := Lib.hid (K1.out.below hb K1.out.lt)
    have B2 := Lib.hid (then_ B1.out hb)
    clear hb y0 y1 y2 y3 y4 y5 y6 y7 y8 y9
    go_upto_region 5 with fail
    have F1 := Lib.hid (qb (W := w2) fun cur _ => H3.out cur)
    have F2 := Lib.hid (qb (W := w2) fun cur _ => H4.out cur)
    simp only [Bool.false_eq_true, if_false, if_true] at F1 F2
    have y0 := cell_regrown (K2.out.cell 0)
    have y1 := cell_regrown (K2.out.cell 1)
    have y2 := cell_regrown (K2.out.cell 2)
    have y3 := cell_regrown (K2.out.cell 3)
    have y4 := cell_regrown (K2.out.cell 4)
    have y5 := cell_regrown (K2.out.cell 5)
    have y6 := cell_regrown (K2.out.cell 6)
    have y7 := cell_regrown (K2.out.cell 7)
    have y8 := cell_regrown (K2.out.cell 8)
    have y9 := cell_regrown (K2.out.cell 9)
    have v1 := fun d os => run_conv (P := Try.prog) Try.underlying24 Try.underlying5 Try.underlying9 (w := grow (redrawn w2 d) os) (B := 0) (c := 0) (A := none) (n := 0) (l := []) Reads.none_
    refine wp_region_quiet_below (by kernel_rfl) (by kernel_rfl) ?_
    repeat (go_big_quiet_step ((first | with_reducible exact F1.out _ _ | with_reducible exact F2.out _ _)))
    refine wpQuiet_nil ?_
    intro _ hw'
    obtain ⟨⟨dq, osq⟩, hw''⟩ := hw'
    subst hw''
    go_wp2
    go_ret
    exact ⟨rfl, then_ B2.out (below_regrown _ _ _)⟩
  | true =>
    obtain ⟨lb, hlb⟩ : ∃ l, Wp.bytesM m = l := ⟨_, rfl⟩
    obtain ⟨nb, hnb⟩ : ∃ n, lb.length = n := ⟨_, rfl⟩
    have W1 := fun w => wwrite_is m lb nb w hmay hlb hnb
    have W2 := fun w => rwrite23_ok m.f m.t m.k m.g m.s m.b m.p U m.i m.tm w lb nb (by rw [EM.out]; exact hmay) (by rw [EM.out]; exact hlb) hnb
    have C1 := fun w => wcheck_is m w HM.out true hmay
    have C2 := fun w => rcheck23_any m.f m.t m.k m.g m.s m.b m.p U m.i m.tm w hu9 true (by rw [EM.out]; exact hmay)
    rw [EA.out] at W1 C1
    have H1 := Lib.hid W1
    have H2 := Lib.hid W2
    have H3 := Lib.hid C1
    have H4 := Lib.hid C2
    clear W1 W2 C1 C2 hmay hlb hnb
    go_enter Try.func3, Try.ntmps3
    go_wp2_with fail
    refine (H1.out _).mono ?_
    rintro e w1 ⟨A1, c1, rfl, hr1, -, -, hb⟩
    have R1 := Lib.hid hr1
    have K1 := Lib.hid (K0.out.below hb K0.out.lt)
    have B1 := Lib.hid (then_ B0.out hb)
    clear hb hr1
    have y0 := K1.out.cell 0
    have y1 := K1.out.cell 1
    have y2 := K1.out.cell 2
    have y3 := K1.out.cell 3
    have y4 := K1.out.cell 4
    have y5 := K1.out.cell 5
    have y6 := K1.out.cell 6
    have y7 := K1.out.cell 7
    have y8 := K1.out.cell 8
    have y9 := K1.out.cell 9
    go_wp2_with fail
    refine (H2.out _).mono ?_
    rintro e w2 ⟨A2, c2, rfl, ho2, hb⟩
    have R2 := Lib.hid (Reads.of_own ho2)
    have R1b := Lib.hid ((R1.out.below hb).more hb.size)
    have K2 := Lib.hid (K1.out.below hb K1.out.lt)
    have B2 := Lib.hid (then_ B1.out hb)
    clear hb y0 y1 y2 y3 y4 y5 y6 y7 y8 y9 ho2
    go_upto_region 5 with fail
    have F1 := Lib.hid (qb (W := w2) fun cur _ => H3.out cur)
    have F2 := Lib.hid (qb (W := w2) fun cur _ => H4.out cur)
    simp only [Bool.false_eq_true, if_false, if_true] at F1 F2
    have y0 := cell_regrown (K2.out.cell 0)
    have y1 := cell_regrown (K2.out.cell 1)
    have y2 := cell_regrown (K2.out.cell 2)
    have y3 := cell_regrown (K2.out.cell 3)
    have y4 := cell_regrown (K2.out.cell 4)
    have y5 := cell_regrown (K2.out.cell 5)
    have y6 := cell_regrown (K2.out.cell 6)
    have y7 := cell_regrown (K2.out.cell 7)
    have y8 := cell_regrown (K2.out.cell 8)
    have y9 := cell_regrown (K2.out.cell 9)
    have v1 := fun d os => run_conv (P := Try.prog) Try.underlying24 Try.underlying5 Try.underlying9 (c := c1) (R1b.out.regrown (Nat.le_refl _) d os)
    have v2 := fun d os => run_conv (P := Try.prog) Try.underlying24 Try.underlying5 Try.underlying9 (c := c2) (R2.out.regrown (Nat.le_refl _) d os)
    obtain ⟨X, hX⟩ : ∃ X, S lb = X := ⟨_, rfl⟩
    rw [hX] at v1 v2
    clear hX
    refine wp_region_quiet_below (by kernel_rfl) (by kernel_rfl) ?_
    repeat (go_big_quiet_step ((first | with_reducible exact F1.out _ _ | with_reducible exact F2.out _ _)))
    refine wpQuiet_nil ?_
    intro _ hw'
    obtain ⟨⟨dq, osq⟩, hw''⟩ := hw'
    subst hw''
    go_wp2
    go_ret
    exact ⟨rfl, then_ B2.out (below_regrown _ _ _)⟩
theorem wireWrites_walk (f t k g s b p : Int) (u : ByteArray) (i tm : Int) (w : World) (h : IsMail f t k g s b p u i tm) :
    Calls Try.prog 3 #[.agg #[.int .i64 f, .int .i64 t, .int .u8 k, .int .i64 g, .int .i64 s, .int .i64 b, .int .i64 p, .string u, .int .i64 i, .int .i64 tm]] w fun e w' => e = .returned (.bool true) ∧ Below w.heap.size w w' := by
  have := wireWrites_walkM _ w h.2
  rw [show mA ⟨f, t, k, g, s, b, p, u.data.toList, i, tm⟩ = #[.int .i64 f, .int .i64 t, .int .u8 k, .int .i64 g, .int .i64 s, .int .i64 b, .int .i64 p, .string u, .int .i64 i, .int .i64 tm] from by simp only [mA, S_of]] at this
  exact this
end Go.Proofs.Ytdodfpjejjjciaa
