/-
  Layer 23: WireNames', WireBack's, WireOnly's walks.
-/
import Derived.Test.YtdodfpjejjjciaaWireLaws
namespace Go.Proofs.Ytdodfpjejjjciaa
open Go.RowKit Bal
set_option maxHeartbeats 8000000
set_option maxRecDepth 100000
set_option linter.unusedVariables false
set_option linter.unusedSimpArgs false

theorem zero_eq (w : World) : (binOp .eql 23 (.agg #[.int .i64 0, .int .i64 0, .int .u8 0, .int .i64 0, .int .i64 0, .int .i64 0, .int .i64 0, .string ⟨#[]⟩, .int .i64 0, .int .i64 0]) (.agg #[.int .i64 0, .int .i64 0, .int .u8 0, .int .i64 0, .int .i64 0, .int .i64 0, .int .i64 0, .string ⟨#[]⟩, .int .i64 0, .int .i64 0])).run Try.prog w = .ok (.bool true) w := by
  rw [mail_eq, mail_self]
theorem zero_eqIn (w : World) : (Op.equalIn 10000 23 (.agg #[.int .i64 0, .int .i64 0, .int .u8 0, .int .i64 0, .int .i64 0, .int .i64 0, .int .i64 0, .string ⟨#[]⟩, .int .i64 0, .int .i64 0]) (.agg #[.int .i64 0, .int .i64 0, .int .u8 0, .int .i64 0, .int .i64 0, .int .i64 0, .int .i64 0, .string ⟨#[]⟩, .int .i64 0, .int .i64 0])).run Try.prog w = .ok true w := by
  rw [mail_eqIn, mail_self]

theorem wireOnly_walk (A : Option Addr) (n c : Nat) (l : List UInt8) (w : World) (hi : IsBytes w A n c l) :
    Calls Try.prog 11 #[.slice A n c] w fun e w' => e = .returned (.bool true) ∧ Below w.heap.size w w' := by
  obtain ⟨hr, hc, hm⟩ := hi
  unfold maxLen at hm
  have HR := Lib.hid hr
  have HLN := Lib.hid hr.len_b
  clear hr
  go_enter Try.func11, Try.ntmps11
  go_wp2_with fail
  refine (alive23 _).mono ?_
  rintro e w1 ⟨rfl, hb⟩
  have B1 := Lib.hid hb
  clear hb
  by_cases z : (10000 : Int) < (n : Int)
  · go_wp2
    go_ret
    exact ⟨rfl, B1.out⟩
  have HR1 := Lib.hid (HR.out.below B1.out |>.more B1.out.size)
  by_cases z2 : 4096 < n
  · have zq := zero_eq
    have zq2 := zero_eqIn
    go_wp2_with fail
    refine (wread_big A n c w1 z2 (by omega)).mono ?_
    rintro e w2 ⟨rfl, hb⟩
    have B2 := Lib.hid ((then_ B1.out hb).alloc (then_ B1.out hb).size (.cells #[.int .i64 0, .int .i64 0, .int .u8 0, .int .i64 0, .int .i64 0, .int .i64 0, .int .i64 0, .string ⟨#[]⟩, .int .i64 0, .int .i64 0] 23))
    clear hb
    go_wp2
    go_ret
    exact ⟨rfl, B2.out⟩
  cases hq : Wp.readM l with
  | none =>
    have H := Lib.hid (wread_no A n c l w1 HR1.out hc (by omega) (by omega) hq)
    have zq := zero_eq
    have zq2 := zero_eqIn
    clear hq
    go_wp2_with fail
    refine H.out.mono ?_
    rintro e w2 ⟨rfl, hb⟩
    have B2 := Lib.hid ((then_ B1.out hb).alloc (then_ B1.out hb).size (.cells #[.int .i64 0, .int .i64 0, .int .u8 0, .int .i64 0, .int .i64 0, .int .i64 0, .int .i64 0, .string ⟨#[]⟩, .int .i64 0, .int .i64 0] 23))
    clear hb
    go_wp2
    go_ret
    exact ⟨rfl, B2.out⟩
  | some m =>
    obtain ⟨hmay, hby⟩ := Wp.readM_back hq
    have H := wread_yes A n c l m w1 HR1.out hc (by omega) (by omega) hq
    have WW := fun w => wwrite_is m l n w hmay hby HLN.out
    obtain ⟨U, hU⟩ : ∃ U, S m.v = U := ⟨_, rfl⟩
    have eA : mA m = #[.int .i64 m.f, .int .i64 m.t, .int .u8 m.k, .int .i64 m.g, .int .i64 m.s, .int .i64 m.b, .int .i64 m.p, .string U, .int .i64 m.i, .int .i64 m.tm] := by rw [← hU]; rfl
    rw [eA] at H WW
    have H1 := Lib.hid H
    have H2 := Lib.hid WW
    clear hq H WW hU eA hmay hby
    go_wp2_with fail
    refine H1.out.mono ?_
    rintro e w2 ⟨rfl, hb⟩
    have B2 := Lib.hid ((then_ B1.out hb).alloc (then_ B1.out hb).size (.cells #[.int .i64 m.f, .int .i64 m.t, .int .u8 m.k, .int .i64 m.g, .int .i64 m.s, .int .i64 m.b, .int .i64 m.p, .string U, .int .i64 m.i, .int .i64 m.tm] 23))
    clear hb
    go_wp2_with fail
    refine (H2.out _).mono ?_
    rintro e w3 ⟨A3, c3, rfl, hr3, _, _, hb⟩
    have B3 := Lib.hid (then_ B2.out hb)
    have v1 := run_conv (P := Try.prog) Try.underlying24 Try.underlying5 Try.underlying9 (c := c3) hr3
    have v2 := run_conv (P := Try.prog) Try.underlying24 Try.underlying5 Try.underlying9 (c := c) (HR.out.below B3.out)
    obtain ⟨X, hX⟩ : ∃ X, S l = X := ⟨_, rfl⟩
    rw [hX] at v1 v2
    clear hb hr3 hX
    go_wp2
    go_ret
    exact ⟨rfl, B3.out⟩

theorem wireNames_walk (w : World) : Calls Try.prog 9 #[] w fun e w' => e = .returned (.bool true) ∧ Below w.heap.size w w' := by
  have hmk : ∀ w, (Instr.makeSlice 24 (.int .i64 4097) (.int .i64 4097)).run Try.prog w = .ok (.slice (some ⟨w.heap.size, 0, none⟩) 4097 4097) (w.alloc (.cells (zeroBytes 4097) 5)) := fun w => make_bytes 4097 (by omega) w
  go_enter Try.func9, Try.ntmps9
  go_wp2_with fail
  refine (wread_big _ 4097 4097 _ (by omega) (by omega)).mono ?_
  rintro e w1 ⟨rfl, hb⟩
  have B1 := Lib.hid (below_of_alloc (hb.mono (B' := w.heap.size) (by simp)) (Nat.le_refl _))
  have B1 := Lib.hid (B1.out.alloc B1.out.size (.cells #[.int .i64 0, .int .i64 0, .int .u8 0, .int .i64 0, .int .i64 0, .int .i64 0, .int .i64 0, .string ⟨#[]⟩, .int .i64 0, .int .i64 0] 23))
  clear hb hmk
  go_wp2_with fail
  refine (alive23 _).mono ?_
  rintro e w2 ⟨rfl, hb⟩
  have B2 := Lib.hid (then_ B1.out hb)
  clear hb
  go_wp2_with fail
  refine (wbad_yes _ 7 7 [1, 2, 1, 3, 4, 9, 0] _ (lit_reads w2 #[.int .u8 1, .int .u8 2, .int .u8 1, .int .u8 3, .int .u8 4, .int .u8 9, .int .u8 0] _ _ rfl rfl) (by omega) (by omega) (by omega) (by decide +kernel)).mono ?_
  rintro e w3 ⟨rfl, hb⟩
  have B3 := Lib.hid (then_ (B2.out.alloc B2.out.size _) hb)
  clear hb
  go_wp2_with fail
  refine (wbad_yes _ 4 4 [0, 0, 0, 0] _ (lit_reads w3 #[.int .u8 0, .int .u8 0, .int .u8 0, .int .u8 0] _ _ rfl rfl) (by omega) (by omega) (by omega) (by decide +kernel)).mono ?_
  rintro e w4 ⟨rfl, hb⟩
  have B4 := Lib.hid (then_ (B3.out.alloc B3.out.size _) hb)
  clear hb
  have hI : ∀ (k s b : Int) (v : List UInt8), 0 ≤ k → k ≤ 255 → inI s → inI b → v.length ≤ 100 → IsMailM ⟨0, 0, k, 0, s, b, 0, v, 0, 0⟩ := by
    intro k s b v h0 h1 h2 h3 h4
    have z : inI 0 := ⟨by omega, by omega⟩
    exact ⟨⟨h0, h1⟩, by show v.length ≤ _; omega, z, z, z, h2, h3, z, z, z⟩
  have HI := Lib.hid hI
  clear hI
  go_wp2_with fail
  refine (wcheck_is ⟨0, 0, 2, 0, 1, 8, 0, [120], 0, 0⟩ _ (HI.out _ _ _ _ (by omega) (by omega) ⟨by omega, by omega⟩ ⟨by omega, by omega⟩ (by decide)) false (by decide +kernel)).mono ?_
  rintro e w5 ⟨rfl, hb⟩
  have B5 := Lib.hid (then_ B4.out hb)
  clear hb
  go_wp2_with fail
  refine (wcheck_is ⟨0, 0, 4, 0, 1, 7, 0, [], 0, 0⟩ _ (HI.out _ _ _ _ (by omega) (by omega) ⟨by omega, by omega⟩ ⟨by omega, by omega⟩ (by decide)) false (by decide +kernel)).mono ?_
  rintro e w6 ⟨rfl, hb⟩
  have B6 := Lib.hid (then_ B5.out hb)
  clear hb
  go_wp2_with fail
  refine (wcheck_is ⟨0, 0, 7, 0, 201, 0, 0, [], 0, 0⟩ _ (HI.out _ _ _ _ (by omega) (by omega) ⟨by omega, by omega⟩ ⟨by omega, by omega⟩ (by decide)) true (by decide +kernel)).mono ?_
  rintro e w7 ⟨rfl, hb⟩
  have B7 := Lib.hid (then_ B6.out hb)
  clear hb
  go_wp2
  go_ret
  exact ⟨rfl, B7.out⟩
end Go.Proofs.Ytdodfpjejjjciaa
