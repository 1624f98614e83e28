/-
  Layer 24: NetGoes' walk.
-/
import Derived.Test.YtmchnjnknnolmaaNetU
import Derived.Test.YtmchnjnknnolmaaNetF
import Derived.Test.YtmchnjnknnolmaaMailsIn
import Derived.Test.YtmchnjnknnolmaaSameInts
namespace Go.Proofs.Ytmchnjnknnolmaa
open Go.RowKit Bal Go.Sort Go.BigFrame
set_option maxHeartbeats 4000000
set_option maxRecDepth 100000
set_option linter.unusedVariables false
set_option linter.unusedSimpArgs false

/-- A row of the call's own that may be written: its cells are there. -/
def RowW (w : World) (g N : Nat) : Prop := ∃ cur : Array Value, w.heap[g]? = some (.cells cur 25 (0, 0)) ∧ N ≤ cur.size
theorem RowW.cell {w : World} {g N : Nat} (h : RowW w g N) {i : Nat} (hi : i < N) : (∃ u, w.cell? ⟨g, i, none⟩ = some u) ∧ w.frozen? ⟨g, i, none⟩ = false := by
  obtain ⟨cur, h1, h2⟩ := h
  refine ⟨⟨cur[i]'(by omega), ?_⟩, ?_⟩
  · rw [cell_of_row w g i cur _ _ h1]
    exact Array.getElem?_eq_getElem _
  · simp [World.frozen?, h1]
theorem RowW.set_ {w : World} {g N : Nat} (h : RowW w g N) (i : Nat) (u : Value) : RowW (w.setCell ⟨g, i, none⟩ u) g N := by
  obtain ⟨cur, h1, h2⟩ := h
  refine ⟨cur.setIfInBounds i u, ?_, by simpa using h2⟩
  simp [World.setCell, Array.getElem?_modify, h1]
theorem RowW.below {w w' : World} {g N B : Nat} (h : RowW w g N) (hb : Below B w w') (hg : g < B) : RowW w' g N := by
  obtain ⟨cur, h1, h2⟩ := h
  exact ⟨cur, (hb.block g hg).trans h1, h2⟩
theorem RowW.of_own {w : World} {base n c : Nat} {A : Option Addr} {xs : List Value} (h : w.ownsRow base 25 10 (.slice A n c) n xs) (hn : 0 < n) : ∃ g, A = some ⟨g, 0, none⟩ ∧ base ≤ g ∧ g < w.heap.size ∧ RowW w g (n * 10) := by
  rcases h.2 with ⟨h2, h3⟩ | ⟨g, cap, cur, h2, h3, h4, h5, h6, h7, h8⟩
  · omega
  · injection h2 with h2
    have hlt : g < w.heap.size := by
      rcases Nat.lt_or_ge g w.heap.size with hlt | hge
      · exact hlt
      · rw [Array.getElem?_eq_none hge] at h4; cases h4
    exact ⟨g, h2, h3, hlt, cur, h4, by rw [h7]; exact Nat.mul_le_mul_right _ h5⟩

theorem RowW.any_set {w : World} {g N : Nat} (h : RowW w g N) (g' i : Nat) (u : Value) : RowW (w.setCell ⟨g', i, none⟩ u) g N := by
  by_cases e : g = g'
  · subst e; exact h.set_ i u
  · obtain ⟨cur, h1, h2⟩ := h
    exact ⟨cur, (Below.heap_setCell w ⟨g', i, none⟩ u g e).trans h1, h2⟩
def RowX (w : World) (base : Nat) (A : Option Addr) (n : Nat) : Prop := n = 0 ∨ ∃ g, A = some ⟨g, 0, none⟩ ∧ base ≤ g ∧ g < w.heap.size ∧ RowW w g (n * 10)
theorem RowX.of_own {w : World} {base n c : Nat} {A : Option Addr} {xs : List Value} (h : w.ownsRow base 25 10 (.slice A n c) n xs) : RowX w base A n := by
  rcases Nat.eq_zero_or_pos n with h0 | h0
  · exact Or.inl h0
  · exact Or.inr (RowW.of_own h h0)
theorem RowX.below {w w' : World} {base n : Nat} {A : Option Addr} (h : RowX w base A n) (hb : Below w.heap.size w w') : RowX w' base A n := by
  rcases h with h | ⟨g, h1, h2, h3, h4⟩
  · exact Or.inl h
  · exact Or.inr ⟨g, h1, h2, Nat.lt_of_lt_of_le h3 hb.size, h4.below hb h3⟩
theorem RowX.set_ {w : World} {base n : Nat} {A : Option Addr} (h : RowX w base A n) (g i : Nat) (u : Value) : RowX (w.setCell ⟨g, i, none⟩ u) base A n := by
  rcases h with h | ⟨g', h1, h2, h3, h4⟩
  · exact Or.inl h
  · exact Or.inr ⟨g', h1, h2, by simpa [World.setCell] using h3, h4.any_set g i u⟩
theorem mEqS (m : Wp.Mail) (w : World) : (binOp .eql 25 (.agg (mA m)) (.agg (mA m))).run Try.prog w = .ok (.bool true) w := by
  have h := mail_eq m.f m.t m.k m.g m.s m.b m.p m.i m.tm m.f m.t m.k m.g m.s m.b m.p m.i m.tm (S m.v) (S m.v) w
  rw [mail_self] at h
  exact h
theorem netGoes_walk (A : Option Addr) (n c : Nat) (l : List Wp.Mail) (Am : Option Addr) (nm cm' : Nat) (more : List Wp.Mail) (k fr tt : Int) (w : World) (hi : IsMails w A n c l) (hi2 : IsMails w Am nm cm' more)
    (hk : -9223372036854775808 ≤ k ∧ k ≤ 9223372036854775807) (hf : -9223372036854775808 ≤ fr ∧ fr ≤ 9223372036854775807) (ht : -9223372036854775808 ≤ tt ∧ tt ≤ 9223372036854775807) :
    Calls Try.prog 7 #[.slice A n c, .slice Am nm cm', .int .i64 k, .int .i64 fr, .int .i64 tt] w fun e w' => e = .returned (.bool true) ∧ Below w.heap.size w w' := by
  obtain ⟨hr, hc, hcm, hl⟩ := hi
  obtain ⟨hrm, hcmm, hcm2, hlm⟩ := hi2
  unfold maxLen at hcm hcm2
  have HR := Lib.hid hr
  have HRM := Lib.hid hrm
  have HL := Lib.hid hl
  have HLM := Lib.hid hlm
  have hlen := hr.len_m
  have HLEN := Lib.hid hlen
  clear hr hrm hl hlm hk hf ht hlen
  go_enter Try.func7, Try.ntmps7
  go_wp2_with fail
  refine (ngreat_any A n c l w HR.out HL.out (by omega)).mono ?_
  rintro e w' ⟨b, rfl, rfl, hb5⟩
  cases b with
  | true =>
    clear hb5
    go_wp2
    go_ret
    exact ⟨rfl, Below.refl _ _⟩
  | false =>
  have hn5 : n ≤ 5000 := hb5 rfl
  clear hb5
  go_wp2_with fail
  refine (ngreat_any Am nm cm' more w HRM.out HLM.out (by omega)).mono ?_
  rintro e w' ⟨b, rfl, rfl, hb5⟩
  cases b with
  | true =>
    clear hb5
    go_wp2
    go_ret
    exact ⟨rfl, Below.refl _ _⟩
  | false =>
  have hm5 : nm ≤ 5000 := hb5 rfl
  clear hb5
  go_wp2_with (at_builtin; refine app_ms rfl (.tmp 40) (.tmp 41) rfl w.heap.size (.slice none 0 0) 0 [] rfl (World.ownsRow_nil _ _ _ _) w.heap.size A n c l rfl HR.out ?c1 ?c2 ?_)
  case c1 => omega
  case c2 => exact Nat.le_refl _
  intro v1 w1 o1 g1
  have O1 : Hid (w1.ownsRow w.heap.size 25 10 v1 n (cm l)) := by simpa [Hid] using o1
  have B1 := Lib.hid (g1.below (Nat.le_refl _) (by intro k hk; cases hk))
  obtain ⟨A1, c1, rfl, hr1, hc1, hm1⟩ := own_formN O1.out
  unfold maxLen at hm1
  have hcc1 : n ≤ c1 := hc1
  have D1_1 := Lib.hid (Below.refl w1.heap.size w1)
  have PO := Lib.hid hr1
  have PL := Lib.hid ((HR.out.below B1.out).more B1.out.size)
  have PM := Lib.hid ((HRM.out.below B1.out).more B1.out.size)
  clear o1 g1 hr1 hc1
  obtain ⟨LS, hLS⟩ : ∃ x, sendL l more = x := ⟨_, rfl⟩
  obtain ⟨nS, hnS⟩ : ∃ x, LS.length = x := ⟨_, rfl⟩
  obtain ⟨eS, heS⟩ : ∃ x, sendE l more = x := ⟨_, rfl⟩
  obtain ⟨LT, hLT⟩ : ∃ x, takeL l k = x := ⟨_, rfl⟩
  obtain ⟨nT, hnT⟩ : ∃ x, LT.length = x := ⟨_, rfl⟩
  obtain ⟨eT, heT⟩ : ∃ x, takeE l k = x := ⟨_, rfl⟩
  obtain ⟨m, hm⟩ : ∃ x, takeM l k = x := ⟨_, rfl⟩
  obtain ⟨r, hrr⟩ : ∃ x, btwR l fr tt = x := ⟨_, rfl⟩
  obtain ⟨q, hq⟩ : ∃ x, r.length = x := ⟨_, rfl⟩
  obtain ⟨eB, heB⟩ : ∃ x, btwE l fr tt = x := ⟨_, rfl⟩
  obtain ⟨eC, heC⟩ : ∃ x, okE2 l = x := ⟨_, rfl⟩
  have hnS2 : nS ≤ 4096 := by rw [← hnS, ← hLS]; exact sendL_len
  have hnT2 : nT ≤ 5000 := by have := @takeL_len l k; have := HLEN.out; rw [← hnT, ← hLT]; omega
  have hq2 : q ≤ 5000 := by have := @btwR_len l fr tt; have := HLEN.out; rw [← hq, ← hrr]; omega
  obtain ⟨U, hU⟩ : ∃ U, S m.v = U := ⟨_, rfl⟩
  have eA : mA m = #[.int .i64 m.f, .int .i64 m.t, .int .u8 m.k, .int .i64 m.g, .int .i64 m.s, .int .i64 m.b, .int .i64 m.p, .string U, .int .i64 m.i, .int .i64 m.tm] := by rw [← hU]; rfl
  have F1 := Lib.hid (fun w hr hr2 => nsend_any A1 Am n c1 nm cm' l more w hr hr2 HL.out HLM.out (by omega) (by omega) LS nS eS hLS hnS heS)
  have F2 := Lib.hid (fun w hr hr2 => rsend_any A Am n c nm cm' l more w hr hr2 HL.out HLM.out (by omega) (by omega) LS nS eS hLS hnS heS)
  have F3a := fun w hr => ntake_any A1 n c1 l w hr hcc1 HL.out (by omega) k LT nT eT m hLT hnT heT hm
  have F4a := fun w hr => rtake_any A n c l w hr hc HL.out (by omega) k LT nT eT m hLT hnT heT hm
  have F5a := fun w hr => ncopy_any A1 n c1 l w hr hcc1 HL.out (by omega) k eT m heT hm
  have F6 := Lib.hid (fun w hr => ndrop_any A1 n c1 l w hr hcc1 HL.out (by omega) k LT nT eT hLT hnT heT)
  have F7 := Lib.hid (fun w hr => nbetween_any A1 n c1 l w hr hcc1 HL.out (by omega) fr tt r q eB hrr hq heB)
  have F8 := Lib.hid (fun w hr => rbetween_any A n c l w hr hc HL.out (by omega) fr tt r q eB hrr hq heB)
  have F9 := Lib.hid (fun w hr => ncheck_eq A1 n c1 l w hr hcc1 HL.out (by omega) eC heC)
  have F10 := Lib.hid (fun w hr => rcheck_eq A n c l w hr hc HL.out (by omega) eC heC)
  have zq := fun w => mEqS m w
  have zq2 := fun w => mEqInS m w
  rw [eA] at F3a F4a F5a zq zq2
  have F3 := Lib.hid F3a
  have F4 := Lib.hid F4a
  have F5 := Lib.hid F5a
  clear F3a F4a F5a hLS hnS heS hLT hnT heT hm hrr hq heB heC hU eA O1 HR HRM
  go_wp2_with fail
  refine (F1.out _ ((PO.out.below D1_1.out).more D1_1.out.size) ((PM.out.below D1_1.out).more D1_1.out.size)).mono ?_
  rintro e w2 ⟨A2, d2, rfl, ho, hb⟩
  have PA := Lib.hid (Reads.of_own ho)
  have XA := Lib.hid (RowX.of_own ho)
  clear ho
  have D1_2 := Lib.hid (then_ D1_1.out hb)
  clear hb D1_1
  have D2_2 := Lib.hid (Below.refl w2.heap.size w2)
  go_wp2_with fail
  refine (F2.out _ ((PL.out.below D1_2.out).more D1_2.out.size) ((PM.out.below D1_2.out).more D1_2.out.size)).mono ?_
  rintro e w3 ⟨A3, d3, rfl, ho, hb⟩
  have PB := Lib.hid (Reads.of_own ho)
  clear ho
  have D1_3 := Lib.hid (then_ D1_2.out hb)
  have D2_3 := Lib.hid (then_ D2_2.out hb)
  clear hb D1_2 D2_2
  have D3_3 := Lib.hid (Below.refl w3.heap.size w3)
  have hz13 : w1.heap.size ≤ w3.heap.size := D1_3.out.size
  go_wp2_with fail
  refine (F3.out _ ((PO.out.below D1_3.out).more D1_3.out.size)).mono ?_
  rintro e w4 ⟨A4, d4, rfl, ho, hb⟩
  have PC := Lib.hid (Reads.of_own ho)
  have XC := Lib.hid (RowX.of_own ho)
  clear ho
  have D1_4 := Lib.hid (then_ D1_3.out hb)
  have D2_4 := Lib.hid (then_ D2_3.out hb)
  have D3_4 := Lib.hid (then_ D3_3.out hb)
  clear hb D1_3 D2_3 D3_3
  have D4_4 := Lib.hid (Below.refl w4.heap.size w4)
  go_wp2_with fail
  have hb := (Below.refl w4.heap.size w4).alloc (Nat.le_refl _) (.cells #[.int .i64 m.f, .int .i64 m.t, .int .u8 m.k, .int .i64 m.g, .int .i64 m.s, .int .i64 m.b, .int .i64 m.p, .string U, .int .i64 m.i, .int .i64 m.tm] 25)
  have K5 := Lib.hid (Blk.new w4 25 #[.int .i64 m.f, .int .i64 m.t, .int .u8 m.k, .int .i64 m.g, .int .i64 m.s, .int .i64 m.b, .int .i64 m.p, .string U, .int .i64 m.i, .int .i64 m.tm])
  generalize w4.alloc (.cells #[.int .i64 m.f, .int .i64 m.t, .int .u8 m.k, .int .i64 m.g, .int .i64 m.s, .int .i64 m.b, .int .i64 m.p, .string U, .int .i64 m.i, .int .i64 m.tm] 25) = w5 at *
  have D1_5 := Lib.hid (then_ D1_4.out hb)
  have D2_5 := Lib.hid (then_ D2_4.out hb)
  have D3_5 := Lib.hid (then_ D3_4.out hb)
  have D4_5 := Lib.hid (then_ D4_4.out hb)
  clear hb D1_4 D2_4 D3_4 D4_4
  have D5_5 := Lib.hid (Below.refl w5.heap.size w5)
  go_wp2_with fail
  refine (F4.out _ ((PL.out.below D1_5.out).more D1_5.out.size)).mono ?_
  rintro e w6 ⟨A6, d6, rfl, ho, hb⟩
  have PD := Lib.hid (Reads.of_own ho)
  clear ho
  have D1_6 := Lib.hid (then_ D1_5.out hb)
  have D2_6 := Lib.hid (then_ D2_5.out hb)
  have D3_6 := Lib.hid (then_ D3_5.out hb)
  have D4_6 := Lib.hid (then_ D4_5.out hb)
  have D5_6 := Lib.hid (then_ D5_5.out hb)
  clear hb D1_5 D2_5 D3_5 D4_5 D5_5
  have D6_6 := Lib.hid (Below.refl w6.heap.size w6)
  go_wp2_with fail
  have hb := (Below.refl w6.heap.size w6).alloc (Nat.le_refl _) (.cells #[.int .i64 m.f, .int .i64 m.t, .int .u8 m.k, .int .i64 m.g, .int .i64 m.s, .int .i64 m.b, .int .i64 m.p, .string U, .int .i64 m.i, .int .i64 m.tm] 25)
  have K7 := Lib.hid (Blk.new w6 25 #[.int .i64 m.f, .int .i64 m.t, .int .u8 m.k, .int .i64 m.g, .int .i64 m.s, .int .i64 m.b, .int .i64 m.p, .string U, .int .i64 m.i, .int .i64 m.tm])
  generalize w6.alloc (.cells #[.int .i64 m.f, .int .i64 m.t, .int .u8 m.k, .int .i64 m.g, .int .i64 m.s, .int .i64 m.b, .int .i64 m.p, .string U, .int .i64 m.i, .int .i64 m.tm] 25) = w7 at *
  have D1_7 := Lib.hid (then_ D1_6.out hb)
  have D2_7 := Lib.hid (then_ D2_6.out hb)
  have D3_7 := Lib.hid (then_ D3_6.out hb)
  have D4_7 := Lib.hid (then_ D4_6.out hb)
  have D5_7 := Lib.hid (then_ D5_6.out hb)
  have D6_7 := Lib.hid (then_ D6_6.out hb)
  clear hb D1_6 D2_6 D3_6 D4_6 D5_6 D6_6
  have D7_7 := Lib.hid (Below.refl w7.heap.size w7)
  go_wp2_with fail
  refine (F5.out _ ((PO.out.below D1_7.out).more D1_7.out.size)).mono ?_
  rintro e w8 ⟨rfl, hb⟩
  have D1_8 := Lib.hid (then_ D1_7.out hb)
  have D2_8 := Lib.hid (then_ D2_7.out hb)
  have D3_8 := Lib.hid (then_ D3_7.out hb)
  have D4_8 := Lib.hid (then_ D4_7.out hb)
  have D5_8 := Lib.hid (then_ D5_7.out hb)
  have D6_8 := Lib.hid (then_ D6_7.out hb)
  have D7_8 := Lib.hid (then_ D7_7.out hb)
  clear hb D1_7 D2_7 D3_7 D4_7 D5_7 D6_7 D7_7
  go_wp2_with fail
  have hb := (Below.refl w8.heap.size w8).alloc (Nat.le_refl _) (.cells #[.int .i64 m.f, .int .i64 m.t, .int .u8 m.k, .int .i64 m.g, .int .i64 m.s, .int .i64 m.b, .int .i64 m.p, .string U, .int .i64 m.i, .int .i64 m.tm] 25)
  have K9 := Lib.hid (Blk.new w8 25 #[.int .i64 m.f, .int .i64 m.t, .int .u8 m.k, .int .i64 m.g, .int .i64 m.s, .int .i64 m.b, .int .i64 m.p, .string U, .int .i64 m.i, .int .i64 m.tm])
  generalize w8.alloc (.cells #[.int .i64 m.f, .int .i64 m.t, .int .u8 m.k, .int .i64 m.g, .int .i64 m.s, .int .i64 m.b, .int .i64 m.p, .string U, .int .i64 m.i, .int .i64 m.tm] 25) = w9 at *
  have D1_9 := Lib.hid (then_ D1_8.out hb)
  have D2_9 := Lib.hid (then_ D2_8.out hb)
  have D3_9 := Lib.hid (then_ D3_8.out hb)
  have D4_9 := Lib.hid (then_ D4_8.out hb)
  have D5_9 := Lib.hid (then_ D5_8.out hb)
  have D6_9 := Lib.hid (then_ D6_8.out hb)
  have D7_9 := Lib.hid (then_ D7_8.out hb)
  clear hb D1_8 D2_8 D3_8 D4_8 D5_8 D6_8 D7_8
  have D9_9 := Lib.hid (Below.refl w9.heap.size w9)
  go_wp2_with fail
  refine (F6.out _ ((PO.out.below D1_9.out).more D1_9.out.size)).mono ?_
  rintro e w10 ⟨A10, d10, rfl, ho, hb⟩
  have PH := Lib.hid (Reads.of_own ho)
  clear ho
  have D1_10 := Lib.hid (then_ D1_9.out hb)
  have D2_10 := Lib.hid (then_ D2_9.out hb)
  have D3_10 := Lib.hid (then_ D3_9.out hb)
  have D4_10 := Lib.hid (then_ D4_9.out hb)
  have D5_10 := Lib.hid (then_ D5_9.out hb)
  have D6_10 := Lib.hid (then_ D6_9.out hb)
  have D7_10 := Lib.hid (then_ D7_9.out hb)
  have D9_10 := Lib.hid (then_ D9_9.out hb)
  clear hb D1_9 D2_9 D3_9 D4_9 D5_9 D6_9 D7_9 D9_9
  have D10_10 := Lib.hid (Below.refl w10.heap.size w10)
  go_wp2_with fail
  refine (F7.out _ ((PO.out.below D1_10.out).more D1_10.out.size)).mono ?_
  rintro e w11 ⟨A11, d11, rfl, ho, hb⟩
  have PI := Lib.hid (Reads.of_own ho)
  clear ho
  have D1_11 := Lib.hid (then_ D1_10.out hb)
  have D2_11 := Lib.hid (then_ D2_10.out hb)
  have D3_11 := Lib.hid (then_ D3_10.out hb)
  have D4_11 := Lib.hid (then_ D4_10.out hb)
  have D5_11 := Lib.hid (then_ D5_10.out hb)
  have D6_11 := Lib.hid (then_ D6_10.out hb)
  have D7_11 := Lib.hid (then_ D7_10.out hb)
  have D9_11 := Lib.hid (then_ D9_10.out hb)
  have D10_11 := Lib.hid (then_ D10_10.out hb)
  clear hb D1_10 D2_10 D3_10 D4_10 D5_10 D6_10 D7_10 D9_10 D10_10
  have D11_11 := Lib.hid (Below.refl w11.heap.size w11)
  go_wp2_with fail
  refine (F8.out _ ((PL.out.below D1_11.out).more D1_11.out.size)).mono ?_
  rintro e w12 ⟨A12, d12, rfl, ho, hb⟩
  have PJ := Lib.hid (Reads.of_own ho)
  clear ho
  have D1_12 := Lib.hid (then_ D1_11.out hb)
  have D2_12 := Lib.hid (then_ D2_11.out hb)
  have D3_12 := Lib.hid (then_ D3_11.out hb)
  have D4_12 := Lib.hid (then_ D4_11.out hb)
  have D5_12 := Lib.hid (then_ D5_11.out hb)
  have D6_12 := Lib.hid (then_ D6_11.out hb)
  have D7_12 := Lib.hid (then_ D7_11.out hb)
  have D9_12 := Lib.hid (then_ D9_11.out hb)
  have D10_12 := Lib.hid (then_ D10_11.out hb)
  have D11_12 := Lib.hid (then_ D11_11.out hb)
  clear hb D1_11 D2_11 D3_11 D4_11 D5_11 D6_11 D7_11 D9_11 D10_11 D11_11
  have D12_12 := Lib.hid (Below.refl w12.heap.size w12)
  go_wp2_with fail
  refine (rsame_any A2 A3 nS d2 d3 LS _ _ w12 (PA.out.below D2_12.out) (PB.out.below D3_12.out) (by omega)).mono ?_
  rintro e w' ⟨rfl, dq, rfl⟩
  have hb := below_drewN (Below.refl w12.heap.size w12) dq
  generalize w12.drewN dq = w13 at *
  have D1_13 := Lib.hid (then_ D1_12.out hb)
  have D2_13 := Lib.hid (then_ D2_12.out hb)
  have D3_13 := Lib.hid (then_ D3_12.out hb)
  have D4_13 := Lib.hid (then_ D4_12.out hb)
  have D5_13 := Lib.hid (then_ D5_12.out hb)
  have D6_13 := Lib.hid (then_ D6_12.out hb)
  have D7_13 := Lib.hid (then_ D7_12.out hb)
  have D9_13 := Lib.hid (then_ D9_12.out hb)
  have D10_13 := Lib.hid (then_ D10_12.out hb)
  have D11_13 := Lib.hid (then_ D11_12.out hb)
  have D12_13 := Lib.hid (then_ D12_12.out hb)
  clear hb D1_12 D2_12 D3_12 D4_12 D5_12 D6_12 D7_12 D9_12 D10_12 D11_12 D12_12
  go_wp2_with fail
  refine (rsame_any A4 A6 nT d4 d6 LT _ _ w13 (PC.out.below D4_13.out) (PD.out.below D6_13.out) (by omega)).mono ?_
  rintro e w' ⟨rfl, dq, rfl⟩
  have hb := below_drewN (Below.refl w13.heap.size w13) dq
  generalize w13.drewN dq = w14 at *
  have D1_14 := Lib.hid (then_ D1_13.out hb)
  have D2_14 := Lib.hid (then_ D2_13.out hb)
  have D3_14 := Lib.hid (then_ D3_13.out hb)
  have D4_14 := Lib.hid (then_ D4_13.out hb)
  have D5_14 := Lib.hid (then_ D5_13.out hb)
  have D6_14 := Lib.hid (then_ D6_13.out hb)
  have D7_14 := Lib.hid (then_ D7_13.out hb)
  have D9_14 := Lib.hid (then_ D9_13.out hb)
  have D10_14 := Lib.hid (then_ D10_13.out hb)
  have D11_14 := Lib.hid (then_ D11_13.out hb)
  have D12_14 := Lib.hid (then_ D12_13.out hb)
  clear hb D1_13 D2_13 D3_13 D4_13 D5_13 D6_13 D7_13 D9_13 D10_13 D11_13 D12_13
  have x5_0 := (K5.out.below D5_14.out K5.out.lt).cell 0
  have x5_1 := (K5.out.below D5_14.out K5.out.lt).cell 1
  have x5_2 := (K5.out.below D5_14.out K5.out.lt).cell 2
  have x5_3 := (K5.out.below D5_14.out K5.out.lt).cell 3
  have x5_4 := (K5.out.below D5_14.out K5.out.lt).cell 4
  have x5_5 := (K5.out.below D5_14.out K5.out.lt).cell 5
  have x5_6 := (K5.out.below D5_14.out K5.out.lt).cell 6
  have x5_7 := (K5.out.below D5_14.out K5.out.lt).cell 7
  have x5_8 := (K5.out.below D5_14.out K5.out.lt).cell 8
  have x5_9 := (K5.out.below D5_14.out K5.out.lt).cell 9
  have x7_0 := (K7.out.below D7_14.out K7.out.lt).cell 0
  have x7_1 := (K7.out.below D7_14.out K7.out.lt).cell 1
  have x7_2 := (K7.out.below D7_14.out K7.out.lt).cell 2
  have x7_3 := (K7.out.below D7_14.out K7.out.lt).cell 3
  have x7_4 := (K7.out.below D7_14.out K7.out.lt).cell 4
  have x7_5 := (K7.out.below D7_14.out K7.out.lt).cell 5
  have x7_6 := (K7.out.below D7_14.out K7.out.lt).cell 6
  have x7_7 := (K7.out.below D7_14.out K7.out.lt).cell 7
  have x7_8 := (K7.out.below D7_14.out K7.out.lt).cell 8
  have x7_9 := (K7.out.below D7_14.out K7.out.lt).cell 9
  have x9_0 := (K9.out.below D9_14.out K9.out.lt).cell 0
  have x9_1 := (K9.out.below D9_14.out K9.out.lt).cell 1
  have x9_2 := (K9.out.below D9_14.out K9.out.lt).cell 2
  have x9_3 := (K9.out.below D9_14.out K9.out.lt).cell 3
  have x9_4 := (K9.out.below D9_14.out K9.out.lt).cell 4
  have x9_5 := (K9.out.below D9_14.out K9.out.lt).cell 5
  have x9_6 := (K9.out.below D9_14.out K9.out.lt).cell 6
  have x9_7 := (K9.out.below D9_14.out K9.out.lt).cell 7
  have x9_8 := (K9.out.below D9_14.out K9.out.lt).cell 8
  have x9_9 := (K9.out.below D9_14.out K9.out.lt).cell 9
  go_wp2_with fail
  refine (rsame_any A10 A6 nT d10 d6 LT _ _ w14 (PH.out.below D10_14.out) (PD.out.below D6_14.out) (by omega)).mono ?_
  rintro e w' ⟨rfl, dq, rfl⟩
  have hb := below_drewN (Below.refl w14.heap.size w14) dq
  generalize w14.drewN dq = w15 at *
  have D1_15 := Lib.hid (then_ D1_14.out hb)
  have D2_15 := Lib.hid (then_ D2_14.out hb)
  have D3_15 := Lib.hid (then_ D3_14.out hb)
  have D4_15 := Lib.hid (then_ D4_14.out hb)
  have D5_15 := Lib.hid (then_ D5_14.out hb)
  have D6_15 := Lib.hid (then_ D6_14.out hb)
  have D7_15 := Lib.hid (then_ D7_14.out hb)
  have D9_15 := Lib.hid (then_ D9_14.out hb)
  have D10_15 := Lib.hid (then_ D10_14.out hb)
  have D11_15 := Lib.hid (then_ D11_14.out hb)
  have D12_15 := Lib.hid (then_ D12_14.out hb)
  clear hb D1_14 D2_14 D3_14 D4_14 D5_14 D6_14 D7_14 D9_14 D10_14 D11_14 D12_14
  clear x5_0 x5_1 x5_2 x5_3 x5_4 x5_5 x5_6 x5_7 x5_8 x5_9 x7_0 x7_1 x7_2 x7_3 x7_4 x7_5 x7_6 x7_7 x7_8 x7_9 x9_0 x9_1 x9_2 x9_3 x9_4 x9_5 x9_6 x9_7 x9_8 x9_9
  go_wp2_with fail
  refine (sameInts_yes A11 q d11 A12 q d12 _ _ r r w15 (PI.out.below D11_15.out) (PJ.out.below D12_15.out) (by omega) rfl).mono ?_
  rintro e w' ⟨rfl, dq, rfl⟩
  have hb := below_drewN (Below.refl w15.heap.size w15) dq
  generalize w15.drewN dq = w16 at *
  have D1_16 := Lib.hid (then_ D1_15.out hb)
  have D2_16 := Lib.hid (then_ D2_15.out hb)
  have D3_16 := Lib.hid (then_ D3_15.out hb)
  have D4_16 := Lib.hid (then_ D4_15.out hb)
  have D5_16 := Lib.hid (then_ D5_15.out hb)
  have D6_16 := Lib.hid (then_ D6_15.out hb)
  have D7_16 := Lib.hid (then_ D7_15.out hb)
  have D9_16 := Lib.hid (then_ D9_15.out hb)
  have D10_16 := Lib.hid (then_ D10_15.out hb)
  have D11_16 := Lib.hid (then_ D11_15.out hb)
  have D12_16 := Lib.hid (then_ D12_15.out hb)
  clear hb D1_15 D2_15 D3_15 D4_15 D5_15 D6_15 D7_15 D9_15 D10_15 D11_15 D12_15
  go_wp2_with fail
  refine (F9.out _ ((PO.out.below D1_16.out).more D1_16.out.size)).mono ?_
  rintro e w17 ⟨rfl, hb⟩
  have D1_17 := Lib.hid (then_ D1_16.out hb)
  have D2_17 := Lib.hid (then_ D2_16.out hb)
  have D3_17 := Lib.hid (then_ D3_16.out hb)
  have D4_17 := Lib.hid (then_ D4_16.out hb)
  have D5_17 := Lib.hid (then_ D5_16.out hb)
  have D6_17 := Lib.hid (then_ D6_16.out hb)
  have D7_17 := Lib.hid (then_ D7_16.out hb)
  have D9_17 := Lib.hid (then_ D9_16.out hb)
  have D10_17 := Lib.hid (then_ D10_16.out hb)
  have D11_17 := Lib.hid (then_ D11_16.out hb)
  have D12_17 := Lib.hid (then_ D12_16.out hb)
  clear hb D1_16 D2_16 D3_16 D4_16 D5_16 D6_16 D7_16 D9_16 D10_16 D11_16 D12_16
  go_wp2_with fail
  refine (F10.out _ ((PL.out.below D1_17.out).more D1_17.out.size)).mono ?_
  rintro e w18 ⟨rfl, hb⟩
  have D1_18 := Lib.hid (then_ D1_17.out hb)
  have D2_18 := Lib.hid (then_ D2_17.out hb)
  have D3_18 := Lib.hid (then_ D3_17.out hb)
  have D4_18 := Lib.hid (then_ D4_17.out hb)
  have D5_18 := Lib.hid (then_ D5_17.out hb)
  have D6_18 := Lib.hid (then_ D6_17.out hb)
  have D7_18 := Lib.hid (then_ D7_17.out hb)
  have D9_18 := Lib.hid (then_ D9_17.out hb)
  have D10_18 := Lib.hid (then_ D10_17.out hb)
  have D11_18 := Lib.hid (then_ D11_17.out hb)
  have D12_18 := Lib.hid (then_ D12_17.out hb)
  clear hb D1_17 D2_17 D3_17 D4_17 D5_17 D6_17 D7_17 D9_17 D10_17 D11_17 D12_17
  have YA := Lib.hid (XA.out.below D2_18.out)
  have YC := Lib.hid (XC.out.below D4_18.out)
  have YD := Lib.hid D1_18.out
  clear F1 F2 F3 F4 F5 F6 F7 F8 F9 F10 PA PB PC PD PH PI PJ PM K5 K7 K9 XA XC zq zq2 D1_18 D2_18 D3_18 D4_18 D5_18 D6_18 D7_18 D9_18 D10_18 D11_18 D12_18
  go_wp2_with fail
  go_loopw [32] (fun y wr => ∃ i : Nat, y = .int .i64 (i : Int) ∧ i ≤ nS ∧ Below w1.heap.size w1 wr ∧ RowX wr w1.heap.size A2 nS ∧ RowX wr w3.heap.size A4 nT) (fun y _ => nS - (intOf y).toNat)
  case atStart => exact ⟨0, rfl, Nat.zero_le _, YD.out, YA.out, YC.out⟩
  case round =>
    clear YA YC YD
    obtain ⟨i, rfl, hi, hb, hx, hy⟩ := hrel
    by_cases hlt : i < nS
    · rcases hx with h0 | ⟨g, hA, hg1, hg2, hW⟩
      · omega
      · obtain ⟨⟨u, hcu⟩, hfu⟩ := hW.cell (i := i * 10 + 4) (by omega)
        have HX := Lib.hid (show RowX wr w1.heap.size A2 nS from Or.inr ⟨g, hA, hg1, hg2, hW⟩)
        have HY := Lib.hid hy
        have HB := Lib.hid hb
        subst hA
        clear hb hy hW
        go_wp2
        go_roundw
        case rel => exact ⟨i + 1, by go_num, by omega, HB.out.setCell (p := ⟨g, i * 10 + 4, none⟩) hg1 _, HX.out.set_ _ _ _, HY.out.set_ _ _ _⟩
        case measure => simp [intOf]; omega
    · have HY := Lib.hid hy
      have HB := Lib.hid hb
      clear hx hy hb
      go_wp2_with fail
      go_loopw [33] (fun y wx => ∃ i : Nat, y = .int .i64 (i : Int) ∧ i ≤ nT ∧ Below w1.heap.size w1 wx ∧ RowX wx w3.heap.size A4 nT) (fun y _ => nT - (intOf y).toNat)
      case atStart => exact ⟨0, rfl, Nat.zero_le _, HB.out, HY.out⟩
      case round =>
        clear HB HY
        obtain ⟨j, rfl, hj, hb, hy⟩ := hrel
        by_cases hlt2 : j < nT
        · rcases hy with h0 | ⟨g, hA, hg1, hg2, hW⟩
          · omega
          · obtain ⟨⟨u, hcu⟩, hfu⟩ := hW.cell (i := j * 10 + 4) (by omega)
            have HY := Lib.hid (show RowX _ w3.heap.size A4 nT from Or.inr ⟨g, hA, hg1, hg2, hW⟩)
            have HB := Lib.hid hb
            subst hA
            clear hb hW
            go_wp2
            go_roundw
            case rel => exact ⟨j + 1, by go_num, by omega, HB.out.setCell (p := ⟨g, j * 10 + 4, none⟩) (Nat.le_trans hz13 hg1) _, HY.out.set_ _ _ _⟩
            case measure => simp [intOf]; omega
        · have HB := Lib.hid hb
          clear hy hb
          go_wp2_with fail
          refine (rsame_any A1 A n c1 c l _ _ _ (PO.out.below HB.out) (PL.out.below HB.out) (by omega)).mono ?_
          rintro e w' ⟨rfl, dq, rfl⟩
          go_wp2
          go_ret
          exact ⟨rfl, below_drewN (B1.out.trans (HB.out.mono B1.out.size)) dq⟩
end Go.Proofs.Ytmchnjnknnolmaa
