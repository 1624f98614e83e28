/-
  The walk of LogFinds.
-/
import Derived.Test.YtaoekfgeggopbaaLogPlace
namespace Go.Proofs.Ytaoekfgeggopbaa
open Go.RowKit
set_option maxHeartbeats 16000000
set_option maxRecDepth 100000
set_option linter.unusedVariables false
set_option linter.unusedSimpArgs false

theorem logFinds_walk (LA : Option Addr) (Ln Lc : Nat) (ls : List ByteArray) (MA : Option Addr) (Mn Mc : Nat) (ms : List ByteArray) (v : ByteArray) (w : World) (hl : IsStrs w LA Ln Lc ls) (hm : IsStrs w MA Mn Mc ms) (hv : v.size ≤ maxLen) :
    Calls Try.prog 11 #[.slice LA Ln Lc, .slice MA Mn Mc, .string v] w fun e w' => e = .returned (.bool true) ∧ Below w.heap.size w w' := by
  obtain ⟨hlr, hlc, hlm, hlz⟩ := hl
  obtain ⟨hmr, hmc, hmm, hmz⟩ := hm
  unfold maxLen at hlm hmm
  have HL := Lib.hid hlr
  have HZ := Lib.hid hlz
  have HM := Lib.hid hmr
  have HMZ := Lib.hid hmz
  clear hlr hlz hmr hmz
  go_enter Try.func11, Try.ntmps11
  go_wp2_with fail
  refine (alive13_any _).mono ?_
  rintro e w3 ⟨rfl, hb⟩
  have B3 := Lib.hid hb
  clear hb
  go_wp2_with fail
  refine (great_any LA Ln Lc w.heap.size ls w3 (HL.out.below B3.out) (by omega)).mono ?_
  rintro e w4 ⟨⟨r, rfl, hgr⟩, rfl⟩
  cases r with
  | true => go_wp2; go_ret; exact ⟨rfl, B3.out⟩
  | false =>
  have hLn := hgr rfl
  clear hgr
  go_wp2_with fail
  refine (great_any MA Mn Mc w.heap.size ms w3 (HM.out.below B3.out) (by omega)).mono ?_
  rintro e w4 ⟨⟨r, rfl, hgr⟩, rfl⟩
  cases r with
  | true => go_wp2; go_ret; exact ⟨rfl, B3.out⟩
  | false =>
  have hMn := hgr rfl
  clear hgr
  by_cases q1 : (5000 : Int) < (v.size : Int)
  · go_wp2; go_ret; exact ⟨rfl, B3.out⟩
  go_wp2_with fail
  refine (lcommands_any LA Ln Lc w.heap.size ls w3 (HL.out.below B3.out) B3.out.size (by omega) HZ.out).mono ?_
  rintro e w4 ⟨⟨ds, x, DA, dc, rfl, ho, hd, he⟩, hb⟩
  have B4 := Lib.hid (B3.out.trans (hb.mono B3.out.size))
  have HO := Lib.hid ho
  have HD := Lib.hid hd
  have HE := Lib.hid he
  have s3 := B3.out.size
  clear ho hd he hb
  by_cases hx0 : x ≠ 0
  · have q0 : (x == 0) = false := beq_eq_false_iff_ne.2 hx0
    have hnil := Lg.cmdsX_bad HE.out.symm hx0
    obtain rfl : ds = [] := by cases ds with | nil => rfl | cons a r => simp at hnil
    go_wp2_with fail
    refine (lfind_bad LA Ln Lc w.heap.size ls v w4 (HL.out.below B4.out) B4.out.size (by omega) HZ.out x (by rw [← HE.out]) hx0).mono ?_
    rintro e w5 ⟨rfl, hb⟩
    have B5 := Lib.hid (B4.out.trans (hb.mono B4.out.size))
    clear hb
    go_wp2
    go_ret
    exact ⟨by simp, B5.out⟩
  obtain rfl : x = 0 := Decidable.not_not.1 hx0
  obtain ⟨p, hp⟩ : ∃ p, Lg.place v 0 ls = p := ⟨_, rfl⟩
  obtain ⟨b, hb0⟩ : ∃ b, decide (0 ≤ p) = b := ⟨_, rfl⟩
  have HP := Lib.hid hp
  have HB := Lib.hid hb0
  have hpin := Lg.place_in v ls 0
  rw [hp, HL.out.len_t] at hpin
  clear hp hb0
  go_wp2_with fail
  refine (lfind_ok LA Ln Lc w.heap.size ls v w4 (HL.out.below B4.out) B4.out.size (by omega) HZ.out p (by rw [← HE.out]) HP.out b HB.out).mono ?_
  rintro e w5 ⟨rfl, hb⟩
  have B5 := Lib.hid (B4.out.trans (hb.mono B4.out.size))
  have HO5 := Lib.hid (own_kept HO.out hb)
  have HD5 : Hid (∀ D ∈ ds, OwnC w5 w3.heap.size D) := fun D hD => (HD.out D hD).below hb
  have HBK := Lib.hid (cmds_back HE.out)
  have hdl : ds.length = Ln := by have := HBK.out.1; rw [this, HL.out.len_t]
  have s5 := B5.out.size
  clear hb HO HD
  go_wp2_with fail
  have HNO : Hid (b = false → ∀ s ∈ ls, s ≠ v) := by
    intro h0
    have h1 := of_decide_eq_false (HB.out.trans h0)
    exact Lg.place_none v ls 0 (by rw [HP.out]; omega)
  have HYES : Hid (b = true → ∃ i0 : Nat, p = (i0 : Int) ∧ i0 < Ln ∧ ls[i0]? = some v ∧ ∀ j, j < i0 → ∀ s, ls[j]? = some s → s ≠ v) := by
    intro h0
    have h1 := of_decide_eq_true (HB.out.trans h0)
    obtain ⟨i0, h2, h3, h4, h5⟩ := Lg.place_some v ls 0 (by rw [HP.out]; exact h1)
    exact ⟨i0, by rw [← HP.out, h2]; omega, by rw [← HL.out.len_t]; exact h3, h4, h5⟩
  go_loopw [13] (fun y wr => ∃ i : Nat, y = .int .i64 (i : Int) ∧ i ≤ Ln ∧ Below w5.heap.size w5 wr) (fun y _ => Ln - (intOf y).toNat)
  case atStart => exact ⟨0, rfl, Nat.zero_le _, Below.refl _ _⟩
  case round =>
    obtain ⟨i, rfl, hi, hbw⟩ := hrel
    have HBW := Lib.hid hbw
    clear hbw
    by_cases hlt : i < Ln
    · obtain ⟨bb, off, D, hA, hbl, hDi, hcc⟩ := ((own_readsC HO5.out).below HBW.out).cmd (k := i) (by rw [hdl]; exact hlt)
      subst hA
      obtain ⟨ad, u, rfl, hbl2, hu, hc⟩ := (HL.out.below (B5.out.trans (HBW.out.mono s5))).at_ hlt
      have hkl : i < ls.length := by have := HL.out.len_t; omega
      obtain ⟨s, hs⟩ : ∃ s, ls[i]? = some s := ⟨_, List.getElem?_eq_getElem hkl⟩
      rw [ct_get, hs] at hu
      simp only [Option.map_some, Option.some.injEq] at hu
      subst hu
      obtain ⟨hmay, hback⟩ := HBK.out.2 i D s hDi hs
      have hoc := (HD5.out D (List.mem_of_getElem? hDi)).below HBW.out
      have HW := Lib.hid (cwrite_any D wr hoc.at_ true hmay s (by rw [if_pos rfl]; exact hback))
      have c0 : wr.cell? ⟨bb, off + i * 12, none⟩ = some (.int .u8 D.k) := hcc 0 _ rfl
      have c1 : wr.cell? ⟨bb, off + i * 12 + 1, none⟩ = some (.int .i64 D.mi) := hcc 1 _ rfl
      have c2 : wr.cell? ⟨bb, off + i * 12 + 2, none⟩ = some (.slice D.GA D.Gn D.Gc) := hcc 2 _ rfl
      have c3 : wr.cell? ⟨bb, off + i * 12 + 3, none⟩ = some (.int .i64 D.mt) := hcc 3 _ rfl
      have c4 : wr.cell? ⟨bb, off + i * 12 + 4, none⟩ = some (.string D.key) := hcc 4 _ rfl
      have c5 : wr.cell? ⟨bb, off + i * 12 + 5, none⟩ = some (.string D.body) := hcc 5 _ rfl
      have c6 : wr.cell? ⟨bb, off + i * 12 + 6, none⟩ = some (.int .i64 D.i) := hcc 6 _ rfl
      have c7 : wr.cell? ⟨bb, off + i * 12 + 7, none⟩ = some (.int .i64 D.tm) := hcc 7 _ rfl
      have c8 : wr.cell? ⟨bb, off + i * 12 + 8, none⟩ = some (.slice D.MA D.Mn D.Mc) := hcc 8 _ rfl
      have c9 : wr.cell? ⟨bb, off + i * 12 + 9, none⟩ = some (.int .i64 D.tp) := hcc 9 _ rfl
      have c10 : wr.cell? ⟨bb, off + i * 12 + 10, none⟩ = some (.int .i64 D.who) := hcc 10 _ rfl
      have c11 : wr.cell? ⟨bb, off + i * 12 + 11, none⟩ = some (.int .i64 D.n) := hcc 11 _ rfl
      have HS := Lib.hid hs
      clear hcc hDi hmay hback hoc hs hkl
      go_wp2_with fail
      clear c0 c1 c2 c3 c4 c5 c6 c7 c8 c9 c10 c11
      refine HW.out.mono ?_
      rintro e w6 ⟨rfl, hb⟩
      rw [show errK true = 0 from rfl]
      have B6 := Lib.hid (HBW.out.trans (hb.mono HBW.out.size))
      have hc6 := (hb.cell (p := ad.add i) (by rw [block_of_add]; have := HBW.out.size; omega)).trans hc
      clear hb hc HW
      have hne : s ≠ v → (v.toList == s.toList) = false ∧ (s.toList == v.toList) = false := fun hv => ⟨beq_eq_false_iff_ne.2 fun e => hv (data_inj (by rw [← toList_of, ← toList_of]; exact e.symm)), beq_eq_false_iff_ne.2 fun e => hv (data_inj (by rw [← toList_of, ← toList_of]; exact e))⟩
      have HNE := Lib.hid hne
      clear hne
      cases b with
      | false =>
        obtain ⟨n1, n2⟩ := HNE.out (HNO.out rfl s (List.mem_of_getElem? HS.out))
        go_wp2
        go_roundw
        case rel => exact ⟨i + 1, by go_num, by omega, B6.out⟩
        case measure => simp [intOf] <;> omega
      | true =>
        obtain ⟨i0, rfl, h0, h1, h2⟩ := HYES.out rfl
        have H2 := Lib.hid h2
        clear h2
        by_cases hip : i < i0
        · obtain ⟨n1, n2⟩ := HNE.out (H2.out i hip s HS.out)
          go_wp2
          go_roundw
          case rel => exact ⟨i + 1, by go_num, by omega, B6.out⟩
          case measure => simp [intOf] <;> omega
        · go_wp2
          go_roundw
          case rel => exact ⟨i + 1, by go_num, by omega, B6.out⟩
          case measure => simp [intOf] <;> omega
    · obtain rfl : i = Ln := by omega
      -- END
      cases b with
      | false =>
        have BW := Lib.hid (B5.out.trans (HBW.out.mono s5))
        go_wp2_with (at_builtin; refine app_tx rfl (.const (.slice none 0 0)) (.tmp 137) rfl wr.heap.size (.slice none 0 0) 0 [] rfl (World.ownsRow_nil _ _ _ _) w.heap.size LA i Lc ls rfl (HL.out.below BW.out) (by omega) (Nat.le_refl _) ?_)
        intro v9 w9 o9 g9
        have G9 := Lib.hid (g9.below (Nat.le_refl _) (by simp [Value.ownBlock]))
        have O9 : Hid (w9.ownsRow wr.heap.size 9 1 v9 i (ct ls)) := by simpa [Hid] using o9
        clear o9 g9
        obtain ⟨A9, c9, rfl⟩ := own_shapeC O9.out
        go_wp2_with (at_builtin; refine app_tx rfl (.tmp 138) (.tmp 139) rfl wr.heap.size (.slice A9 i c9) i ls rfl O9.out w.heap.size MA Mn Mc ms rfl ((HM.out.below BW.out).below (G9.out.mono BW.out.size)) (by omega) G9.out.size ?_)
        intro v11 w11 o11 g11
        have G11 := Lib.hid (G9.out.trans (g11.below G9.out.size (fun q hq => (O9.out.lt q hq).1)))
        have O11 := Lib.hid o11
        clear o11 g11
        obtain ⟨A11, c11, rfl⟩ := own_shapeC O11.out
        have BF := Lib.hid (BW.out.trans (G11.out.mono BW.out.size))
        have HZZ : Hid (∀ s ∈ ls ++ ms, s.size ≤ maxLen) := by
          intro s hs
          rcases List.mem_append.1 hs with hs | hs
          · exact HZ.out s hs
          · exact HMZ.out s hs
        obtain ⟨x2, hx2⟩ : ∃ x, (Lg.cmdsX (tx (ls ++ ms))).2 = x := ⟨_, rfl⟩
        have HX2 := Lib.hid hx2
        clear hx2
        by_cases hx20 : x2 ≠ 0
        · have q2 : (x2 == 0) = false := beq_eq_false_iff_ne.2 hx20
          go_wp2_with fail
          refine (lfind_bad A11 (i + Mn) c11 w11.heap.size (ls ++ ms) v w11 (own_readsC O11.out) (Nat.le_refl _) (by omega) HZZ.out x2 HX2.out hx20).mono ?_
          rintro e w12 ⟨rfl, hb⟩
          have B12 := Lib.hid (BF.out.trans (hb.mono BF.out.size))
          clear hb
          go_wp2
          go_ret
          exact ⟨by simp [hdl], B12.out⟩
        · obtain rfl : x2 = 0 := Decidable.not_not.1 hx20
          obtain ⟨p2, hp2⟩ : ∃ p, Lg.place v 0 (ls ++ ms) = p := ⟨_, rfl⟩
          obtain ⟨b2, hb2⟩ : ∃ b, decide (0 ≤ p2) = b := ⟨_, rfl⟩
          have HP2 := Lib.hid hp2
          have HB2 := Lib.hid hb2
          have hpin2 := Lg.place_in v (ls ++ ms) 0
          rw [hp2, List.length_append, HL.out.len_t, HM.out.len_t] at hpin2
          clear hp2 hb2
          go_wp2_with fail
          refine (lfind_ok A11 (i + Mn) c11 w11.heap.size (ls ++ ms) v w11 (own_readsC O11.out) (Nat.le_refl _) (by omega) HZZ.out p2 HX2.out HP2.out b2 HB2.out).mono ?_
          rintro e w12 ⟨rfl, hb⟩
          have B12 := Lib.hid (BF.out.trans (hb.mono BF.out.size))
          clear hb
          go_wp2
          go_ret
          exact ⟨by simp [hdl], B12.out⟩
      | true =>
        obtain ⟨i0, rfl, h0, h1, h2⟩ := HYES.out rfl
        clear h2
        obtain ⟨ad, u, rfl, hbl2, hu, hc⟩ := (HL.out.below (B5.out.trans (HBW.out.mono s5))).at_ h0
        rw [ct_get, h1] at hu
        simp only [Option.map_some, Option.some.injEq] at hu
        subst hu
        have BW := Lib.hid (B5.out.trans (HBW.out.mono s5))
        go_wp2_with (at_builtin; refine app_tx rfl (.const (.slice none 0 0)) (.tmp 137) rfl wr.heap.size (.slice none 0 0) 0 [] rfl (World.ownsRow_nil _ _ _ _) w.heap.size (some ad) i Lc ls rfl (HL.out.below BW.out) (by omega) (Nat.le_refl _) ?_)
        intro v9 w9 o9 g9
        have G9 := Lib.hid (g9.below (Nat.le_refl _) (by simp [Value.ownBlock]))
        have O9 : Hid (w9.ownsRow wr.heap.size 9 1 v9 i (ct ls)) := by simpa [Hid] using o9
        clear o9 g9
        obtain ⟨A9, c9, rfl⟩ := own_shapeC O9.out
        go_wp2_with (at_builtin; refine app_tx rfl (.tmp 138) (.tmp 139) rfl wr.heap.size (.slice A9 i c9) i ls rfl O9.out w.heap.size MA Mn Mc ms rfl ((HM.out.below BW.out).below (G9.out.mono BW.out.size)) (by omega) G9.out.size ?_)
        intro v11 w11 o11 g11
        have G11 := Lib.hid (G9.out.trans (g11.below G9.out.size (fun q hq => (O9.out.lt q hq).1)))
        have O11 := Lib.hid o11
        clear o11 g11
        obtain ⟨A11, c11, rfl⟩ := own_shapeC O11.out
        have BF := Lib.hid (BW.out.trans (G11.out.mono BW.out.size))
        have HZZ : Hid (∀ s ∈ ls ++ ms, s.size ≤ maxLen) := by
          intro s hs
          rcases List.mem_append.1 hs with hs | hs
          · exact HZ.out s hs
          · exact HMZ.out s hs
        obtain ⟨x2, hx2⟩ : ∃ x, (Lg.cmdsX (tx (ls ++ ms))).2 = x := ⟨_, rfl⟩
        have HX2 := Lib.hid hx2
        clear hx2
        by_cases hx20 : x2 ≠ 0
        · have q2 : (x2 == 0) = false := beq_eq_false_iff_ne.2 hx20
          go_wp2_with fail
          refine (lfind_bad A11 (i + Mn) c11 w11.heap.size (ls ++ ms) v w11 (own_readsC O11.out) (Nat.le_refl _) (by omega) HZZ.out x2 HX2.out hx20).mono ?_
          rintro e w12 ⟨rfl, hb⟩
          have B12 := Lib.hid (BF.out.trans (hb.mono BF.out.size))
          clear hb
          go_wp2
          go_ret
          exact ⟨by simp [hdl], B12.out⟩
        · obtain rfl : x2 = 0 := Decidable.not_not.1 hx20
          obtain ⟨p2, hp2⟩ : ∃ p, Lg.place v 0 (ls ++ ms) = p := ⟨_, rfl⟩
          obtain ⟨b2, hb2⟩ : ∃ b, decide (0 ≤ p2) = b := ⟨_, rfl⟩
          have HP2 := Lib.hid hp2
          have HB2 := Lib.hid hb2
          have hpin2 := Lg.place_in v (ls ++ ms) 0
          rw [hp2, List.length_append, HL.out.len_t, HM.out.len_t] at hpin2
          clear hp2 hb2
          go_wp2_with fail
          refine (lfind_ok A11 (i + Mn) c11 w11.heap.size (ls ++ ms) v w11 (own_readsC O11.out) (Nat.le_refl _) (by omega) HZZ.out p2 HX2.out HP2.out b2 HB2.out).mono ?_
          rintro e w12 ⟨rfl, hb⟩
          have B12 := Lib.hid (BF.out.trans (hb.mono BF.out.size))
          clear hb
          have hpa := Lg.place_append v ms ls 0 (by rw [HP.out]; omega)
          rw [HP2.out, HP.out] at hpa
          subst hpa
          obtain rfl : true = b2 := by rw [← HB2.out]; exact (decide_eq_true (by omega)).symm
          go_wp2
          go_ret
          exact ⟨by simp [hdl], B12.out⟩
end Go.Proofs.Ytaoekfgeggopbaa
