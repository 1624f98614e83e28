/-
  Layer 3: disk.Crash.
-/
import Derived.Test.YtihinhdgfbnlmaaDiskC
namespace Go.Proofs.Ytihinhdgfbnlmaa
open Go.RowKit
set_option maxHeartbeats 4000000
set_option maxRecDepth 100000
set_option linter.unusedVariables false
set_option linter.unusedSimpArgs false

theorem take_min (l : List UInt8) (m : Nat) : l.take (min m l.length) = l.take m := by
  by_cases h : m ≤ l.length
  · rw [Nat.min_eq_left h]
  · rw [Nat.min_eq_right (by omega), List.take_of_length_le (Nat.le_refl _), List.take_of_length_le (by omega)]
theorem part_none {l : List HP} {k : Nat} (h : l.length ≤ k) (m : Nat) : Dp.part (l.map HP.put) k m = [] := by
  unfold Dp.part
  rw [List.getElem?_eq_none (by simpa using h)]
theorem part_some {l : List HP} {k : Nat} {p : HP} (h : l[k]? = some p) (m : Nat) : Dp.part (l.map HP.put) k m = if p.sw then [] else p.d.take m := by
  unfold Dp.part
  rw [List.getElem?_map, h]
  rfl

theorem crash_ok (D : HD) (k m : Nat) (w : World) (h : DiskAt w w.heap.size D) (hm : Dp.mayD D.disk = true) (hk : k ≤ D.Wn) (hmb : m ≤ 9223372036854775807) :
    Calls Try.prog 19 #[.agg #[.slice D.A D.n D.c, .slice D.WA D.Wn D.Wc], .int .i64 (k : Int), .int .i64 (m : Int)] w fun e w' => ∃ D', e = .returned (.tuple #[.agg #[.slice D'.A D'.n D'.c, .slice D'.WA D'.Wn D'.Wc], .int .i64 0]) ∧ OwnDisk w' w.heap.size D' ∧ D'.disk = ⟨Dp.done D.d ((D.l.take k).map HP.put) ++ Dp.part (D.l.map HP.put) k m, []⟩ ∧ Below w.heap.size w w' := by
  have hfit := may_fits hm
  have hlen := h.len_l
  have hz : w.heap.size + 1 < w.heap.size + 2 := by omega
  have HA := Lib.hid ((h.alloc (.cells #[.slice D.A D.n D.c, .slice D.WA D.Wn D.Wc] 25)).alloc (.cells #[.slice none 0 0, .slice none 0 0] 25))
  have B0 := Lib.hid (((Below.refl _ w).alloc (Nat.le_refl w.heap.size) (.cells #[.slice D.A D.n D.c, .slice D.WA D.Wn D.Wc] 25)).alloc (by simp) (.cells #[.slice none 0 0, .slice none 0 0] 25))
  have KD0 := Lib.hid ((Blk.new w 25 #[.slice D.A D.n D.c, .slice D.WA D.Wn D.Wc]).alloc (.cells #[.slice none 0 0, .slice none 0 0] 25))
  have K0 := Lib.hid (Blk.newAt (w := w.alloc (.cells #[.slice D.A D.n D.c, .slice D.WA D.Wn D.Wc] 25)) (g := w.heap.size + 1) (by simp) 25 #[.slice none 0 0, .slice none 0 0])
  have HM := Lib.hid hm
  have HF := Lib.hid hfit
  have HL := Lib.hid hlen
  have HH := Lib.hid h
  have n1 : decide ((k : Int) < 0) = false := decide_eq_false (by omega)
  have n2 : ¬ (k : Int) > (D.Wn : Int) := by omega
  have n2' : ¬ (D.Wn : Int) < (k : Int) := by omega
  have n3 : decide ((m : Int) < 0) = false := decide_eq_false (by omega)
  clear h hm hfit hlen
  go_enter Try.func19, Try.ntmps19
  go_wp2_with fail
  refine (check_any D _ true HM.out HA.out).mono ?_
  rintro e w1 ⟨rfl, hb⟩
  rw [show eD true = 0 from rfl]
  have KD1 := Lib.hid (KD0.out.below hb KD0.out.lt)
  have K1 := Lib.hid (K0.out.below hb K0.out.lt)
  have HA1 := Lib.hid (HA.out.up hb)
  have B1 := Lib.hid (B0.out.trans (hb.mono B0.out.size))
  clear hb K0 KD0 HA B0
  have y0 := KD1.out.cell 0
  have y1 := KD1.out.cell 1
  go_wp2_with fail
  refine (done_any D w1 HA1.out HM.out k hk).mono ?_
  rintro e w2 ⟨A2, c2, m2, rfl, hm2, ho, hb⟩
  have HS2 : Hid (m2 ≤ 1048576) := by rw [Hid, ← hm2]; exact done_small HF.out k
  obtain ⟨bs, hbs⟩ : ∃ bs, Dp.done D.d ((D.l.take k).map HP.put) = bs := ⟨_, rfl⟩
  rw [hbs] at hm2 ho
  have HBS := Lib.hid hbs
  clear hbs
  have KD2 := Lib.hid (KD1.out.below hb KD1.out.lt)
  have K2 := Lib.hid (K1.out.below hb K1.out.lt)
  have HM2 := Lib.hid hm2
  have HW2 := Lib.hid (own_blk_ne ho (K1.out.below hb K1.out.lt) (by decide))
  have HO := Lib.hid (own_mono (base' := w.heap.size) ho B1.out.size)
  have B2 := Lib.hid (B1.out.trans (hb.mono B1.out.size))
  clear hm2 ho hb y0 y1 K1 KD1 B1 HA1
  have y0 := KD2.out.cell 0
  have y1 := KD2.out.cell 1
  have z0 := K2.out.cell 0
  have z1 := K2.out.cell 1
  have fz0 := K2.out.frozen 0
  have fz1 := K2.out.frozen 1
  by_cases hlt : k < D.Wn
  · obtain ⟨g, off, p, e, hg, hmm, hc⟩ := (HH.out.below B2.out).rw_.hput hlt
    have hp' := List.mem_of_getElem? hmm
    have HPA := Lib.hid ((HH.out.below B2.out).all p hp')
    have HPL : Hid (p.n ≤ 1048576) := by rw [Hid, ← HH.out.len_p hp']; exact may_p HM.out hp'
    have HPD : Hid (p.d.length = p.n) := HH.out.len_p hp'
    have HPT := Lib.hid (part_some hmm m)
    have c0 := hc 0 _ rfl
    have c1 := hc 1 _ rfl
    rw [Nat.add_zero] at c0
    clear hc hmm hp'
    have l1 : decide ((k : Int) < (D.Wn : Int)) = true := decide_eq_true (by omega)
    have l2 : decide (k < D.Wn) = true := decide_eq_true hlt
    obtain ⟨sw, pA, pn, pc, pd⟩ := p
    replace HPL : Hid (pn ≤ 1048576) := HPL
    replace HPD : Hid (pd.length = pn) := HPD
    replace HPT : Hid (Dp.part (D.l.map HP.put) k m = if sw = true then [] else pd.take m) := HPT
    cases sw with
    | true =>
      go_wp2
      exact bodyPost_ret (v := .tuple #[.agg #[.slice A2 m2 c2, .slice none 0 0], .int .i64 0]) (by simp [results, Try.results19, go_sem, z0, z1]) rfl ⟨⟨A2, m2, c2, _, none, 0, 0, []⟩, rfl, ⟨own_set (own_set HO.out K2.out (by decide) 0 _) (K2.out.set_ 0 _) (by decide) 1 _, World.ownsRow_nil _ _ _ _, by show m2 ≤ _; have := HS2.out; omega, Nat.zero_le _, by simp⟩, by rw [HBS.out, show Dp.part (D.l.map HP.put) k m = [] from HPT.out.trans (if_pos (by trivial)), List.append_nil]; rfl, (B2.out.setCell (by simp) _).setCell (by simp) _⟩
    | false =>
      rcases Nat.lt_or_ge pn m with hcase | hcase
      · have hqp : pn ≤ pn := Nat.le_refl _
        have hmp : ¬ (m : Int) ≤ (pn : Int) := by omega
        have hmp2 : (pn : Int) < (m : Int) := by omega
        have HQ : Hid (pd.take pn = pd.take m) := by rw [Hid, List.take_of_length_le (by rw [HPD.out]; exact Nat.le_refl _), List.take_of_length_le (by rw [HPD.out]; omega)]
        have hs0 := fun W => run_slice_to (P := Try.prog) Try.underlying22 pA pn pc pn (Nat.le_trans hqp HPA.out.2.1) W u8_size
        have HR := Lib.hid (HPA.out.1.first hqp)
        go_wp2_with (at_builtin; (refine app_bl rfl (.tmp 58) (.tmp 64) rfl w.heap.size (.slice A2 m2 c2) m2 _ rfl HO.out w.heap.size pA pn pc (pd.take pn) rfl (by rw [← cb_take]; exact HR.out) (by have := HS2.out; have := HPL.out; omega) B2.out.size ?_))
        intro v' w' h1 h2
        have H1 := Lib.hid h1
        have B3 := Lib.hid (B2.out.trans (h2.belowOwn HO.out B2.out.size))
        have K3 := Lib.hid (K2.out.grown h2.1 (fun e => HW2.out e.symm))
        have HW3 := Lib.hid (own_blk_ne h1 (K2.out.grown h2.1 (fun e => HW2.out e.symm)) (by decide))
        obtain ⟨A3, c3, rfl, _, _, _⟩ := own_form h1
        clear h1 h2 z0 z1 fz0 fz1
        have z0 := K3.out.cell 0
        have z1 := K3.out.cell 1
        have fz0 := K3.out.frozen 0
        have fz1 := K3.out.frozen 1
        have HT : Hid (m2 + pn ≤ 140737488351232) := by have := HS2.out; have := HPL.out; rw [Hid]; omega
        go_wp2
        exact bodyPost_ret (v := .tuple #[.agg #[.slice A3 (m2 + pn) c3, .slice none 0 0], .int .i64 0]) (by simp [results, Try.results19, go_sem, z0, z1]) rfl ⟨⟨A3, m2 + pn, c3, _, none, 0, 0, []⟩, rfl, ⟨own_set (own_set H1.out K3.out (by decide) 0 _) (K3.out.set_ 0 _) (by decide) 1 _, World.ownsRow_nil _ _ _ _, HT.out, Nat.zero_le _, by simp⟩, by rw [HBS.out, show Dp.part (D.l.map HP.put) k m = pd.take pn from (HPT.out.trans (if_neg (by simp))).trans HQ.out.symm]; rfl, (B3.out.setCell (by simp) _).setCell (by simp) _⟩
      · have hqp : m ≤ pn := by omega
        have hmp : (m : Int) ≤ (pn : Int) := by omega
        have hmp2 : ¬ (pn : Int) < (m : Int) := by omega
        have hs0 := fun W => run_slice_to (P := Try.prog) Try.underlying22 pA pn pc m (Nat.le_trans hqp HPA.out.2.1) W u8_size
        have HR := Lib.hid (HPA.out.1.first hqp)
        go_wp2_with (at_builtin; (refine app_bl rfl (.tmp 58) (.tmp 64) rfl w.heap.size (.slice A2 m2 c2) m2 _ rfl HO.out w.heap.size pA m pc (pd.take m) rfl (by rw [← cb_take]; exact HR.out) (by have := HS2.out; have := HPL.out; omega) B2.out.size ?_))
        intro v' w' h1 h2
        have H1 := Lib.hid h1
        have B3 := Lib.hid (B2.out.trans (h2.belowOwn HO.out B2.out.size))
        have K3 := Lib.hid (K2.out.grown h2.1 (fun e => HW2.out e.symm))
        have HW3 := Lib.hid (own_blk_ne h1 (K2.out.grown h2.1 (fun e => HW2.out e.symm)) (by decide))
        obtain ⟨A3, c3, rfl, _, _, _⟩ := own_form h1
        clear h1 h2 z0 z1 fz0 fz1
        have z0 := K3.out.cell 0
        have z1 := K3.out.cell 1
        have fz0 := K3.out.frozen 0
        have fz1 := K3.out.frozen 1
        have HT : Hid (m2 + m ≤ 140737488351232) := by have := HS2.out; have := HPL.out; rw [Hid]; omega
        go_wp2
        exact bodyPost_ret (v := .tuple #[.agg #[.slice A3 (m2 + m) c3, .slice none 0 0], .int .i64 0]) (by simp [results, Try.results19, go_sem, z0, z1]) rfl ⟨⟨A3, m2 + m, c3, _, none, 0, 0, []⟩, rfl, ⟨own_set (own_set H1.out K3.out (by decide) 0 _) (K3.out.set_ 0 _) (by decide) 1 _, World.ownsRow_nil _ _ _ _, HT.out, Nat.zero_le _, by simp⟩, by rw [HBS.out, show Dp.part (D.l.map HP.put) k m = pd.take m from HPT.out.trans (if_neg (by simp))]; rfl, (B3.out.setCell (by simp) _).setCell (by simp) _⟩
  · have l1 : decide ((k : Int) < (D.Wn : Int)) = false := decide_eq_false (by omega)
    have l2 : decide (k < D.Wn) = false := decide_eq_false hlt
    have HPT := Lib.hid (part_none (l := D.l) (k := k) (by rw [HL.out]; omega) m)
    go_wp2
    exact bodyPost_ret (v := .tuple #[.agg #[.slice A2 m2 c2, .slice none 0 0], .int .i64 0]) (by simp [results, Try.results19, go_sem, z0, z1]) rfl ⟨⟨A2, m2, c2, _, none, 0, 0, []⟩, rfl, ⟨own_set (own_set HO.out K2.out (by decide) 0 _) (K2.out.set_ 0 _) (by decide) 1 _, World.ownsRow_nil _ _ _ _, by show m2 ≤ _; have := HS2.out; omega, Nat.zero_le _, by simp⟩, by rw [HBS.out, HPT.out, List.append_nil]; rfl, (B2.out.setCell (by simp) _).setCell (by simp) _⟩
theorem crash_bad (D : HD) (keep many : Int) (w : World) (h : DiskAt w w.heap.size D) (hm : Dp.mayD D.disk = false) :
    Calls Try.prog 19 #[.agg #[.slice D.A D.n D.c, .slice D.WA D.Wn D.Wc], .int .i64 keep, .int .i64 many] w fun e w' => e = .returned (.tuple #[.agg #[.slice none 0 0, .slice none 0 0], .int .i64 30]) ∧ Below w.heap.size w w' := by
  have hz : w.heap.size + 1 < w.heap.size + 2 := by omega
  have HA := Lib.hid ((h.alloc (.cells #[.slice D.A D.n D.c, .slice D.WA D.Wn D.Wc] 25)).alloc (.cells #[.slice none 0 0, .slice none 0 0] 25))
  have B0 := Lib.hid (((Below.refl _ w).alloc (Nat.le_refl w.heap.size) (.cells #[.slice D.A D.n D.c, .slice D.WA D.Wn D.Wc] 25)).alloc (by simp) (.cells #[.slice none 0 0, .slice none 0 0] 25))
  have K0 := Lib.hid (Blk.newAt (w := w.alloc (.cells #[.slice D.A D.n D.c, .slice D.WA D.Wn D.Wc] 25)) (g := w.heap.size + 1) (by simp) 25 #[.slice none 0 0, .slice none 0 0])
  have HM := Lib.hid hm
  clear h hm
  go_enter Try.func19, Try.ntmps19
  go_wp2_with fail
  refine (check_any D _ false HM.out HA.out).mono ?_
  rintro e w1 ⟨rfl, hb⟩
  rw [show eD false = 30 from rfl]
  have K1 := Lib.hid (K0.out.below hb K0.out.lt)
  have B1 := Lib.hid (B0.out.trans (hb.mono B0.out.size))
  clear hb K0 HA B0
  have z0 := K1.out.cell 0
  have z1 := K1.out.cell 1
  have fz0 := K1.out.frozen 0
  have fz1 := K1.out.frozen 1
  go_wp2
  exact bodyPost_ret (v := .tuple #[.agg #[.slice none 0 0, .slice none 0 0], .int .i64 30]) (by simp [results, Try.results19, go_sem, z0, z1]) rfl ⟨rfl, (B1.out.setCell (by simp) _).setCell (by simp) _⟩
theorem crash_arg (D : HD) (keep many : Int) (w : World) (h : DiskAt w w.heap.size D) (hm : Dp.mayD D.disk = true) (hk : keep < 0 ∨ keep > D.Wn ∨ many < 0) :
    Calls Try.prog 19 #[.agg #[.slice D.A D.n D.c, .slice D.WA D.Wn D.Wc], .int .i64 keep, .int .i64 many] w fun e w' => e = .returned (.tuple #[.agg #[.slice none 0 0, .slice none 0 0], .int .i64 2]) ∧ Below w.heap.size w w' := by
  have hz : w.heap.size + 1 < w.heap.size + 2 := by omega
  have HA := Lib.hid ((h.alloc (.cells #[.slice D.A D.n D.c, .slice D.WA D.Wn D.Wc] 25)).alloc (.cells #[.slice none 0 0, .slice none 0 0] 25))
  have B0 := Lib.hid (((Below.refl _ w).alloc (Nat.le_refl w.heap.size) (.cells #[.slice D.A D.n D.c, .slice D.WA D.Wn D.Wc] 25)).alloc (by simp) (.cells #[.slice none 0 0, .slice none 0 0] 25))
  have K0 := Lib.hid (Blk.newAt (w := w.alloc (.cells #[.slice D.A D.n D.c, .slice D.WA D.Wn D.Wc] 25)) (g := w.heap.size + 1) (by simp) 25 #[.slice none 0 0, .slice none 0 0])
  have KD0 := Lib.hid ((Blk.new w 25 #[.slice D.A D.n D.c, .slice D.WA D.Wn D.Wc]).alloc (.cells #[.slice none 0 0, .slice none 0 0] 25))
  have HM := Lib.hid hm
  have HK := Lib.hid hk
  clear h hm hk
  go_enter Try.func19, Try.ntmps19
  go_wp2_with fail
  refine (check_any D _ true HM.out HA.out).mono ?_
  rintro e w1 ⟨rfl, hb⟩
  rw [show eD true = 0 from rfl]
  have K1 := Lib.hid (K0.out.below hb K0.out.lt)
  have KD1 := Lib.hid (KD0.out.below hb KD0.out.lt)
  have B1 := Lib.hid (B0.out.trans (hb.mono B0.out.size))
  clear hb K0 HA B0
  have y0 := KD1.out.cell 0
  have y1 := KD1.out.cell 1
  have z0 := K1.out.cell 0
  have z1 := K1.out.cell 1
  have fz0 := K1.out.frozen 0
  have fz1 := K1.out.frozen 1
  by_cases h1 : keep < 0
  · have d1 : decide (keep < 0) = true := decide_eq_true h1
    go_wp2
    exact bodyPost_ret (v := .tuple #[.agg #[.slice none 0 0, .slice none 0 0], .int .i64 2]) (by simp [results, Try.results19, go_sem, z0, z1]) rfl ⟨rfl, (B1.out.setCell (by simp) _).setCell (by simp) _⟩
  · have d1 : decide (keep < 0) = false := decide_eq_false h1
    by_cases h2 : (D.Wn : Int) < keep
    · have d2 : decide ((D.Wn : Int) < keep) = true := decide_eq_true h2
      go_wp2
      exact bodyPost_ret (v := .tuple #[.agg #[.slice none 0 0, .slice none 0 0], .int .i64 2]) (by simp [results, Try.results19, go_sem, z0, z1]) rfl ⟨rfl, (B1.out.setCell (by simp) _).setCell (by simp) _⟩
    · have d2 : decide ((D.Wn : Int) < keep) = false := decide_eq_false h2
      have h3 : many < 0 := by have := HK.out; omega
      have d3 : decide (many < 0) = true := decide_eq_true h3
      go_wp2
      exact bodyPost_ret (v := .tuple #[.agg #[.slice none 0 0, .slice none 0 0], .int .i64 2]) (by simp [results, Try.results19, go_sem, z0, z1]) rfl ⟨rfl, (B1.out.setCell (by simp) _).setCell (by simp) _⟩

/-- A crash: one form. -/
theorem crash_any (D : HD) (keep many : Int) (w : World) (h : DiskAt w w.heap.size D) (hmb : many ≤ 9223372036854775807) :
    Calls Try.prog 19 #[.agg #[.slice D.A D.n D.c, .slice D.WA D.Wn D.Wc], .int .i64 keep, .int .i64 many] w fun e w' => ∃ D', e = .returned (.tuple #[.agg #[.slice D'.A D'.n D'.c, .slice D'.WA D'.Wn D'.Wc], .int .i64 (Dp.crash D.disk keep many).2]) ∧ OwnDisk w' w.heap.size D' ∧ D'.disk = (Dp.crash D.disk keep many).1 ∧ Below w.heap.size w w' := by
  have hlw : D.disk.wait.length = D.Wn := by rw [HD.disk]; simp only [List.length_map, h.len_l]
  cases hm : Dp.mayD D.disk with
  | true =>
    by_cases hk : keep < 0 ∨ keep > D.Wn ∨ many < 0
    · have e : Dp.crash D.disk keep many = (Dp.zeroD, 2) := by rw [Dp.crash, if_pos hm, if_pos (by rw [hlw]; exact hk)]
      rw [e]
      refine (crash_arg D keep many w h hm hk).mono ?_
      rintro e w1 ⟨rfl, hb⟩
      exact ⟨zeroHD, rfl, zeroHD_own _ _, rfl, hb⟩
    · have e : Dp.crash D.disk keep many = (⟨Dp.done D.d ((D.l.take keep.toNat).map HP.put) ++ Dp.part (D.l.map HP.put) keep.toNat many.toNat, []⟩, 0) := by
        rw [Dp.crash, if_pos hm, if_neg (by rw [hlw]; exact hk), List.map_take]
        rfl
      rw [e]
      obtain ⟨k, rfl⟩ : ∃ k : Nat, keep = k := ⟨keep.toNat, by omega⟩
      obtain ⟨m, rfl⟩ : ∃ m : Nat, many = m := ⟨many.toNat, by omega⟩
      simp only [Int.toNat_natCast]
      exact crash_ok D k m w h hm (by omega) (by omega)
  | false =>
    have e : Dp.crash D.disk keep many = (Dp.zeroD, 30) := by rw [Dp.crash, if_neg (by rw [hm]; simp)]
    rw [e]
    refine (crash_bad D keep many w h hm).mono ?_
    rintro e w1 ⟨rfl, hb⟩
    exact ⟨zeroHD, rfl, zeroHD_own _ _, rfl, hb⟩
end Go.Proofs.Ytihinhdgfbnlmaa
