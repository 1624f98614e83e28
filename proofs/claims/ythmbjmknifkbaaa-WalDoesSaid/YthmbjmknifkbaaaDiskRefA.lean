/-
  Layer 3, the reference: done, May, Seen, See, Sync.
-/
import Derived.Test.YthmbjmknifkbaaaDiskC
namespace Go.Proofs.Ythmbjmknifkbaaa
open Go.RowKit
set_option maxHeartbeats 4000000
set_option maxRecDepth 100000
set_option linter.unusedVariables false
set_option linter.unusedSimpArgs false

def tn (l : List HP) : Nat := (l.map fun p => p.d.length).sum
theorem tn_next {l : List HP} {k : Nat} {p : HP} (h : l[k]? = some p) : tn (l.take (k + 1)) = tn (l.take k) + p.d.length := by
  unfold tn
  rw [List.take_add_one, h]
  simp
theorem tn_take_le : ∀ (l : List HP) (k : Nat), tn (l.take k) ≤ tn l
  | [], k => by simp [tn]
  | p :: l, 0 => by simp [tn]
  | p :: l, k + 1 => by
    have := tn_take_le l k
    simp only [tn, List.take_succ_cons, List.map_cons, List.sum_cons] at this ⊢
    omega
/-- A disk that is not great. -/
structure Sm (d : Dp.Disk) : Prop where
  tot : d.data.length + (d.wait.map fun p => p.d.length).sum ≤ 140737488351232
  wait : d.wait.length ≤ 100000
theorem Sm.n {d : Dp.Disk} (h : Sm d) {D : HD} {w : World} {B : Nat} (hD : DiskAt w B D) (e : D.disk = d) : D.n + tn D.l ≤ 140737488351232 ∧ D.Wn ≤ 100000 := by
  subst e
  refine ⟨?_, by rw [← hD.len_l]; have := h.wait; simpa [HD.disk] using this⟩
  have h1 := h.tot
  simp only [HD.disk, List.map_map] at h1
  rw [hD.len_d] at h1
  exact h1
theorem fits_next_any {b : List UInt8} {l : List HP} {k : Nat} {p : HP} (h : l[k]? = some p) : Dp.fits b ((l.take (k + 1)).map HP.put) = (Dp.fits b ((l.take k).map HP.put) && decide ((Dp.step (Dp.done b ((l.take k).map HP.put)) p.put).length ≤ 1048576)) := by
  rw [take_map_next h, Dp.fits_append]

theorem rdone_any (D : HD) (w : World) (h : DiskAt w w.heap.size D) (hs : Sm D.disk) (k0 : Nat) (hk0 : k0 ≤ D.Wn) :
    Calls Try.prog 36 #[.agg #[.slice D.A D.n D.c, .slice D.WA D.Wn D.Wc], .int .i64 (k0 : Int)] w fun e w' => ∃ A2 c2 m, e = .returned (.tuple #[.slice A2 m c2, .bool (Dp.fits D.d ((D.l.take k0).map HP.put))]) ∧ (Dp.done D.d ((D.l.take k0).map HP.put)).length = m ∧ m ≤ 140737488351232 ∧ w'.ownsRow w.heap.size 5 1 (.slice A2 m c2) m (cb (Dp.done D.d ((D.l.take k0).map HP.put))) ∧ Below w.heap.size w w' := by
  have hsm := hs.n h rfl
  obtain ⟨A, n, c, d, WA, Wn, Wc, l⟩ := D
  have hlen := h.len_l
  have hdn := h.len_d
  simp only at hlen hdn hsm hk0 ⊢
  obtain ⟨s1, s2⟩ := hsm
  have HH := Lib.hid h
  have HTL := Lib.hid s1
  have s1 : n ≤ 140737488351232 := by omega
  have HL := Lib.hid hlen
  have HDN := Lib.hid hdn
  have HR0 := Lib.hid (h.rd.keep (w' := w.alloc (.cells #[.slice A n c, .slice WA Wn Wc] 25)) fun p hp => World.cell?_alloc_lt w _ p hp)
  have B0 := Lib.hid ((Below.refl _ w).alloc (Nat.le_refl w.heap.size) (.cells #[.slice A n c, .slice WA Wn Wc] 25))
  have K0 := Lib.hid (Blk.new w 25 #[.slice A n c, .slice WA Wn Wc])
  have hz : w.heap.size < (w.alloc (.cells #[.slice A n c, .slice WA Wn Wc] 25)).heap.size := by simp
  clear h hs hlen hdn
  go_enter Try.func36, Try.ntmps36
  go_wp2_with (at_builtin; refine app_bl rfl (.const (.slice none 0 0)) (.tmp 10) rfl (w.heap.size + 1) (.slice none 0 0) 0 [] rfl (World.ownsRow_nil _ _ _ _) w.heap.size A n c d rfl HR0.out (by omega) (by simp) ?_)
  intro v' w1 h1 h2
  have HW1 := Lib.hid (own_blk_ne h1 (K0.out.grown h2.1 (by simp [Value.ownBlock])) (by decide))
  have K1 := Lib.hid (K0.out.grown h2.1 (by simp [Value.ownBlock]))
  have B1 := Lib.hid (B0.out.trans (h2.belowOwn (World.ownsRow_nil (w.alloc (.cells #[.slice A n c, .slice WA Wn Wc] 25)) w.heap.size 5 1) (by simp)))
  obtain ⟨A1, c1, rfl, _, _, _⟩ := own_form h1
  have O1 := Lib.hid h1
  clear h1 h2 K0 HR0 B0
  obtain ⟨f0, hf0⟩ : ∃ f0, decide ((n : Int) ≤ 1048576) = f0 := ⟨_, rfl⟩
  go_wp2
  go_loopw [6, 7, 8] (fun x6 x7 y wr => ∃ (k : Nat) (f : Bool) (m : Nat) (bs : List UInt8), y = .int .i64 (k : Int) ∧ k ≤ k0 ∧ x7 = .bool f ∧ Dp.fits d ((l.take k).map HP.put) = f ∧ (Dp.done d ((l.take k).map HP.put)) = bs ∧ m ≤ n + tn (l.take k) ∧ bs.length = m ∧ wr.ownsRow (w.heap.size + 1) 5 1 x6 m (cb bs) ∧ Blk wr w.heap.size 25 #[.slice A n c, .slice WA Wn Wc] ∧ Below w.heap.size w wr) (fun _ _ y _ => k0 - (intOf y).toNat)
  case atStart => exact ⟨0, f0, n, d, rfl, Nat.zero_le _, rfl, by rw [← hf0]; simp [Dp.fits, HDN.out]; omega, rfl, by omega, HDN.out, O1.out, K1.out, B1.out⟩
  case round =>
    obtain ⟨k, f, m, bs, rfl, hk, rfl, hf, hbs, hm, hbl, ho, hkk, hb⟩ := hrel
    obtain ⟨A2, c2, rfl, _, _, _⟩ := own_form ho
    have HMM := Lib.hid hm
    have HF := Lib.hid hf
    have HBS := Lib.hid hbs
    have HBL := Lib.hid hbl
    have HO := Lib.hid ho
    have HK := Lib.hid hkk
    have HB := Lib.hid hb
    have y1 := hkk.cell 1
    clear hf hbs hbl ho hkk hb hm
    by_cases hlt : k < k0
    · have hkw : k < Wn := by omega
      obtain ⟨g, off, p, e, hg, hmm, hc⟩ := (HH.out.below HB.out).rw_.hput hkw
      have hp' := List.mem_of_getElem? hmm
      have hpn := HH.out.len_p hp'
      have htn := tn_next hmm
      have htl := tn_take_le l (k + 1)
      have hpa := ((HH.out.below HB.out).all p hp').1
      have hfn := fits_next_any (b := d) hmm
      simp only at e
      subst e
      obtain ⟨sw, pA, pn, pc, pd⟩ := p
      simp only at htn hpn hpa
      have HMN : Hid (m + pn ≤ n + tn (l.take (k + 1))) := by rw [Hid, htn, hpn]; have := HMM.out; omega
      have hsz : m + pn ≤ 140737488351232 := by have := HMN.out; have := HTL.out; omega
      have c0 := hc 0 _ rfl
      have c1 := hc 1 _ rfl
      rw [Nat.add_zero] at c0
      rw [HF.out, HBS.out] at hfn
      have HFN : Hid (Dp.fits d ((l.take (k + 1)).map HP.put) = (f && decide ((Dp.step bs ⟨sw, pd⟩).length ≤ 1048576))) := hfn
      have HPA := Lib.hid hpa
      have HN : Hid (Dp.done d ((l.take (k + 1)).map HP.put) = Dp.step bs ⟨sw, pd⟩) := by
        rw [Hid, done_next hmm, HBS.out]
        rfl
      have HPN := Lib.hid hpn
      clear hc hmm hpn hp' hpa hfn htn htl
      cases sw with
      | true =>
        cases f with
        | true =>
          have HSL : Hid ((Dp.step bs ⟨true, pd⟩).length = pn) := by rw [Hid, Dp.step]; simp [HBL.out, HPN.out]
          go_wp2_with (at_builtin; refine app_bl rfl (.tmp 26) (.tmp 32) rfl (w.heap.size + 1) (.slice none 0 0) 0 [] rfl (World.ownsRow_nil _ _ _ _) w.heap.size pA pn pc pd rfl HPA.out (by omega) (by have := HK.out.lt; omega) ?_)
          intro v' w' h1 h2
          have H1 := Lib.hid h1
          have K3 := Lib.hid (HK.out.grown h2.1 (fun e => by have := ((World.ownsRow_nil wr (w.heap.size + 1) 5 1)).lt _ e.symm; omega))
          have B3 := Lib.hid (HB.out.trans (h2.belowOwn (own_mono (base' := w.heap.size) (World.ownsRow_nil wr (w.heap.size + 1) 5 1) (by omega)) HB.out.size))
          obtain ⟨A3, c3, rfl, _, _, _⟩ := own_form h1
          clear h1 h2 y1
          go_wp2
          go_roundw
          case rel => exact ⟨k + 1, _, pn, pd, by go_num, by omega, rfl, by rw [HFN.out, Bool.true_and]; exact decide_eq_decide.2 (by rw [HSL.out]; omega), HN.out, by have := HMN.out; omega, by rw [← HSL.out]; rfl, H1.out, K3.out, B3.out⟩
          case measure => simp [intOf]; omega
        | false =>
          have HSL : Hid ((Dp.step bs ⟨true, pd⟩).length = pn) := by rw [Hid, Dp.step]; simp [HBL.out, HPN.out]
          go_wp2_with (at_builtin; refine app_bl rfl (.tmp 26) (.tmp 32) rfl (w.heap.size + 1) (.slice none 0 0) 0 [] rfl (World.ownsRow_nil _ _ _ _) w.heap.size pA pn pc pd rfl HPA.out (by omega) (by have := HK.out.lt; omega) ?_)
          intro v' w' h1 h2
          have H1 := Lib.hid h1
          have K3 := Lib.hid (HK.out.grown h2.1 (fun e => by have := ((World.ownsRow_nil wr (w.heap.size + 1) 5 1)).lt _ e.symm; omega))
          have B3 := Lib.hid (HB.out.trans (h2.belowOwn (own_mono (base' := w.heap.size) (World.ownsRow_nil wr (w.heap.size + 1) 5 1) (by omega)) HB.out.size))
          obtain ⟨A3, c3, rfl, _, _, _⟩ := own_form h1
          clear h1 h2 y1
          go_wp2
          go_roundw
          case rel => exact ⟨k + 1, false, pn, pd, by go_num, by omega, rfl, by rw [HFN.out, Bool.false_and], HN.out, by have := HMN.out; omega, by rw [← HSL.out]; rfl, H1.out, K3.out, B3.out⟩
          case measure => simp [intOf]; omega
      | false =>
        cases f with
        | true =>
          have HSL : Hid ((Dp.step bs ⟨false, pd⟩).length = m + pn) := by rw [Hid, Dp.step]; simp [HBL.out, HPN.out]
          go_wp2_with (at_builtin; refine app_bl rfl (.tmp 26) (.tmp 32) rfl (w.heap.size + 1) (.slice A2 m c2) m bs rfl HO.out w.heap.size pA pn pc pd rfl HPA.out (by omega) (by have := HK.out.lt; omega) ?_)
          intro v' w' h1 h2
          have H1 := Lib.hid h1
          have K3 := Lib.hid (HK.out.grown h2.1 (fun e => by have := (HO.out).lt _ e.symm; omega))
          have B3 := Lib.hid (HB.out.trans (h2.belowOwn (own_mono (base' := w.heap.size) HO.out (by omega)) HB.out.size))
          obtain ⟨A3, c3, rfl, _, _, _⟩ := own_form h1
          clear h1 h2 y1
          go_wp2
          go_roundw
          case rel => exact ⟨k + 1, _, m + pn, bs ++ pd, by go_num, by omega, rfl, by rw [HFN.out, Bool.true_and]; exact decide_eq_decide.2 (by rw [HSL.out]; omega), HN.out, by have := HMN.out; omega, by rw [← HSL.out]; rfl, H1.out, K3.out, B3.out⟩
          case measure => simp [intOf]; omega
        | false =>
          have HSL : Hid ((Dp.step bs ⟨false, pd⟩).length = m + pn) := by rw [Hid, Dp.step]; simp [HBL.out, HPN.out]
          go_wp2_with (at_builtin; refine app_bl rfl (.tmp 26) (.tmp 32) rfl (w.heap.size + 1) (.slice A2 m c2) m bs rfl HO.out w.heap.size pA pn pc pd rfl HPA.out (by omega) (by have := HK.out.lt; omega) ?_)
          intro v' w' h1 h2
          have H1 := Lib.hid h1
          have K3 := Lib.hid (HK.out.grown h2.1 (fun e => by have := (HO.out).lt _ e.symm; omega))
          have B3 := Lib.hid (HB.out.trans (h2.belowOwn (own_mono (base' := w.heap.size) HO.out (by omega)) HB.out.size))
          obtain ⟨A3, c3, rfl, _, _, _⟩ := own_form h1
          clear h1 h2 y1
          go_wp2
          go_roundw
          case rel => exact ⟨k + 1, false, m + pn, bs ++ pd, by go_num, by omega, rfl, by rw [HFN.out, Bool.false_and], HN.out, by have := HMN.out; omega, by rw [← HSL.out]; rfl, H1.out, K3.out, B3.out⟩
          case measure => simp [intOf]; omega
    · have HE : Hid (k = k0) := by rw [Hid]; omega
      go_wp2
      go_ret2
      exact ⟨A2, c2, m, by rw [← HE.out, HF.out]; rfl, by rw [← HE.out, HBS.out]; exact HBL.out, by have := HMM.out; have := tn_take_le l k; have := HTL.out; omega, by rw [← HE.out, HBS.out]; exact own_mono HO.out (by omega), HB.out⟩

theorem Sm.wn {d : Dp.Disk} (h : Sm d) {D : HD} {w : World} {B : Nat} (hD : DiskAt w B D) (e : D.disk = d) : D.Wn ≤ 100000 := (h.n hD e).2
theorem may_eq (D : HD) {w : World} {B : Nat} (h : DiskAt w B D) : Dp.mayD D.disk = (decide (D.Wn ≤ 1024) && Dp.fits D.d ((D.l.take D.Wn).map HP.put)) := by
  rw [take_all_wn h, Dp.mayD, HD.disk]
  simp only [List.length_map, h.len_l]
theorem rmay_any (D : HD) (w : World) (h : DiskAt w w.heap.size D) (hs : Sm D.disk) :
    Calls Try.prog 27 #[.agg #[.slice D.A D.n D.c, .slice D.WA D.Wn D.Wc]] w fun e w' => e = .returned (.bool (Dp.mayD D.disk)) ∧ Below w.heap.size w w' := by
  rw [may_eq D h]
  have HA := Lib.hid (h.alloc (.cells #[.slice D.A D.n D.c, .slice D.WA D.Wn D.Wc] 25))
  have B0 := Lib.hid ((Below.refl _ w).alloc (Nat.le_refl w.heap.size) (.cells #[.slice D.A D.n D.c, .slice D.WA D.Wn D.Wc] 25))
  have HS := Lib.hid hs
  clear h hs
  by_cases z : D.Wn ≤ 1024
  · have z1 : ¬ (1024 : Int) < (D.Wn : Int) := by omega
    go_enter Try.func27, Try.ntmps27
    go_wp2_with fail
    refine (rdone_any D _ HA.out HS.out D.Wn (Nat.le_refl _)).mono ?_
    rintro e w1 ⟨A2, c2, m, rfl, -, -, -, hb⟩
    have B1 := Lib.hid (B0.out.trans (hb.mono B0.out.size))
    clear hb
    obtain ⟨f, hf⟩ : ∃ f, Dp.fits D.d ((D.l.take D.Wn).map HP.put) = f := ⟨_, rfl⟩
    rw [hf]
    have HF := Lib.hid hf
    clear hf
    go_wp2
    go_ret
    exact ⟨by rw [decide_eq_true z, Bool.true_and, HF.out]; rfl, B1.out⟩
  · have z1 : (1024 : Int) < (D.Wn : Int) := by omega
    rw [decide_eq_false z, Bool.false_and]
    go_enter Try.func27, Try.ntmps27
    go_wp2
    go_ret
    exact ⟨rfl, B0.out⟩
theorem rseen_any (D : HD) (w : World) (h : DiskAt w w.heap.size D) (hs : Sm D.disk) :
    Calls Try.prog 32 #[.agg #[.slice D.A D.n D.c, .slice D.WA D.Wn D.Wc]] w fun e w' => ∃ A2 c2 m, e = .returned (.slice A2 m c2) ∧ (Dp.seen D.disk).length = m ∧ m ≤ 140737488351232 ∧ w'.ownsRow w.heap.size 5 1 (.slice A2 m c2) m (cb (Dp.seen D.disk)) ∧ Below w.heap.size w w' := by
  have HSe : Hid (Dp.done D.d ((D.l.take D.Wn).map HP.put) = Dp.seen D.disk) := by rw [Hid, take_all_wn h]; rfl
  have HA := Lib.hid (h.alloc (.cells #[.slice D.A D.n D.c, .slice D.WA D.Wn D.Wc] 25))
  have B0 := Lib.hid ((Below.refl _ w).alloc (Nat.le_refl w.heap.size) (.cells #[.slice D.A D.n D.c, .slice D.WA D.Wn D.Wc] 25))
  have HS := Lib.hid hs
  clear h hs
  go_enter Try.func32, Try.ntmps32
  go_wp2_with fail
  refine (rdone_any D _ HA.out HS.out D.Wn (Nat.le_refl _)).mono ?_
  rintro e w1 ⟨A2, c2, m, rfl, h1, h2, h3, hb⟩
  rw [HSe.out] at h1 h3
  have H1 := Lib.hid h1
  have H2 := Lib.hid h2
  have H3 := Lib.hid (own_mono (base' := w.heap.size) h3 B0.out.size)
  have B1 := Lib.hid (B0.out.trans (hb.mono B0.out.size))
  clear h1 h2 h3 hb
  go_wp2
  go_ret
  exact ⟨_, _, _, rfl, H1.out, H2.out, H3.out, B1.out⟩
theorem rsee_any (D : HD) (w : World) (h : DiskAt w w.heap.size D) (hs : Sm D.disk) :
    Calls Try.prog 19 #[.agg #[.slice D.A D.n D.c, .slice D.WA D.Wn D.Wc]] w fun e w' => ∃ A2 c2 m, e = .returned (.tuple #[.slice A2 m c2, .int .i64 (Dp.see D.disk).2]) ∧ (Dp.see D.disk).1.length = m ∧ w'.ownsRow w.heap.size 5 1 (.slice A2 m c2) m (cb (Dp.see D.disk).1) ∧ Below w.heap.size w w' := by
  have HA := Lib.hid (h.alloc (.cells #[.slice D.A D.n D.c, .slice D.WA D.Wn D.Wc] 25))
  have B0 := Lib.hid ((Below.refl _ w).alloc (Nat.le_refl w.heap.size) (.cells #[.slice D.A D.n D.c, .slice D.WA D.Wn D.Wc] 25))
  have K0 := Lib.hid (Blk.new w 25 #[.slice D.A D.n D.c, .slice D.WA D.Wn D.Wc])
  have HS := Lib.hid hs
  clear h hs
  cases hm : Dp.mayD D.disk with
  | true =>
    have e : Dp.see D.disk = (Dp.seen D.disk, 0) := by rw [Dp.see, if_pos hm]
    rw [e]
    have HM := Lib.hid hm
    clear hm e
    go_enter Try.func19, Try.ntmps19
    go_wp2_with fail
    refine (rmay_any D _ HA.out HS.out).mono ?_
    rintro e w1 ⟨rfl, hb⟩
    rw [HM.out]
    have K1 := Lib.hid (K0.out.below hb K0.out.lt)
    have HA1 := Lib.hid (HA.out.up hb)
    have B1 := Lib.hid (B0.out.trans (hb.mono B0.out.size))
    clear hb K0 HA B0
    have y0 := K1.out.cell 0
    have y1 := K1.out.cell 1
    go_wp2_with fail
    refine (rseen_any D w1 HA1.out HS.out).mono ?_
    rintro e w2 ⟨A2, c2, m, rfl, h1, h2, h3, hb⟩
    have H1 := Lib.hid h1
    have H3 := Lib.hid (own_mono (base' := w.heap.size) h3 B1.out.size)
    have B2 := Lib.hid (B1.out.trans (hb.mono B1.out.size))
    clear h1 h2 h3 hb y0 y1 K1
    go_wp2
    go_ret2
    exact ⟨_, _, _, rfl, H1.out, H3.out, B2.out⟩
  | false =>
    have e : Dp.see D.disk = ([], 30) := by rw [Dp.see, if_neg (by rw [hm]; simp)]
    rw [e]
    have HM := Lib.hid hm
    clear hm e
    go_enter Try.func19, Try.ntmps19
    go_wp2_with fail
    refine (rmay_any D _ HA.out HS.out).mono ?_
    rintro e w1 ⟨rfl, hb⟩
    rw [HM.out]
    have B1 := Lib.hid (B0.out.trans (hb.mono B0.out.size))
    clear hb K0 HA B0
    go_wp2
    go_ret2
    exact ⟨none, 0, 0, rfl, rfl, World.ownsRow_nil _ _ _ _, B1.out⟩
end Go.Proofs.Ythmbjmknifkbaaa
