/-
  Layer 3: disk.done, disk.See, disk.Sync.
-/
import Derived.Test.YthmbjmknifkbaaaDiskA
namespace Go.Proofs.Ythmbjmknifkbaaa
open Go.RowKit
set_option maxHeartbeats 4000000
set_option maxRecDepth 100000
set_option linter.unusedVariables false
set_option linter.unusedSimpArgs false

theorem own_cut0 {w : World} {base n c size : Nat} {e : TypeId} {A : Option Addr} {xs : List Value} (h : w.ownsRow base e size (.slice A n c) n xs) : w.ownsRow base e size (.slice A 0 c) 0 [] := by
  refine ⟨by simp, ?_⟩
  rcases h.2 with ⟨h1, h2⟩ | ⟨g, cap, cur, h1, h2, h3, h4, h5, h6, h7⟩
  · injection h1 with h3 h4 h5
    subst h3 h5
    exact Or.inl ⟨rfl, rfl⟩
  · injection h1 with h8 h9 h10
    subst h8 h10
    exact Or.inr ⟨g, _, cur, rfl, h2, h3, Nat.zero_le _, h5, h6, by simp⟩
theorem done_small {d : List UInt8} {l : List HP} (h : Dp.fits d (l.map HP.put) = true) (k : Nat) : (Dp.done d ((l.take k).map HP.put)).length ≤ 1048576 := by
  rw [List.map_take]
  exact Dp.fits_last (Dp.fits_take h k)
theorem may_fits {D : HD} (h : Dp.mayD D.disk = true) : Dp.fits D.d (D.l.map HP.put) = true := Dp.mayD_fits h
theorem may_wn {D : HD} (h : Dp.mayD D.disk = true) : D.l.length ≤ 1024 := by
  have := Dp.mayD_len h
  simpa [HD.disk] using this
theorem fits_mem {d : List UInt8} {l : List HP} {p : HP} (hp' : p ∈ l) (h : Dp.fits d (l.map HP.put) = true) : p.d.length ≤ 1048576 := by
  obtain ⟨k, hk⟩ := List.mem_iff_getElem?.1 hp'
  have h1 := done_small h (k + 1)
  rw [done_next hk, Dp.step] at h1
  split at h1
  · exact h1
  · rw [List.length_append] at h1
    have : p.put.d.length = p.d.length := rfl
    omega
theorem may_p {D : HD} (h : Dp.mayD D.disk = true) {p : HP} (hp' : p ∈ D.l) : p.d.length ≤ 1048576 := fits_mem hp' (may_fits h)
theorem may_d {D : HD} (h : Dp.mayD D.disk = true) : D.d.length ≤ 1048576 := Dp.fits_first (may_fits h)

theorem done_any (D : HD) (w : World) (h : DiskAt w w.heap.size D) (hm : Dp.mayD D.disk = true) (k0 : Nat) (hk0 : k0 ≤ D.Wn) :
    Calls Try.prog 29 #[.agg #[.slice D.A D.n D.c, .slice D.WA D.Wn D.Wc], .int .i64 (k0 : Int)] w fun e w' => ∃ A2 c2 m, e = .returned (.tuple #[.slice A2 m c2, .bool true]) ∧ (Dp.done D.d ((D.l.take k0).map HP.put)).length = m ∧ w'.ownsRow w.heap.size 5 1 (.slice A2 m c2) m (cb (Dp.done D.d ((D.l.take k0).map HP.put))) ∧ Below w.heap.size w w' := by
  have hfit := may_fits hm
  have hpl : ∀ p ∈ D.l, p.n ≤ 1048576 := fun p hq => by rw [← h.len_p hq]; exact may_p hm hq
  have hdl := may_d hm
  obtain ⟨A, n, c, d, WA, Wn, Wc, l⟩ := D
  have hlen := h.len_l
  have hdn := h.len_d
  have hwn := h.wnc
  have hk1 := may_wn hm
  simp only at hlen hdn hfit hpl hdl hk0 hwn hk1 ⊢
  rw [hdn] at hdl
  rw [hlen] at hk1
  have z1 : decide ((n : Int) ≤ 1048576) = true := decide_eq_true (by omega)
  have K0 := Lib.hid (Blk.new w 25 #[.slice A n c, .slice WA Wn Wc]).drew
  have hs2 := fun W => run_slice2_to (P := Try.prog) Try.underlying23 WA Wn Wc k0 (by omega) W put_size
  have HCl := Lib.hid (clone_any A n c d (w.alloc (.cells #[.slice A n c, .slice WA Wn Wc] 25)).drew w.heap.size ((h.rd.alloc (Nat.le_refl _) _).drew) (by simp) (by omega))
  have HH := Lib.hid h
  have HF := Lib.hid hfit
  have HPL := Lib.hid hpl
  have HL := Lib.hid hlen
  have HDN := Lib.hid hdn
  clear h hm hfit hpl hlen hdn
  go_enter Try.func29, Try.ntmps29
  go_wp2_with fail
  go_region_held3 (fun w' => w'.cell? ⟨w.heap.size, 0, none⟩ = some (.slice A n c)) (first | exact Blk.cell K0.out 0 | exact Blk.cell (Blk.below K0.out b1 K0.out.lt) 0) ((go_at_call 37; refine HCl.out.mono ?_; rintro e w1 ⟨A1, c1, rfl, o1, b1⟩))
  have K1 := Lib.hid (Blk.below K0.out b1 K0.out.lt)
  have B1 := Lib.hid (below_of_alloc ((un_drew b1).mono (B' := w.heap.size) (by simp)) (Nat.le_refl _))
  have O1 := Lib.hid (own_mono (base' := w.heap.size) o1 (by simp))
  clear o1 b1 HCl K0
  have y1 := K1.out.cell 1
  go_wp2
  go_loopw [6, 7, 22] (fun x6 x7 y wr => ∃ (k m : Nat) (bs : List UInt8), y = .int .i64 (k : Int) ∧ k ≤ k0 ∧ x7 = .bool true ∧ (Dp.done d ((l.take k).map HP.put)) = bs ∧ m ≤ 1048576 ∧ bs.length = m ∧ wr.ownsRow w.heap.size 5 1 x6 m (cb bs) ∧ Below w.heap.size w wr) (fun _ _ y _ => k0 - (intOf y).toNat)
  case atStart => exact ⟨0, n, d, rfl, Nat.zero_le _, rfl, rfl, hdl, HDN.out, O1.out, B1.out⟩
  case round =>
    obtain ⟨k, m, bs, rfl, hk, rfl, hbs, hm, hbl, ho, hb⟩ := hrel
    obtain ⟨A2, c2, rfl, _, _, _⟩ := own_form ho
    have HBS := Lib.hid hbs
    have HBL := Lib.hid hbl
    have HO := Lib.hid ho
    have HB := Lib.hid hb
    clear hbs hbl ho hb
    by_cases hlt : k < k0
    · obtain ⟨g, off, p, e, hg, hmm, hc⟩ := (HH.out.below HB.out).rw_.hput (Nat.lt_of_lt_of_le hlt hk0)
      have hp' := List.mem_of_getElem? hmm
      have hpn := HH.out.len_p hp'
      have hpl := HPL.out p hp'
      have hpa := (((HH.out.below HB.out).all p hp').alloc1 HB.out.size (.cells #[.bool p.sw, .slice p.A p.n p.c] 42)).1
      simp only at e
      subst e
      obtain ⟨sw, pA, pn, pc, pd⟩ := p
      simp only at hpl hpn hpa
      have HC : Hid (wr.rangeAt g (off + k * 2) [.bool sw, .slice pA pn pc]) := Lib.hid hc
      have HPA := Lib.hid hpa
      have HN : Hid (Dp.done d ((l.take (k + 1)).map HP.put) = Dp.step bs ⟨sw, pd⟩) := by
        rw [Hid, done_next hmm, HBS.out]
        rfl
      have HPN := Lib.hid hpn
      have HSM : Hid ((Dp.step bs ⟨sw, pd⟩).length ≤ 1048576) := by
        rw [Hid, ← HN.out]
        exact done_small HF.out _
      clear hc hmm hpn hp' hpa
      have B2 := Lib.hid (HB.out.alloc HB.out.size (.cells #[.bool sw, .slice pA pn pc] 42))
      cases sw with
      | true =>
        have HO2 := Lib.hid ((own_cut0 HO.out).alloc (.cells #[.bool true, .slice pA pn pc] 42))
        have hs0 := fun W => run_slice_to (P := Try.prog) Try.underlying22 A2 m c2 0 (Nat.zero_le _) W u8_size
        rw [Int.natCast_zero] at hs0
        have HSM2 : Hid (pn ≤ 1048576) := by have := HSM.out; rw [← HPN.out]; exact this
        have zq : decide ((pn : Int) ≤ 1048576) = true := decide_eq_true (by have := HSM2.out; omega)
        go_wp2_with (first | (with_reducible refine wpList_load_mid rfl _ _ rfl _ _ rfl _ _ HC.out Try.underlying42 rfl (by kernel_rfl) ?_) | (at_builtin; refine app_bl rfl (.tmp 30) (.tmp 32) rfl w.heap.size (.slice A2 0 c2) 0 [] rfl HO2.out w.heap.size pA pn pc pd rfl HPA.out (by omega) (by have := B2.out.size; simp at this ⊢; omega) ?_))
        intro v' w' h1 h2
        have H1 := Lib.hid h1
        have B3 := Lib.hid (B2.out.trans (h2.belowOwn HO2.out B2.out.size))
        obtain ⟨A3, c3, rfl, _, _, _⟩ := own_form h1
        clear h1 h2
        go_wp2
        go_roundw
        case rel => exact ⟨k + 1, pn, pd, by go_num, by omega, rfl, HN.out, HSM2.out, HPN.out, H1.out, B3.out⟩
        case measure => simp [intOf]; omega
      | false =>
        have HO2 := Lib.hid (HO.out.alloc (.cells #[.bool false, .slice pA pn pc] 42))
        have HSM2 : Hid (m + pn ≤ 1048576) := by
          have h3 : (bs ++ pd).length ≤ 1048576 := HSM.out
          rw [List.length_append, HBL.out, HPN.out] at h3
          exact h3
        have zq : decide ((m : Int) + (pn : Int) ≤ 1048576) = true := decide_eq_true (by have := HSM2.out; omega)
        go_wp2_with (first | (with_reducible refine wpList_load_mid rfl _ _ rfl _ _ rfl _ _ HC.out Try.underlying42 rfl (by kernel_rfl) ?_) | (at_builtin; refine app_bl rfl (.tmp 30) (.tmp 32) rfl w.heap.size (.slice A2 m c2) m bs rfl HO2.out w.heap.size pA pn pc pd rfl HPA.out (by omega) (by have := B2.out.size; simp at this ⊢; omega) ?_))
        intro v' w' h1 h2
        have H1 := Lib.hid h1
        have B3 := Lib.hid (B2.out.trans (h2.belowOwn HO2.out B2.out.size))
        obtain ⟨A3, c3, rfl, _, _, _⟩ := own_form h1
        clear h1 h2
        go_wp2
        go_roundw
        case rel => exact ⟨k + 1, m + pn, bs ++ pd, by go_num, by omega, by first | rfl | (simp only [zq]), HN.out, HSM2.out, by rw [List.length_append, HBL.out, HPN.out], H1.out, B3.out⟩
        case measure => simp [intOf]; omega
    · have HE : Hid (Dp.done d ((l.take k0).map HP.put) = bs) := by
        have : k = k0 := by omega
        rw [Hid, ← this]
        exact HBS.out
      go_wp2
      go_ret2
      exact ⟨A2, c2, m, rfl, by rw [HE.out]; exact HBL.out, by rw [HE.out]; exact HO.out, HB.out⟩

/-! ### See, Sync -/
theorem take_all_wn {D : HD} {w : World} {B : Nat} (h : DiskAt w B D) : D.l.take D.Wn = D.l := List.take_of_length_le (by rw [h.len_l]; exact Nat.le_refl _)
theorem see_ok (D : HD) (w : World) (h : DiskAt w w.heap.size D) (hm : Dp.mayD D.disk = true) :
    Calls Try.prog 15 #[.agg #[.slice D.A D.n D.c, .slice D.WA D.Wn D.Wc]] w fun e w' => ∃ A2 c2 m, e = .returned (.tuple #[.slice A2 m c2, .int .i64 0]) ∧ (Dp.seen D.disk).length = m ∧ w'.ownsRow w.heap.size 5 1 (.slice A2 m c2) m (cb (Dp.seen D.disk)) ∧ Below w.heap.size w w' := by
  have K0 := Lib.hid (Blk.new w 25 #[.slice D.A D.n D.c, .slice D.WA D.Wn D.Wc])
  have HA := Lib.hid (h.alloc (.cells #[.slice D.A D.n D.c, .slice D.WA D.Wn D.Wc] 25))
  have B0 := Lib.hid ((Below.refl _ w).alloc (Nat.le_refl w.heap.size) (.cells #[.slice D.A D.n D.c, .slice D.WA D.Wn D.Wc] 25))
  have HS : Hid (Dp.done D.d ((D.l.take D.Wn).map HP.put) = Dp.seen D.disk) := by rw [Hid, take_all_wn h]; rfl
  have HM := Lib.hid hm
  clear h hm
  go_enter Try.func15, Try.ntmps15
  go_wp2_with fail
  refine (check_any D _ true HM.out HA.out).mono ?_
  rintro e w1 ⟨rfl, hb⟩
  rw [show eD true = 0 from rfl]
  have K1 := Lib.hid (Blk.below K0.out hb K0.out.lt)
  have HA1 := Lib.hid (HA.out.up hb)
  have B1 := Lib.hid (B0.out.trans (hb.mono B0.out.size))
  clear hb K0 HA B0
  have y0 := K1.out.cell 0
  have y1 := K1.out.cell 1
  go_wp2_with fail
  refine (done_any D w1 HA1.out HM.out D.Wn (Nat.le_refl _)).mono ?_
  rintro e w2 ⟨A2, c2, m, rfl, hm2, ho, hb⟩
  rw [HS.out] at hm2 ho
  have HM2 := Lib.hid hm2
  have HO := Lib.hid (own_mono (base' := w.heap.size) ho B1.out.size)
  have B2 := Lib.hid (B1.out.trans (hb.mono B1.out.size))
  clear hm2 ho hb y0 y1 K1
  go_wp2
  go_ret2
  exact ⟨_, _, _, rfl, HM2.out, HO.out, B2.out⟩
theorem see_bad (D : HD) (w : World) (h : DiskAt w w.heap.size D) (hm : Dp.mayD D.disk = false) :
    Calls Try.prog 15 #[.agg #[.slice D.A D.n D.c, .slice D.WA D.Wn D.Wc]] w fun e w' => e = .returned (.tuple #[.slice none 0 0, .int .i64 30]) ∧ Below w.heap.size w w' := by
  have HA := Lib.hid (h.alloc (.cells #[.slice D.A D.n D.c, .slice D.WA D.Wn D.Wc] 25))
  have B0 := Lib.hid ((Below.refl _ w).alloc (Nat.le_refl w.heap.size) (.cells #[.slice D.A D.n D.c, .slice D.WA D.Wn D.Wc] 25))
  have HM := Lib.hid hm
  clear h hm
  go_enter Try.func15, Try.ntmps15
  go_wp2_with fail
  refine (check_any D _ false HM.out HA.out).mono ?_
  rintro e w1 ⟨rfl, hb⟩
  rw [show eD false = 30 from rfl]
  have B1 := Lib.hid (B0.out.trans (hb.mono B0.out.size))
  clear hb HA B0
  go_wp2
  go_ret2
  exact ⟨rfl, B1.out⟩
/-- What is seen, and whether: one form. -/
theorem see_any (D : HD) (w : World) (h : DiskAt w w.heap.size D) :
    Calls Try.prog 15 #[.agg #[.slice D.A D.n D.c, .slice D.WA D.Wn D.Wc]] w fun e w' => ∃ A2 c2 m, e = .returned (.tuple #[.slice A2 m c2, .int .i64 (Dp.see D.disk).2]) ∧ (Dp.see D.disk).1.length = m ∧ w'.ownsRow w.heap.size 5 1 (.slice A2 m c2) m (cb (Dp.see D.disk).1) ∧ Below w.heap.size w w' := by
  cases hm : Dp.mayD D.disk with
  | true =>
    have e : Dp.see D.disk = (Dp.seen D.disk, 0) := by rw [Dp.see, if_pos hm]
    rw [e]
    exact see_ok D w h hm
  | false =>
    have e : Dp.see D.disk = ([], 30) := by rw [Dp.see, if_neg (by rw [hm]; simp)]
    rw [e]
    refine (see_bad D w h hm).mono ?_
    rintro e w1 ⟨rfl, hb⟩
    exact ⟨none, 0, 0, rfl, rfl, World.ownsRow_nil _ _ _ _, hb⟩
theorem see_len (d : Dp.Disk) : (Dp.see d).1.length ≤ 1048576 := by
  unfold Dp.see
  split
  · rename_i h
    exact Dp.seen_len h
  · simp
end Go.Proofs.Ythmbjmknifkbaaa
