/-
  Layer 3: bytes.Clone, disk.Check.
-/
import Derived.Test.YthmbjmknifkbaaaDiskMem
import Derived.Test.YthmbjmknifkbaaaHeld
import Derived.Deep.RegionHeld3
import Derived.Lib.SliceRun
namespace Go.Proofs.Ythmbjmknifkbaaa
open Go.RowKit
set_option maxHeartbeats 4000000
set_option maxRecDepth 100000
set_option linter.unusedVariables false
set_option linter.unusedSimpArgs false

theorem clone_any (A : Option Addr) (n c : Nat) (l : List UInt8) (w : World) (B : Nat) (hr : Reads w B 1 A n (cb l)) (hB : B ≤ w.heap.size) (hn : n ≤ 140737488351232) :
    Calls Try.prog 37 #[.slice A n c] w fun e w' => ∃ A2 c2, e = .returned (.slice A2 n c2) ∧ w'.ownsRow w.heap.size 5 1 (.slice A2 n c2) n (cb l) ∧ Below w.heap.size w w' := by
  have hl := hr.len_b
  have q22 : ∀ (w : World) (a : Option Addr) (n c n' c' : Nat), (binOp .eql 22 (.slice a n c) (.slice none n' c')).run Try.prog w = .ok (.bool a.isNone) w := fun w a n c n' c' => Lib.run_eql_slice_nil w _ _ a n c n' c' Try.underlying22
  cases A with
  | none =>
    have h0 : n = 0 := by
      rcases Nat.eq_zero_or_pos n with h0 | h0
      · exact h0
      · obtain ⟨ad, h', _⟩ := hr.2 h0
        cases h'
    subst h0
    obtain rfl : l = [] := List.eq_nil_of_length_eq_zero hl
    clear hr
    go_enter Try.func37, Try.ntmps37
    go_wp2
    go_ret
    exact ⟨none, 0, rfl, World.ownsRow_nil _ _ _ _, Below.refl _ _⟩
  | some ad =>
    have HR := Lib.hid hr
    clear hr
    have HO := Lib.hid (World.ownsRow_made (base := w.heap.size) (e := 5) (size := 1) w #[] 0 (Nat.le_refl _) (Nat.zero_le _) rfl)
    have HR2 := Lib.hid (HR.out.keep (w' := w.alloc (.cells #[] 5)) fun p hp => World.cell?_alloc_lt w _ p (by omega))
    go_enter Try.func37, Try.ntmps37
    go_wp2_with (at_builtin; refine app_bl rfl (.tmp 5) (.tmp 6) rfl w.heap.size (.slice (some ⟨w.heap.size, 0, none⟩) 0 0) 0 [] rfl HO.out B (some ad) n c l rfl HR2.out (by omega) (by simp) ?_)
    intro v' w' h1 h2
    obtain ⟨A2, c2, rfl, _, _, _⟩ := own_form h1
    have H1 := Lib.hid h1
    have hb := Lib.hid (below_of_alloc (h2.belowOwn HO.out (by simp)) (Nat.le_refl _))
    clear h1 h2
    go_wp2
    go_ret
    exact ⟨_, _, rfl, H1.out, hb.out⟩

/-! ### Check -/
def eD : Bool → Int
  | true => 0
  | false => 30
/-- How many bytes are there behind a write. -/
def nstep (s : Nat) (p : HP) : Nat := if p.sw then p.n else s + p.n
theorem step_len {b : List UInt8} {p : HP} (h : p.d.length = p.n) : (Dp.step b p.put).length = nstep b.length p := by
  unfold Dp.step nstep HP.put
  cases p.sw <;> simp [h]
theorem take_map_next {l : List HP} {k : Nat} {p : HP} (h : l[k]? = some p) : (l.take (k + 1)).map HP.put = (l.take k).map HP.put ++ [p.put] := by
  rw [List.take_add_one, h]
  simp
theorem fits_next {b : List UInt8} {l : List HP} {k : Nat} {p : HP} (h : l[k]? = some p) (hf : Dp.fits b ((l.take k).map HP.put) = true) (hn : p.d.length = p.n) :
    Dp.fits b ((l.take (k + 1)).map HP.put) = decide (nstep (Dp.done b ((l.take k).map HP.put)).length p ≤ 1048576) := by
  rw [take_map_next h, Dp.fits_append, hf, Bool.true_and, step_len hn]
theorem done_next {b : List UInt8} {l : List HP} {k : Nat} {p : HP} (h : l[k]? = some p) : Dp.done b ((l.take (k + 1)).map HP.put) = Dp.step (Dp.done b ((l.take k).map HP.put)) p.put := by
  rw [take_map_next h, Dp.done_append]
  rfl
theorem done_next_len {b : List UInt8} {l : List HP} {k : Nat} {p : HP} (h : l[k]? = some p) (hn : p.d.length = p.n) : (Dp.done b ((l.take (k + 1)).map HP.put)).length = nstep (Dp.done b ((l.take k).map HP.put)).length p := by
  rw [done_next h, step_len hn]
theorem fits_all {b : List UInt8} {l : List HP} {k : Nat} (hk : Dp.fits b ((l.take k).map HP.put) = false) : Dp.fits b (l.map HP.put) = false := by
  cases h : Dp.fits b (l.map HP.put) with
  | false => rfl
  | true =>
    have := Dp.fits_take h k
    rw [← List.map_take, hk] at this
    cases this

theorem check_any (D : HD) (w : World) (b : Bool) (hb : Dp.mayD D.disk = b) (h : DiskAt w w.heap.size D) :
    Calls Try.prog 25 #[.agg #[.slice D.A D.n D.c, .slice D.WA D.Wn D.Wc]] w fun e w' => e = .returned (.int .i64 (eD b)) ∧ Below w.heap.size w w' := by
  obtain ⟨A, n, c, d, WA, Wn, Wc, l⟩ := D
  have hlen := h.len_l
  have hdl := h.len_d
  have hlim := h.lim
  have hwlim := h.wlim
  simp only at hlen hdl hlim hwlim
  have HH := Lib.hid h
  have HB := Lib.hid hb
  clear h hb
  by_cases z : Wn ≤ 1024
  case neg =>
    obtain rfl : b = false := by
      rw [← HB.out, Dp.mayD, HD.disk]
      simp only [List.length_map, hlen]
      rw [decide_eq_false (by omega)]
      rfl
    have z1 : (1024 : Int) < (Wn : Int) := by omega
    clear hlen hdl
    go_enter Try.func25, Try.ntmps25
    go_wp2
    go_ret
    exact ⟨rfl, (Below.refl _ w).alloc (Nat.le_refl _) _⟩
  have z1 : ¬ (1024 : Int) < (Wn : Int) := by omega
  by_cases zd : n ≤ 1048576
  case neg =>
    obtain rfl : b = false := by
      rw [← HB.out, Dp.mayD, HD.disk]
      cases hf : Dp.fits d (l.map HP.put) with
      | false => simp
      | true => exact absurd (Dp.fits_first hf) (by omega)
    have z2 : (1048576 : Int) < (n : Int) := by omega
    clear hlen hdl
    go_enter Try.func25, Try.ntmps25
    go_wp2
    go_ret
    exact ⟨rfl, (Below.refl _ w).alloc (Nat.le_refl _) _⟩
  have z2 : ¬ (1048576 : Int) < (n : Int) := by omega
  have HF : Hid (Dp.fits d (l.map HP.put) = b) := by
    rw [Hid, ← HB.out, Dp.mayD, HD.disk]
    simp only [List.length_map, hlen]
    rw [decide_eq_true (by omega)]
    rfl
  have HL := Lib.hid hlen
  have HD' := Lib.hid hdl
  clear hlen hdl
  go_enter Try.func25, Try.ntmps25
  go_wp2
  go_loopw [3, 18] (fun x y wr => ∃ (k s : Nat), y = .int .i64 (k : Int) ∧ k ≤ Wn ∧ x = .int .i64 (s : Int) ∧ s ≤ 1048576 ∧ s = (Dp.done d ((l.take k).map HP.put)).length ∧ Dp.fits d ((l.take k).map HP.put) = true ∧ Below w.heap.size w wr) (fun _ y _ => Wn - (intOf y).toNat)
  case atStart => exact ⟨0, n, rfl, Nat.zero_le _, rfl, zd, by simp [Dp.done, HD'.out], by simp [Dp.fits, HD'.out, zd], (Below.refl _ w).alloc (Nat.le_refl _) _⟩
  case round =>
    obtain ⟨k, s, rfl, hk, rfl, hs, hse, hf, hb⟩ := hrel
    have HSE := Lib.hid hse
    have HFK := Lib.hid hf
    have HB1 := Lib.hid hb
    clear hse hf hb
    by_cases hlt : k < Wn
    · obtain ⟨g, off, p, e, hg, hm, hc⟩ := (HH.out.below HB1.out).rw_.hput hlt
      have hp' := List.mem_of_getElem? hm
      have hpn := HH.out.len_p hp'
      have hpl := (HH.out.all p hp').2.2.2
      simp only at e
      subst e
      obtain ⟨sw, pA, pn, pc, pd⟩ := p
      simp only at hpl hpn
      have HC : Hid (wr.rangeAt g (off + k * 2) [.bool sw, .slice pA pn pc]) := Lib.hid hc
      have HM := Lib.hid hm
      have HPN := Lib.hid hpn
      have HSt : Hid (Dp.fits d ((l.take (k + 1)).map HP.put) = decide (nstep s ⟨sw, pA, pn, pc, pd⟩ ≤ 1048576)) := by
        rw [Hid, fits_next HM.out HFK.out HPN.out, ← HSE.out]
      have HSl : Hid ((Dp.done d ((l.take (k + 1)).map HP.put)).length = nstep s ⟨sw, pA, pn, pc, pd⟩) := by
        rw [Hid, done_next_len HM.out HPN.out, ← HSE.out]
      have HIN : Hid (nstep s ⟨sw, pA, pn, pc, pd⟩ ≤ 1048576 → Dp.fits d ((l.take (k + 1)).map HP.put) = true) := fun q => by rw [HSt.out]; exact decide_eq_true q
      have HOUT : Hid (¬ nstep s ⟨sw, pA, pn, pc, pd⟩ ≤ 1048576 → b = false) := fun q => by
        rw [← HF.out]
        exact fits_all (by rw [HSt.out]; exact decide_eq_false q)
      clear hc hm hpn hp' HSE HFK HSt
      have B2 := Lib.hid (HB1.out.alloc HB1.out.size (.cells #[.bool sw, .slice pA pn pc] 42))
      cases sw with
      | true =>
        have HN : Hid (nstep s ⟨true, pA, pn, pc, pd⟩ = pn) := rfl
        by_cases zz : pn ≤ 1048576
        · have z3 : ¬ (1048576 : Int) < (pn : Int) := by omega
          go_wp2_with (first | (with_reducible refine wpList_load_mid rfl _ _ rfl _ _ rfl _ _ HC.out Try.underlying42 rfl (by kernel_rfl) ?_) | fail)
          go_wp2
          go_roundw
          case rel => exact ⟨k + 1, pn, by go_num, by omega, rfl, zz, by rw [HSl.out, HN.out], HIN.out (by rw [HN.out]; exact zz), B2.out⟩
          case measure => simp [intOf]; omega
        · have z3 : (1048576 : Int) < (pn : Int) := by omega
          have HE := HOUT.out (by rw [HN.out]; exact zz)
          have HE2 := Lib.hid HE
          clear HE
          go_wp2_with (first | (with_reducible refine wpList_load_mid rfl _ _ rfl _ _ rfl _ _ HC.out Try.underlying42 rfl (by kernel_rfl) ?_) | fail)
          go_wp2
          go_ret
          rw [HE2.out]
          exact ⟨rfl, B2.out⟩
      | false =>
        have HN : Hid (nstep s ⟨false, pA, pn, pc, pd⟩ = s + pn) := rfl
        by_cases zz : s + pn ≤ 1048576
        · have z3 : ¬ (1048576 : Int) < (s : Int) + (pn : Int) := by omega
          go_wp2_with (first | (with_reducible refine wpList_load_mid rfl _ _ rfl _ _ rfl _ _ HC.out Try.underlying42 rfl (by kernel_rfl) ?_) | fail)
          go_wp2
          go_roundw
          case rel => exact ⟨k + 1, s + pn, by go_num, by omega, by go_num, zz, by rw [HSl.out, HN.out], HIN.out (by rw [HN.out]; exact zz), B2.out⟩
          case measure => simp [intOf]; omega
        · have z3 : (1048576 : Int) < (s : Int) + (pn : Int) := by omega
          have HE := HOUT.out (by rw [HN.out]; exact zz)
          have HE2 := Lib.hid HE
          clear HE
          go_wp2_with (first | (with_reducible refine wpList_load_mid rfl _ _ rfl _ _ rfl _ _ HC.out Try.underlying42 rfl (by kernel_rfl) ?_) | fail)
          go_wp2
          go_ret
          rw [HE2.out]
          exact ⟨rfl, B2.out⟩
    · have HE : Hid (b = true) := by
        have e1 : l.take k = l := List.take_of_length_le (by rw [HL.out]; omega)
        have h1 := HFK.out
        rw [e1, HF.out] at h1
        exact h1
      go_wp2
      go_ret
      rw [HE.out]
      exact ⟨rfl, HB1.out⟩
end Go.Proofs.Ythmbjmknifkbaaa
