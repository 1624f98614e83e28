/-
  Layer 3, the reference: Same (of two disks that are the same), Great.
-/
import Derived.Test.YthmbjmknifkbaaaDiskRefA
namespace Go.Proofs.Ythmbjmknifkbaaa
open Go.RowKit
set_option maxHeartbeats 4000000
set_option maxRecDepth 100000
set_option linter.unusedVariables false
set_option linter.unusedSimpArgs false

theorem conv_b {w : World} {B n c : Nat} {A : Option Addr} {l : List UInt8} (h : Reads w B 1 A n (cb l)) : (convert 22 9 (.slice A n c)).run Try.prog w = .ok (.string (S l)) w :=
  run_conv Try.underlying22 Try.underlying5 Try.underlying9 h

theorem rsame_yes (D E : HD) (w : World) (h : DiskAt w w.heap.size D) (k : DiskAt w w.heap.size E) (he : D.disk = E.disk) :
    Calls Try.prog 13 #[.agg #[.slice D.A D.n D.c, .slice D.WA D.Wn D.Wc], .agg #[.slice E.A E.n E.c, .slice E.WA E.Wn E.Wc]] w fun e w' => e = .returned (.bool true) ∧ Below w.heap.size w w' := by
  obtain ⟨A, n, c, d, WA, Wn, Wc, l⟩ := D
  obtain ⟨A', n', c', d', WA', Wn', Wc', l'⟩ := E
  have h1 : d = d' := congrArg (fun x : Dp.Disk => x.data) he
  have h2 : l.map HP.put = l'.map HP.put := congrArg (fun x : Dp.Disk => x.wait) he
  have h3 : l.length = Wn := h.len_l
  have h4 : l'.length = Wn' := k.len_l
  have h5 : l.length = l'.length := by have := congrArg List.length h2; simpa using this
  obtain rfl : Wn = Wn' := by omega
  subst h1
  simp only
  have hz : w.heap.size + 1 < w.heap.size + 2 := by omega
  have HD0 := Lib.hid h
  have HE0 := Lib.hid k
  have HL := Lib.hid h2
  have HW : Hid (((w.alloc (.cells #[.slice A n c, .slice WA Wn Wc] 25)).alloc (.cells #[.slice A' n' c', .slice WA' Wn Wc'] 25)).heap.size = w.heap.size + 2) := by rw [Hid]; simp
  have B0 := Lib.hid (((Below.refl _ w).alloc (Nat.le_refl w.heap.size) (.cells #[.slice A n c, .slice WA Wn Wc] 25)).alloc (by simp) (.cells #[.slice A' n' c', .slice WA' Wn Wc'] 25))
  have KD := Lib.hid ((Blk.new w 25 #[.slice A n c, .slice WA Wn Wc]).alloc (.cells #[.slice A' n' c', .slice WA' Wn Wc'] 25))
  have KE := Lib.hid (Blk.newAt (w := w.alloc (.cells #[.slice A n c, .slice WA Wn Wc] 25)) (g := w.heap.size + 1) (by simp) 25 #[.slice A' n' c', .slice WA' Wn Wc'])
  have hwlim : Wn ≤ 140737488351232 := h.wlim
  clear h k he h2 h3 h4 h5
  have v1 := conv_b (c := c) (HD0.out.rd.below B0.out)
  have v2 := conv_b (c := c') (HE0.out.rd.below B0.out)
  have y1 := KD.out.cell 1
  have x1 := KE.out.cell 1
  go_enter Try.func13, Try.ntmps13
  go_wp2
  generalize (w.alloc (.cells #[.slice A n c, .slice WA Wn Wc] 25)).alloc (.cells #[.slice A' n' c', .slice WA' Wn Wc'] 25) = W at *
  go_loopw [5] (fun y wr => ∃ k : Nat, y = .int .i64 (k : Int) ∧ k ≤ Wn ∧ ∃ q, wr = W.drewN q) (fun y _ => Wn - (intOf y).toNat)
  case atStart => exact ⟨0, rfl, by omega, 0, rfl⟩
  case round =>
    obtain ⟨k, rfl, hk, q, rfl⟩ := hrel
    by_cases hlt : k < Wn
    · obtain ⟨g, off, p, e, hg, hmm, hc⟩ := (HD0.out.rw_.below B0.out).hput hlt
      obtain ⟨g', off', p', e', hg', hmm', hc'⟩ := (HE0.out.rw_.below B0.out).hput hlt
      have hpa := ((HD0.out.below B0.out).all p (List.mem_of_getElem? hmm)).1
      have hpa' := ((HE0.out.below B0.out).all p' (List.mem_of_getElem? hmm')).1
      have hpp : p.put = p'.put := by
        have h1 := congrArg (fun x => x[k]?) HL.out
        simp only [List.getElem?_map] at h1
        rw [show l[k]? = some p from hmm, show l'[k]? = some p' from hmm'] at h1
        simpa using h1
      simp only at e e'
      subst e
      subst e'
      obtain ⟨sw, pA, pn, pc, pd⟩ := p
      obtain ⟨sw', pA', pn', pc', pd'⟩ := p'
      obtain rfl : sw = sw' := congrArg Dp.Put.sw hpp
      obtain rfl : pd = pd' := congrArg Dp.Put.d hpp
      have c0 := hc 0 _ rfl
      have c1 := hc 1 _ rfl
      have c0' := hc' 0 _ rfl
      have c1' := hc' 1 _ rfl
      rw [Nat.add_zero] at c0 c0'
      have u1 := fun q => conv_b (w := W.drewN q) (c := pc) (hpa.drewN q)
      have u2 := fun q => conv_b (w := W.drewN q) (c := pc') (hpa'.drewN q)
      clear hc hc' hpp hpa hpa' hmm hmm'
      go_wp2_with fail
      go_quiet (fail)
      go_wp2
      go_roundw
      case rel => exact ⟨k + 1, by go_num, by omega, _, rfl⟩
      case measure => simp [intOf]; omega
    · go_wp2
      go_ret
      exact ⟨rfl, below_drewN B0.out q⟩

/-! ### Great -/
def tm (l : List HP) : Nat := (l.map fun p => min p.d.length 2000000).sum
theorem tm_next {l : List HP} {k : Nat} {p : HP} (h : l[k]? = some p) : tm (l.take (k + 1)) = tm (l.take k) + min p.d.length 2000000 := by
  unfold tm
  rw [List.take_add_one, h]
  simp
theorem tm_le : ∀ (l : List HP), tm l ≤ l.length * 2000000
  | [] => by simp [tm]
  | p :: l => by
    have := tm_le l
    simp only [tm, List.map_cons, List.sum_cons, List.length_cons] at this ⊢
    omega
theorem tm_tn : ∀ (l : List HP), (∀ p ∈ l, p.d.length ≤ 140737488351232) → tm l ≤ 2000000 → tn l = tm l ∨ (tm l = 2000000 ∧ tn l ≤ 140737488351232)
  | [], _, _ => Or.inl rfl
  | p :: l, h, k => by
    have h0 := h p List.mem_cons_self
    have e1 : tm (p :: l) = min p.d.length 2000000 + tm l := by simp [tm]
    have e2 : tn (p :: l) = p.d.length + tn l := by simp [tn]
    rw [e1] at k ⊢
    rw [e2]
    have ih := tm_tn l (fun q hq => h q (List.mem_cons_of_mem _ hq)) (by omega)
    omega
def GreatD (D : HD) (e : Ending) : Prop := ∃ r, e = .returned (.bool r) ∧ (r = false → Sm D.disk ∧ D.Wn ≤ 1200 ∧ D.n ≤ 2000000)
theorem rgreat_any (D : HD) (w : World) (h : DiskAt w w.heap.size D) :
    Calls Try.prog 4 #[.agg #[.slice D.A D.n D.c, .slice D.WA D.Wn D.Wc]] w fun e w' => GreatD D e ∧ Below w.heap.size w w' := by
  have hlen := h.len_l
  have hlim := h.lim
  have hwlim := h.wlim
  have HD0 := Lib.hid h
  have HL := Lib.hid hlen
  have B0 := Lib.hid ((Below.refl _ w).alloc (Nat.le_refl w.heap.size) (.cells #[.slice D.A D.n D.c, .slice D.WA D.Wn D.Wc] 25))
  have K0 := Lib.hid (Blk.new w 25 #[.slice D.A D.n D.c, .slice D.WA D.Wn D.Wc])
  have HP0 : Hid (∀ p ∈ D.l, p.d.length ≤ 140737488351232) := fun p hp => by rw [h.len_p hp]; exact (h.all p hp).2.2.2
  clear h hlen
  have y1 := K0.out.cell 1
  go_enter Try.func4, Try.ntmps4
  go_wp2
  generalize w.alloc (.cells #[.slice D.A D.n D.c, .slice D.WA D.Wn D.Wc] 25) = W at *
  go_loopw [3, 4] (fun x y wr => ∃ k s : Nat, y = .int .i64 (k : Int) ∧ x = .int .i64 ((D.n + s : Nat) : Int) ∧ k ≤ D.Wn ∧ k ≤ 2000 ∧ s ≤ k * 2000000 ∧ tm (D.l.take k) = s ∧ wr = W) (fun _ y _ => D.Wn - (intOf y).toNat)
  case atStart => exact ⟨0, 0, rfl, by go_num, by omega, by omega, by omega, by simp [tm], rfl⟩
  case round =>
    obtain ⟨k, s, rfl, rfl, hk, hk2, hs, ht, rfl⟩ := hrel
    have HT := Lib.hid ht
    clear ht
    by_cases hlt : k < D.Wn
    · by_cases hlt2 : k < 2000
      · obtain ⟨g, off, p, e, hg, hmm, hc⟩ := (HD0.out.rw_.below B0.out).hput hlt
        have hp' := List.mem_of_getElem? hmm
        have hpn := HD0.out.len_p hp'
        have hpl := (HD0.out.all p hp').2.2.2
        have htn := tm_next hmm
        obtain ⟨sw, pA, pn, pc, pd⟩ := p
        simp only at hpn hpl htn
        rw [hpn, HT.out] at htn
        have HN := Lib.hid htn
        have c1 := hc 1 _ rfl
        clear hc hmm hp' hpn htn
        by_cases hz : pn ≤ 2000000
        · have hz1 : (pn : Int) ≤ 2000000 := by omega
          have hz2 : ¬ 2000000 < pn := by omega
          have hz3 : ¬ (2000000 : Int) < (pn : Int) := by omega
          go_wp2
          go_roundw
          case rel => exact ⟨k + 1, s + pn, by go_num, by go_num, by omega, by omega, by omega, by rw [HN.out]; omega, by trivial⟩
          case measure => simp [intOf]; omega
        · have hz1 : ¬ (pn : Int) ≤ 2000000 := by omega
          have hz2 : 2000000 < pn := by omega
          have hz3 : (2000000 : Int) < (pn : Int) := by omega
          go_wp2
          go_roundw
          case rel => exact ⟨k + 1, s + 2000000, by go_num, congrArg (Value.int .i64) (by omega), by omega, by omega, by omega, by rw [HN.out]; omega, by trivial⟩
          case measure => simp [intOf]; omega
      · have d1 : decide ((1200 : Int) < (D.Wn : Int)) = true := decide_eq_true (by omega)
        go_wp2
        all_goals (go_ret; exact ⟨⟨true, rfl, by intro h; cases h⟩, B0.out⟩)
    · have HF : Hid (D.n + s ≤ 2000000 → D.Wn ≤ 1200 → Sm D.disk ∧ D.Wn ≤ 1200 ∧ D.n ≤ 2000000) := by
        intro q1 q2
        have ht := HT.out
        rw [List.take_of_length_le (by rw [HL.out]; omega)] at ht
        have h1 := tm_tn D.l HP0.out (by omega)
        refine ⟨⟨?_, by rw [HD.disk]; simp only [List.length_map, HL.out]; omega⟩, q2, by omega⟩
        simp only [HD.disk, List.map_map]
        rw [HD0.out.len_d]
        show D.n + tn D.l ≤ _
        omega
      by_cases hb : (2000000 : Int) < (D.n : Int) + (s : Int)
      · have d1 : decide ((2000000 : Int) < (D.n : Int) + (s : Int)) = true := decide_eq_true hb
        go_wp2
        all_goals (go_ret; exact ⟨⟨true, rfl, by intro h; cases h⟩, B0.out⟩)
      · have d1 : decide ((2000000 : Int) < (D.n : Int) + (s : Int)) = false := decide_eq_false hb
        by_cases hb2 : (1200 : Int) < (D.Wn : Int)
        · have d2 : decide ((1200 : Int) < (D.Wn : Int)) = true := decide_eq_true hb2
          go_wp2
          all_goals (go_ret; exact ⟨⟨true, rfl, by intro h; cases h⟩, B0.out⟩)
        · have d2 : decide ((1200 : Int) < (D.Wn : Int)) = false := decide_eq_false hb2
          have HF2 := Lib.hid (HF.out (by omega) (by omega))
          go_wp2
          all_goals (go_ret; exact ⟨⟨false, rfl, fun _ => HF2.out⟩, B0.out⟩)
end Go.Proofs.Ythmbjmknifkbaaa
