/-
  Layer 7: VoteHolds' walk: behind a promise nothing of a lesser ballot is accepted.
-/
import Derived.Test.YtaajfilecmgcnaaVoteRises
import Derived.Deep.DeepCutAuto
import Derived.Deep.RegionHeld3
namespace Go.Proofs.Ytaajfilecmgcnaa
open Go.RowKit Bal
set_option maxHeartbeats 1000000
set_option maxRecDepth 100000
set_option linter.unusedVariables false

/-- What an answer to a vote of at least b says: one of at least b, or no. -/
def VoteOut (b p q : Int) (s : ByteArray) (x : Int) : Prop := (x = 0 ∧ b ≤ p ∧ IsVote p q s) ∨ (x == 0) = false
theorem vprep_or (b p q : Int) (s : ByteArray) (z : Int) (w : World) (hv : IsVote p q s) (hz : -9223372036854775808 ≤ z ∧ z ≤ 9223372036854775807) (hb : b ≤ p) :
    Calls Try.prog 17 #[.agg #[.int .i64 p, .int .i64 q, .string s], .int .i64 z] w fun e w' => ∃ p' q' s' x, e = .returned (.tuple #[.agg #[.int .i64 p', .int .i64 q', .string s'], .int .i64 x]) ∧ VoteOut b p' q' s' x ∧ Below w.heap.size w w' := by
  obtain ⟨hs, ⟨p1, p2⟩, q1, q2⟩ := hv
  by_cases h : askE p q s z ⟨#[]⟩ = 0
  · refine (vprep_ok p q s z w hs p1 p2 q1 q2 hz.1 hz.2 h).mono ?_
    rintro e w' ⟨rfl, hb'⟩
    obtain ⟨_, _, _, h4⟩ := askE_zero h
    exact ⟨z, q, s, 0, rfl, Or.inl ⟨rfl, by omega, hs, hz, q1, q2⟩, hb'⟩
  · refine (vprep_bad p q s z w hs p1 p2 q1 q2 hz.1 hz.2 _ rfl h).mono ?_
    rintro e w' ⟨rfl, hb'⟩
    exact ⟨0, 0, ⟨#[]⟩, _, rfl, Or.inr (by simpa using h), hb'⟩
theorem vacc_or (b p q : Int) (s : ByteArray) (z : Int) (t : ByteArray) (w : World) (hv : IsVote p q s) (hz : -9223372036854775808 ≤ z ∧ z ≤ 9223372036854775807) (ht : t.size ≤ 9223372036854775807) (hb : b ≤ p) :
    Calls Try.prog 16 #[.agg #[.int .i64 p, .int .i64 q, .string s], .int .i64 z, .string t] w fun e w' => ∃ p' q' s' x, e = .returned (.tuple #[.agg #[.int .i64 p', .int .i64 q', .string s'], .int .i64 x]) ∧ VoteOut b p' q' s' x ∧ Below w.heap.size w w' := by
  obtain ⟨hs, ⟨p1, p2⟩, q1, q2⟩ := hv
  by_cases h : askE p q s z t = 0
  · refine (vacc_ok p q s z t w hs ht p1 p2 q1 q2 hz.1 hz.2 h).mono ?_
    rintro e w' ⟨rfl, hb'⟩
    obtain ⟨_, _, _, h4⟩ := askE_zero h
    exact ⟨z, z, t, 0, rfl, Or.inl ⟨rfl, by omega, ht, hz, hz⟩, hb'⟩
  · refine (vacc_bad p q s z t w hs ht p1 p2 q1 q2 hz.1 hz.2 _ rfl h).mono ?_
    rintro e w' ⟨rfl, hb'⟩
    exact ⟨0, 0, ⟨#[]⟩, _, rfl, Or.inr (by simpa using h), hb'⟩
/-- A lesser ballot is refused. -/
theorem askE_less {p q z : Int} {s t : ByteArray} (h : z < p) : askE p q s z t ≠ 0 := fun h2 => (askE_zero h2).2.2.2 h

/-- What the round's drawn statements keep: the vote x in its block, the number that is asked, memory of before. -/
def HSt (w : World) (g : Nat) (p q : Int) (s : ByteArray) (a : Addr) (z : Int) (w' : World) : Prop := Vb w' g p q s ∧ w'.cell? a = some (.int .i64 z) ∧ Below w.heap.size w w' ∧ a.block < w.heap.size ∧ w.heap.size ≤ g
theorem HSt.all {w w' : World} {g : Nat} {p q : Int} {s : ByteArray} {a : Addr} {z : Int} (h : HSt w g p q s a z w') :
    w'.cell? ⟨g, 0, none⟩ = some (.int .i64 p) ∧ w'.cell? ⟨g, 1, none⟩ = some (.int .i64 q) ∧ w'.cell? ⟨g, 2, none⟩ = some (.string s) ∧ w'.cell? a = some (.int .i64 z) ∧ HSt w g p q s a z w' :=
  ⟨h.1.use.1, h.1.use.2.1, h.1.use.2.2.1, h.2.1, h⟩
theorem HSt.drew {w w' : World} {g : Nat} {p q : Int} {s : ByteArray} {a : Addr} {z : Int} (h : HSt w g p q s a z w') : HSt w g p q s a z w'.drew := ⟨h.1, h.2.1, h.2.2.1.drew, h.2.2.2⟩
theorem HSt.next {w w' w'' : World} {g : Nat} {p q : Int} {s : ByteArray} {a : Addr} {z : Int} (h : HSt w g p q s a z w') (hb : Below w'.heap.size w' w'') : HSt w g p q s a z w'' := by
  obtain ⟨h1, h2, h3, h4, h5⟩ := h
  refine ⟨h1.kept hb, ?_, h3.trans (hb.mono h3.size), h4, h5⟩
  rw [hb.cell (Nat.lt_of_lt_of_le h4 h3.size)]
  exact h2
theorem HSt.alloc {w w' : World} {g : Nat} {p q : Int} {s : ByteArray} {a : Addr} {z : Int} (h : HSt w g p q s a z w') (o : Obj) : HSt w g p q s a z (w'.alloc o) := h.next ((Below.refl _ _).alloc (Nat.le_refl _) o)

theorem HSt.set {w w' : World} {g : Nat} {p q : Int} {s : ByteArray} {a : Addr} {z : Int} (h : HSt w g p q s a z w') {x : Addr} (h1 : g ≠ x.block) (h2 : w.heap.size ≤ x.block) (u : Value) : HSt w g p q s a z (w'.setCell x u) := by
  obtain ⟨k1, k2, k3, k4, k5⟩ := h
  refine ⟨Blk.far k1 h1 u, ?_, k3.setCell h2 u, k4, k5⟩
  rw [World.cell?_setCell_other _ _ _ _ (fun e => by subst e; omega)]
  exact k2
theorem HSt.lt {w w' : World} {g : Nat} {p q : Int} {s : ByteArray} {a : Addr} {z : Int} (h : HSt w g p q s a z w') : g < w'.heap.size := Blk.lt h.1

def HoldRel (g n : Nat) (b : Int) (w : World) (y : Value) (wr : World) : Prop :=
  ∃ (i : Nat) (p q : Int) (s : ByteArray), y = .int .i64 (i : Int) ∧ i ≤ n ∧ Vb wr g p q s ∧ b ≤ p ∧ IsVote p q s ∧ Below w.heap.size w wr

theorem voteHolds_walk (p q : Int) (s : ByteArray) (b : Int) (A : Option Addr) (n c : Nat) (l : List Int) (less : Int) (t : ByteArray) (w : World) (hv : IsVote p q s) (hb : -9223372036854775808 ≤ b ∧ b ≤ 9223372036854775807) (hi : IsInts w A n c l) (hl : -9223372036854775808 ≤ less ∧ less ≤ 9223372036854775807) (ht : t.size ≤ maxLen) :
    Calls Try.prog 7 #[.agg #[.int .i64 p, .int .i64 q, .string s], .int .i64 b, .slice A n c, .int .i64 less, .string t] w fun e w' => e = .returned (.bool true) ∧ Below w.heap.size w w' := by
  have hv' := hv
  obtain ⟨hs, ⟨p1, p2⟩, q1, q2⟩ := hv'
  obtain ⟨b1, b2⟩ := hb
  obtain ⟨hr, hc, hm, h64⟩ := hi
  unfold maxLen at ht hm
  have HR := Lib.hid hr
  have H64 := Lib.hid h64
  have HLESS := Lib.hid hl
  clear hr h64 hl
  by_cases h1 : askE p q s b ⟨#[]⟩ = 0
  · have H1 := Lib.hid h1
    clear h1
    go_enter Try.func7, Try.ntmps7
    go_wp2_with fail
    refine (alive07 _).mono ?_
    rintro e w1 ⟨rfl, hb1⟩
    have K0 := Lib.hid (Vb.new hb1)
    have B1 := Lib.hid (below_of_alloc (hb1.mono (B' := w.heap.size) (by simp)) (Nat.le_refl _))
    clear hb1
    obtain ⟨c00, c01, c02, n0, l0⟩ := K0.out.use
    go_wp2_with fail
    refine (vprep_ok p q s b _ hs p1 p2 q1 q2 b1 b2 H1.out).mono ?_
    rintro e w2 ⟨rfl, hb2⟩
    have B2 := Lib.hid (B1.out.trans (hb2.mono (B' := w.heap.size) B1.out.size))
    clear hb2 c00 c01 c02 n0 l0
    by_cases hbig : 100 < n
    · go_wp2
      go_ret
      exact ⟨rfl, B2.out.alloc B2.out.size _⟩
    · go_wp2_with fail
      go_loopw [14] (fun y wr => HoldRel w2.heap.size n b w y wr) (fun y _ => n - (intOf y).toNat)
      case atStart => exact ⟨0, b, q, s, rfl, by omega, Blk.new _ _ _, Int.le_refl _, ⟨hs, ⟨b1, b2⟩, q1, q2⟩, B2.out.alloc B2.out.size _⟩
      case round =>
        obtain ⟨i, px, qx, sx, rfl, hi, hvb, hbp, hvx, hbl⟩ := hrel
        by_cases hlt : i < n
        · obtain ⟨ad, u, rfl, hadb, hu, hcz⟩ := (HR.out.below hbl).at_ hlt
          have hll := HR.out.len_i
          have hg : l[i]? = some (l[i]'(by omega)) := List.getElem?_eq_getElem (by omega)
          rw [ci_get, hg] at hu
          simp only [Option.map_some, Option.some.injEq] at hu
          subst hu
          have hz := H64.out _ (List.getElem_mem (l := l) (n := i) (by omega))
          obtain ⟨z, hzz⟩ : ∃ z, l[i]'(by omega) = z := ⟨_, rfl⟩
          rw [hzz] at hz hcz
          clear hzz hg hll
          have KX := Lib.hid hvb
          have BL := Lib.hid hbl
          have HV := Lib.hid hvx
          have HZ := Lib.hid hz
          have HS : Hid (HSt w w2.heap.size px qx sx (ad.add i) z wr) := ⟨hvb, hcz, hbl, by rw [block_of_add]; exact hadb, B2.out.size⟩
          clear hvb hbl hvx hz hcz
          have hgl := HS.out.lt
          have hwl := BL.out.size
          go_upto_region 10 with fail
          go_cut [15, 16] (fun s15 s16 wx => ∃ (gy : Nat) (p' q' : Int) (s' : ByteArray) (x : Int), s15 = .pointer (some ⟨gy, 0, none⟩) ∧ s16 = .int .i64 x ∧ Vb wx gy p' q' s' ∧ w2.heap.size < gy ∧ VoteOut b p' q' s' x ∧ HSt w w2.heap.size px qx sx (ad.add i) z wx)
          case first =>
            go_region_held3 (fun w' => w'.cell? ⟨w2.heap.size, 0, none⟩ = some (.int .i64 px) ∧ w'.cell? ⟨w2.heap.size, 1, none⟩ = some (.int .i64 qx) ∧ w'.cell? ⟨w2.heap.size, 2, none⟩ = some (.string sx) ∧ w'.cell? (ad.add i) = some (.int .i64 z) ∧ HSt w w2.heap.size px qx sx (ad.add i) z w') (first | ((refine HSt.all ?_); (repeat (first | exact HS.out | refine HSt.drew ?_ | refine HSt.alloc ?_ _ | refine HSt.next ?_ (by assumption) | refine HSt.set ?_ (by simp; omega) (by simp; omega) _)); done) | (trace_state; fail)) (first | (go_at_call 16; refine (vacc_or b px qx sx z t _ HV.out HZ.out ht hbp).mono ?_; rintro e w' ⟨p', q', s', x, rfl, hout, hbq⟩; have hbc := (bcell hbq).1; have hbf := (bcell hbq).2; have hbs := hbq.size))
            all_goals (go_wp2_with fail; go_meet)
            all_goals refine ⟨_, p', q', s', x, rfl, rfl, ?_, ?_, hout, (by assumption : _ ∧ _ ∧ _ ∧ _ ∧ HSt w w2.heap.size px qx sx (ad.add i) z _).2.2.2.2⟩
            · exact Blk.new _ _ _
            · simp at hbs; omega
            · exact Vb.store (Blk.below ((Blk.new wr _ _).drew) hbq (by simp)) p' q' s'
            · exact hgl
          case rest =>
            obtain ⟨gy, py, qy, sy, xy, rfl, rfl, hvy, hgy, hout, hst⟩ := hcut
            have HY := Lib.hid hvy
            have HO := Lib.hid hout
            have HS2 := Lib.hid hst
            have hw2 := B2.out.size
            clear hvy hout hst
            go_upto_if 56 with fail
            go_cut [16] (fun s16 wx => ∃ (p' q' : Int) (s' : ByteArray) (x : Int), s16 = .int .i64 x ∧ Vb wx gy p' q' s' ∧ VoteOut b p' q' s' x ∧ HSt w w2.heap.size px qx sx (ad.add i) z wx)
            case first =>
              by_cases hodd : i % 2 = 1
              · have ho1 : (((i : Int) % 2) == 1) = true := by simp; omega
                obtain ⟨y0, y1, y2, ny, ly⟩ := HY.out.use
                obtain ⟨f0, f1, f2⟩ := HY.out.froze
                go_wp2_with fail
                go_region_held3 (fun w' => w'.cell? ⟨w2.heap.size, 0, none⟩ = some (.int .i64 px) ∧ w'.cell? ⟨w2.heap.size, 1, none⟩ = some (.int .i64 qx) ∧ w'.cell? ⟨w2.heap.size, 2, none⟩ = some (.string sx) ∧ w'.cell? (ad.add i) = some (.int .i64 z) ∧ HSt w w2.heap.size px qx sx (ad.add i) z w') (first | ((refine HSt.all ?_); (repeat (first | exact HS2.out | refine HSt.drew ?_ | refine HSt.alloc ?_ _ | refine HSt.next ?_ (by assumption) | refine HSt.set ?_ (by simp; omega) (by simp; omega) _)); done) | (trace_state; fail)) (first | (go_at_call 17; refine (vprep_or b px qx sx z _ HV.out HZ.out hbp).mono ?_; rintro e w' ⟨p', q', s', x, rfl, hout, hbq⟩; have yy0 := (hbq.cell (p := ⟨gy, 0, none⟩) (by simpa using ly)).trans y0; have yy1 := (hbq.cell (p := ⟨gy, 1, none⟩) (by simpa using ly)).trans y1; have yy2 := (hbq.cell (p := ⟨gy, 2, none⟩) (by simpa using ly)).trans y2; have ff0 := (hbq.frozen (p := ⟨gy, 0, none⟩) (by simpa using ly)).trans f0; have ff1 := (hbq.frozen (p := ⟨gy, 1, none⟩) (by simpa using ly)).trans f1; have ff2 := (hbq.frozen (p := ⟨gy, 2, none⟩) (by simpa using ly)).trans f2))
                all_goals (go_wp2_with fail; go_meet)
                all_goals exact ⟨p', q', s', x, rfl, Vb.store (Blk.below (Blk.drew HY.out) hbq (by simpa using ly)) p' q' s', hout, (by assumption : _ ∧ _ ∧ _ ∧ _ ∧ HSt w w2.heap.size px qx sx (ad.add i) z _).2.2.2.2⟩
              · have ho1 : (((i : Int) % 2) == 1) = false := by simp; omega
                go_wp2_with fail
                go_meet
                exact ⟨py, qy, sy, xy, rfl, HY.out, HO.out, HS2.out⟩
            case rest =>
              obtain ⟨pz, qz, sz, xz, rfl, hvz, hoz, hsz⟩ := hcut
              have HZV := Lib.hid hvz
              have HSZ := Lib.hid hsz
              obtain ⟨y0, y1, y2, ny, ly⟩ := hvz.use
              obtain ⟨x0, x1, x2, nx, lx⟩ := hsz.1.use
              obtain ⟨f0, f1, f2⟩ := hsz.1.froze
              have hbz := Lib.hid hsz.2.2.1
              clear hvz hsz
              rcases hoz with ⟨rfl, hbpz, hvz⟩ | hx
              · have HVZ := Lib.hid hvz
                clear hvz
                go_wp2
                go_roundw
                case rel => exact ⟨i + 1, pz, qz, sz, by go_num, by omega, HSZ.out.1.store pz qz sz, hbpz, HVZ.out, below_store hbz.out B2.out.size _ _ _⟩
                case measure => simp [intOf]; omega
              · go_wp2
                go_roundw
                case rel => exact ⟨i + 1, px, qx, sx, by go_num, by omega, HSZ.out.1, hbp, HV.out, hbz.out⟩
                case measure => simp [intOf]; omega
        · have HVB := Lib.hid hvb
          have HBL := Lib.hid hbl
          obtain ⟨hsx, ⟨px1, px2⟩, qx1, qx2⟩ := hvx
          obtain ⟨hl1, hl2⟩ := HLESS.out
          obtain ⟨c00, c01, c02, n0, l0⟩ := hvb.use
          clear hvb hbl
          by_cases hless : b ≤ less
          · go_wp2_with fail
            refine (vacc_or b px qx sx less t _ ⟨hsx, ⟨px1, px2⟩, qx1, qx2⟩ ⟨hl1, hl2⟩ ht hbp).mono ?_
            rintro e w3 ⟨p3, q3, s3, x3, rfl, _, hb3⟩
            have K3 := Lib.hid (HVB.out.kept hb3)
            have B3 := Lib.hid (HBL.out.trans (hb3.mono HBL.out.size))
            clear hb3 c00 c01 c02 n0 l0
            obtain ⟨c00, c01, c02, n0, l0⟩ := K3.out.use
            go_wp2_with fail
            refine (vprep_or b px qx sx less _ ⟨hsx, ⟨px1, px2⟩, qx1, qx2⟩ ⟨hl1, hl2⟩ hbp).mono ?_
            rintro e w4 ⟨p4, q4, s4, x4, rfl, _, hb4⟩
            have B4 := Lib.hid (B3.out.trans (below_of_alloc (hb4.mono (B' := w.heap.size) (by have := B3.out.size; simp; omega)) B3.out.size))
            clear hb4
            go_wp2
            go_ret
            exact ⟨rfl, B4.out.alloc B4.out.size _⟩
          · have hlp : less < px := by omega
            obtain ⟨x3, hx3⟩ : ∃ x, askE px qx sx less t = x := ⟨_, rfl⟩
            obtain ⟨x4, hx4⟩ : ∃ x, askE px qx sx less ⟨#[]⟩ = x := ⟨_, rfl⟩
            have hn3 : x3 ≠ 0 := hx3 ▸ askE_less hlp
            have hn4 : x4 ≠ 0 := hx4 ▸ askE_less hlp
            have hq3 : (x3 != 0) = true := by simpa using hn3
            have hq4 : (x4 != 0) = true := by simpa using hn4
            have hld : decide (b ≤ less) = false := by simp; omega
            have X3 := Lib.hid hx3
            have X4 := Lib.hid hx4
            have N3 := Lib.hid hn3
            have N4 := Lib.hid hn4
            clear hx3 hx4 hn3 hn4
            go_wp2_with fail
            refine (vacc_bad px qx sx less t _ hsx ht px1 px2 qx1 qx2 hl1 hl2 x3 X3.out N3.out).mono ?_
            rintro e w3 ⟨rfl, hb3⟩
            have K3 := Lib.hid (HVB.out.kept hb3)
            have B3 := Lib.hid (HBL.out.trans (hb3.mono HBL.out.size))
            clear hb3 c00 c01 c02 n0 l0
            obtain ⟨c00, c01, c02, n0, l0⟩ := K3.out.use
            go_wp2_with fail
            refine (vprep_bad px qx sx less _ hsx px1 px2 qx1 qx2 hl1 hl2 x4 X4.out N4.out).mono ?_
            rintro e w4 ⟨rfl, hb4⟩
            have B4 := Lib.hid (B3.out.trans (below_of_alloc (hb4.mono (B' := w.heap.size) (by have := B3.out.size; simp; omega)) B3.out.size))
            clear hb4
            go_wp2
            go_ret
            exact ⟨rfl, B4.out.alloc B4.out.size _⟩
  · obtain ⟨x, hx⟩ : ∃ y, askE p q s b ⟨#[]⟩ = y := ⟨_, rfl⟩
    rw [hx] at h1
    have hq : (x != 0) = true := by simpa using h1
    have H1 := Lib.hid h1
    have X1 := Lib.hid hx
    clear h1 hx
    go_enter Try.func7, Try.ntmps7
    go_wp2_with fail
    refine (alive07 _).mono ?_
    rintro e w1 ⟨rfl, hb1⟩
    have K0 := Lib.hid (Vb.new hb1)
    have B1 := Lib.hid (below_of_alloc (hb1.mono (B' := w.heap.size) (by simp)) (Nat.le_refl _))
    clear hb1
    obtain ⟨c00, c01, c02, n0, l0⟩ := K0.out.use
    go_wp2_with fail
    refine (vprep_bad p q s b _ hs p1 p2 q1 q2 b1 b2 x X1.out H1.out).mono ?_
    rintro e w2 ⟨rfl, hb2⟩
    have B2 := Lib.hid (B1.out.trans (hb2.mono (B' := w.heap.size) B1.out.size))
    clear hb2
    go_wp2
    go_ret
    exact ⟨rfl, B2.out.alloc B2.out.size _⟩
end Go.Proofs.Ytaajfilecmgcnaa
