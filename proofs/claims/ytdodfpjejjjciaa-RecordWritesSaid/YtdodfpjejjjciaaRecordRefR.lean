/-
  The reference's Read of records: the call's answer.
-/
import Derived.Test.YtdodfpjejjjciaaRecordRef
import Derived.Test.YtdodfpjejjjciaaRecordRefM
import Derived.Test.YtdodfpjejjjciaaRecordReadW
namespace Go.Proofs.Ytdodfpjejjjciaa
open Go.RowKit Bal
set_option maxHeartbeats 16000000
set_option maxRecDepth 100000
set_option linter.unusedVariables false
set_option linter.unusedSimpArgs false

theorem rg_b (W1 : World) (G : Nat) (hz : W1.heap.size = G) (t1 : TypeId) (xs : Array Value) : Blk (W1.alloc (.cells xs t1)) G t1 xs := by
  subst hz
  exact Blk.new W1 _ _
theorem rg_b2 (W1 : World) (G : Nat) (hz : W1.heap.size = G) (t1 t3 : TypeId) (xs R : Array Value) : Blk ((W1.alloc (.cells xs t1)).alloc (.cells R t3)) G t1 xs := by
  subst hz
  exact (Blk.new W1 _ _).alloc _
theorem rg_r2 (W1 : World) (G : Nat) (hz : W1.heap.size = G) (t1 t3 : TypeId) (xs R : Array Value) : Blk ((W1.alloc (.cells xs t1)).alloc (.cells R t3)) (G + 1) t3 R := by
  subst hz
  have := Blk.new (W1.alloc (.cells xs t1)) t3 R
  simpa using this
theorem rg_q (W1 : World) (G n : Nat) (hz : W1.heap.size = G) (A : Option Addr) (t1 : TypeId) (xs : Array Value) (ys : List Value) (h : Reads W1 G 1 A n ys) : Reads (W1.alloc (.cells xs t1)) G 1 A n ys := by
  subst hz
  exact h.alloc (Nat.le_refl _) _
theorem rg_q2 (W1 : World) (G n : Nat) (hz : W1.heap.size = G) (A : Option Addr) (t1 t3 : TypeId) (xs R : Array Value) (ys : List Value) (h : Reads W1 G 1 A n ys) : Reads ((W1.alloc (.cells xs t1)).alloc (.cells R t3)) G 1 A n ys := by
  subst hz
  exact (h.alloc (Nat.le_refl _) _).alloc (by simp) _
theorem rg_w2 (w W1 : World) (h : Below w.heap.size w W1) (o1 o2 : Obj) : Below w.heap.size w ((W1.alloc o1).alloc o2) :=
  (h.alloc h.size _).alloc (by have := h.size; simp; omega) _
theorem rreadR_fin2 {l l1 l2 l3 l4 l5 t : List UInt8} {m1 m2 m3 m4 : Nat} {b1 b2 b3 b4 b5 : Bool} (h1 : Rp.rnum 3 (l, false) = (m1, (l1, b1))) (h2 : Rp.rnum 3 (l1, b1) = (m2, (l2, b2))) (h3 : Rp.rnum 200 (l2, b2) = (m3, (l3, b3)))
    (h4 : (if m1 = 3 then (0, (l3, b3)) else Rp.rnum 8388613 (l3, b3)) = (m4, (l4, b4))) (h5 : (if m1 = 1 then ([], (l4, b4)) else Rp.rtext 1024 (l4, b4)) = (t, (l5, b5))) :
    Rp.rreadR l = if b5 = false ∧ l5 = [] ∧ Rp.mayB (m1 : Int) m2 m3 m4 t.length = true then some ⟨(m1 : Int), m2, m3, m4, t⟩ else none := by
  simp only [Rp.rreadR, h1, h2, h3, h4, h5]
theorem rnum_le (high : Nat) (p : Rp.St) : (Rp.rnum high p).1 ≤ high := by
  unfold Rp.rnum
  cases h : Nm.get p.1 with
  | none => exact Nat.zero_le _
  | some q =>
    obtain ⟨m, k⟩ := q
    simp only
    split
    · exact Nat.zero_le _
    · rename_i hh
      omega
theorem rtext_le (high : Nat) (p : Rp.St) : (Rp.rtext high p).1.length ≤ high := by
  unfold Rp.rtext
  cases h : Nm.getText p.1 with
  | none => exact Nat.zero_le _
  | some q =>
    obtain ⟨m, k⟩ := q
    simp only
    split
    · exact Nat.zero_le _
    · rename_i hh
      show m.length ≤ high
      omega

theorem rread10_any (s : ByteArray) (w : World) (hs : s.size ≤ 1000000) :
    Calls Try.prog 21 #[.string s] w fun e w' => e = .returned (recV (Rp.rreadR s.data.toList)) ∧ Below w.heap.size w w' := by
  obtain ⟨l, hl⟩ : ∃ l, s.data.toList = l := ⟨_, rfl⟩
  obtain ⟨⟨m1, l1, b1⟩, h1⟩ : ∃ p, Rp.rnum 3 (l, false) = p := ⟨_, rfl⟩
  obtain ⟨⟨m2, l2, b2⟩, h2⟩ : ∃ p, Rp.rnum 3 (l1, b1) = p := ⟨_, rfl⟩
  obtain ⟨⟨m3, l3, b3⟩, h3⟩ : ∃ p, Rp.rnum 200 (l2, b2) = p := ⟨_, rfl⟩
  have hm1 : m1 ≤ 3 := by have := rnum_le 3 (l, false); rw [h1] at this; exact this
  have e1 : l1 = l.drop (rk 3 (l, false)) := by have := rnum_drop 3 (l, false); rw [h1] at this; exact this
  have e2 : l2 = l1.drop (rk 3 (l1, b1)) := by have := rnum_drop 3 (l1, b1); rw [h2] at this; exact this
  have e3 : l3 = l2.drop (rk 200 (l2, b2)) := by have := rnum_drop 200 (l2, b2); rw [h3] at this; exact this
  have hcv := run_conv_to (w.alloc (.cells #[.int .u8 0, .int .i64 0, .int .i64 0, .int .i64 0, .string ⟨#[]⟩] 36)) s
  have R0 := convW_reads (w.alloc (.cells #[.int .u8 0, .int .i64 0, .int .i64 0, .int .i64 0, .string ⟨#[]⟩] 36)) s
  have hz := convW_size (w.alloc (.cells #[.int .u8 0, .int .i64 0, .int .i64 0, .int .i64 0, .string ⟨#[]⟩] 36)) s
  have hb := convW_below (w.alloc (.cells #[.int .u8 0, .int .i64 0, .int .i64 0, .int .i64 0, .string ⟨#[]⟩] 36)) s
  have hq0 := convC_ge (w.alloc (.cells #[.int .u8 0, .int .i64 0, .int .i64 0, .int .i64 0, .string ⟨#[]⟩] 36)) s
  have hq1 := convC_le (w.alloc (.cells #[.int .u8 0, .int .i64 0, .int .i64 0, .int .i64 0, .string ⟨#[]⟩] 36)) s (by unfold maxLen; omega)
  unfold maxLen at hq1
  rw [hl] at R0
  generalize convW (w.alloc (.cells #[.int .u8 0, .int .i64 0, .int .i64 0, .int .i64 0, .string ⟨#[]⟩] 36)) s = W1 at *
  generalize convC (w.alloc (.cells #[.int .u8 0, .int .i64 0, .int .i64 0, .int .i64 0, .string ⟨#[]⟩] 36)) s = c0 at *
  simp only [World.size_alloc] at hcv R0 hz hb
  obtain ⟨G, hG⟩ : ∃ G, w.heap.size + 1 + 1 = G := ⟨_, rfl⟩
  rw [hG] at R0 hz
  have hG1 : w.heap.size < G := by omega
  have hG2 : w.heap.size < G + 1 := by omega
  have hG3 : w.heap.size < G + 1 + 1 := by omega
  have hG4 : w.heap.size ≠ G := by omega
  have hG5 : w.heap.size ≠ G + 1 := by omega
  have HBW := Lib.hid (below_of_alloc (hb.mono (B' := w.heap.size) (by omega)) (Nat.le_refl _))
  have KO := Blk.below (Blk.new w 36 #[.int .u8 0, .int .i64 0, .int .i64 0, .int .i64 0, .string ⟨#[]⟩]) hb (by omega)
  have HKO := Lib.hid KO
  have ko0 := KO.cell 0
  have ko1 := KO.cell 1
  have ko2 := KO.cell 2
  have ko3 := KO.cell 3
  have ko4 := KO.cell 4
  have fo0 := KO.frozen 0
  have fo1 := KO.frozen 1
  have fo2 := KO.frozen 2
  have fo3 := KO.frozen 3
  have fo4 := KO.frozen 4
  have L0 := R0.len_b
  have k1 := rk_le 3 (l, false)
  have k2 := rk_le 3 (l1, b1)
  have k3 := rk_le 200 (l2, b2)
  simp only at k1 k2 k3
  have HH1 := Lib.hid h1
  have HH2 := Lib.hid h2
  have HH3 := Lib.hid h3
  obtain ⟨r1, hr1⟩ : ∃ r, rk 3 (l, false) = r := ⟨_, rfl⟩
  obtain ⟨r2, hr2⟩ : ∃ r, rk 3 (l1, b1) = r := ⟨_, rfl⟩
  obtain ⟨r3, hr3⟩ : ∃ r, rk 200 (l2, b2) = r := ⟨_, rfl⟩
  rw [hr1] at e1 k1
  rw [hr2] at e2 k2
  rw [hr3] at e3 k3
  have R1 := R0.rest (k := r1) (by omega) hq0
  rw [cb_drop, ← e1] at R1
  have L1 := R1.len_b
  have R2 := R1.rest (k := r2) (c := c0 - r1) (by omega) (by omega)
  rw [cb_drop, ← e2] at R2
  have L2 := R2.len_b
  have R3 := R2.rest (k := r3) (c := c0 - r1 - r2) (by omega) (by omega)
  rw [cb_drop, ← e3] at R3
  have L3 := R3.len_b
  have N1 := Lib.hid (rnumber_any G (some ⟨w.heap.size + 1, 0, none⟩) s.size c0 G 3 l l1 m1 false b1 (W1.alloc (.cells #[.slice (some ⟨w.heap.size + 1, 0, none⟩) s.size c0, .bool false] 78)) (rg_b _ _ hz _ _) (rg_q _ _ _ hz _ _ _ _ R0) hq0 hq1 hs (by omega) h1)
  rw [hr1, show ((3 : Nat) : Int) = 3 from rfl] at N1
  obtain ⟨A1, hA1⟩ : ∃ A, cutA (some ⟨w.heap.size + 1, 0, none⟩) c0 r1 = A := ⟨_, rfl⟩
  obtain ⟨n1, hn1⟩ : ∃ n, s.size - r1 = n := ⟨_, rfl⟩
  obtain ⟨c1, hc1⟩ : ∃ n, c0 - r1 = n := ⟨_, rfl⟩
  rw [hA1, hn1, hc1] at N1
  simp only [hA1, hn1, hc1] at R1 R2 R3 L1 L2 L3
  have N2 := Lib.hid (rnumber_any G A1 n1 c1 G 3 l1 l2 m2 b1 b2 (W1.alloc (.cells #[.slice A1 n1 c1, .bool b1] 78)) (rg_b _ _ hz _ _) (rg_q _ _ _ hz _ _ _ _ R1) (by omega) (by omega) (by omega) (by omega) h2)
  rw [hr2, show ((3 : Nat) : Int) = 3 from rfl] at N2
  obtain ⟨A2, hA2⟩ : ∃ A, cutA A1 c1 r2 = A := ⟨_, rfl⟩
  obtain ⟨n2, hn2⟩ : ∃ n, n1 - r2 = n := ⟨_, rfl⟩
  obtain ⟨c2, hc2⟩ : ∃ n, c1 - r2 = n := ⟨_, rfl⟩
  rw [hA2, hn2, hc2] at N2
  simp only [hA2, hn2, hc2] at R2 R3 L2 L3
  have N3 := Lib.hid (rnumber_any G A2 n2 c2 G 200 l2 l3 m3 b2 b3 (W1.alloc (.cells #[.slice A2 n2 c2, .bool b2] 78)) (rg_b _ _ hz _ _) (rg_q _ _ _ hz _ _ _ _ R2) (by omega) (by omega) (by omega) (by omega) h3)
  rw [hr3, show ((200 : Nat) : Int) = 200 from rfl] at N3
  obtain ⟨A3, hA3⟩ : ∃ A, cutA A2 c2 r3 = A := ⟨_, rfl⟩
  obtain ⟨n3, hn3⟩ : ∃ n, n2 - r3 = n := ⟨_, rfl⟩
  obtain ⟨c3, hc3⟩ : ∃ n, c2 - r3 = n := ⟨_, rfl⟩
  rw [hA3, hn3, hc3] at N3
  simp only [hA3, hn3, hc3] at R3 L3
  have q3 : n3 ≤ c3 ∧ c3 ≤ 9223372036854775807 ∧ n3 ≤ 1000000 := by omega
  have HR3 := Lib.hid R3
  have HL := Lib.hid hl
  have HL3 := Lib.hid L3
  clear R0 R1 R2 R3 h1 h2 h3 e1 e2 e3 hl KO hb L0 L1 L2 L3 hA1 hA2 hA3 hn1 hn2 hn3 hc1 hc2 hc3 k1 k2 k3 hr1 hr2 hr3 hq0 hq1
  have hgg : w.heap.size + 1 + 1 = G := hG
  clear hG
  go_enter Try.func21, Try.ntmps21
  go_wp2_with fail
  with_reducible refine N1.out.mono ?_
  rintro e w' ⟨rfl, rfl⟩
  go_wp2_with fail
  with_reducible refine N2.out.mono ?_
  rintro e w' ⟨rfl, rfl⟩
  go_wp2_with fail
  with_reducible refine N3.out.mono ?_
  rintro e w' ⟨rfl, rfl⟩
  clear N1 N2 N3
  by_cases a3 : m1 = 3
  · subst a3
    have H4 : Hid ((if 3 = 3 then (0, (l3, b3)) else Rp.rnum 8388613 (l3, b3)) = (0, (l3, b3))) := if_pos rfl
    obtain ⟨⟨t, l5, b5⟩, h5⟩ : ∃ p, Rp.rtext 1024 (l3, b3) = p := ⟨_, rfl⟩
    have ht5 : t.length ≤ 1024 := by have := rtext_le 1024 (l3, b3); rw [h5] at this; exact this
    have N5 := Lib.hid (rtextr_any G A3 n3 c3 G 1024 l3 l5 t b3 b5 ((W1.alloc (.cells #[.slice A3 n3 c3, .bool b3] 78)).alloc (.cells #[.int .u8 3, .int .i64 (m2 : Int), .int .i64 (m3 : Int), .int .i64 0, .string ⟨#[]⟩] 36)) (rg_b2 _ _ hz _ _ _ _) (rg_q2 _ _ _ hz _ _ _ _ _ _ HR3.out) q3.1 q3.2.1 q3.2.2 (by omega) h5)
    have k5 := rtk_le 1024 (l3, b3)
    simp only at k5
    have e5 : l5 = l3.drop (rtk 1024 (l3, b3)) := by have := rtext_drop 1024 (l3, b3); rw [h5] at this; exact this
    have H5 : Hid ((if 3 = 1 then ([], (l3, b3)) else Rp.rtext 1024 (l3, b3)) = (t, (l5, b5))) := by rw [Hid, if_neg (by omega)]; exact h5
    obtain ⟨r5, hr5⟩ : ∃ r, rtk 1024 (l3, b3) = r := ⟨_, rfl⟩
    rw [hr5] at e5 k5 N5
    rw [show ((1024 : Nat) : Int) = 1024 from rfl] at N5
    have L4 := HL3.out
    have L5 : l5.length = n3 - r5 := by rw [e5, List.length_drop, L4]
    obtain ⟨A5, hA5⟩ : ∃ A, cutA A3 c3 r5 = A := ⟨_, rfl⟩
    obtain ⟨n5, hn5⟩ : ∃ n, n3 - r5 = n := ⟨_, rfl⟩
    obtain ⟨c5, hc5⟩ : ∃ n, c3 - r5 = n := ⟨_, rfl⟩
    rw [hA5, hn5, hc5] at N5
    rw [hn5] at L5
    have q5 : n5 ≤ c5 ∧ c5 ≤ 9223372036854775807 ∧ n5 ≤ 1000000 := by omega
    have HL5x := Lib.hid L5
    clear h5 e5 k5 hr5 L4 L5 hA5 hn5 hc5
    go_wp2_with fail
    with_reducible refine N5.out.mono ?_
    rintro e w' ⟨rfl, rfl⟩
    clear N5
    cases b5 with
    | true =>
      have HE : Hid (Rp.rreadR l = none) := by rw [Hid, rreadR_fin2 HH1.out HH2.out HH3.out H4.out H5.out]; exact if_neg (by rintro ⟨h, _⟩; cases h)
      go_wp2_with fail
      refine (rdone_any G A5 n5 c5 true _ (rg_b2 _ _ hz _ _ _ _) (by omega)).mono ?_
      rintro e w' ⟨rfl, rfl⟩
      go_wp2
      exact bodyPost_ret (v := .tuple #[.agg #[.int .u8 0, .int .i64 0, .int .i64 0, .int .i64 0, .string ⟨#[]⟩], .int .i64 8]) (by simp [results, Try.results21, go_sem, hz, hG1, hG2, hG3, hG4, hG5, ko0, ko1, ko2, ko3, ko4]) rfl ⟨by rw [HL.out, HE.out]; rfl, by repeat (first | with_reducible exact HBW.out | with_reducible exact HB6.out | with_reducible refine rg_w2 _ _ ?_ _ _ | with_reducible refine below_drewN ?_ _ | with_reducible refine set_w ?_ _ _ | with_reducible refine Below.drew ?_)⟩
    | false =>
      by_cases z0 : n5 = 0
      rotate_left
      · have z1 : (n5 == 0) = false := by simpa using z0
        have HE : Hid (Rp.rreadR l = none) := by rw [Hid, rreadR_fin2 HH1.out HH2.out HH3.out H4.out H5.out]; exact if_neg (by rintro ⟨_, h, _⟩; have hh := HL5x.out; rw [h] at hh; simp at hh; omega)
        go_wp2_with fail
        refine (rdone_any G A5 n5 c5 false _ (rg_b2 _ _ hz _ _ _ _) (by omega)).mono ?_
        rintro e w' ⟨rfl, rfl⟩
        go_wp2
        exact bodyPost_ret (v := .tuple #[.agg #[.int .u8 0, .int .i64 0, .int .i64 0, .int .i64 0, .string ⟨#[]⟩], .int .i64 8]) (by simp [results, Try.results21, go_sem, hz, hG1, hG2, hG3, hG4, hG5, ko0, ko1, ko2, ko3, ko4]) rfl ⟨by rw [HL.out, HE.out]; rfl, by repeat (first | with_reducible exact HBW.out | with_reducible exact HB6.out | with_reducible refine rg_w2 _ _ ?_ _ _ | with_reducible refine below_drewN ?_ _ | with_reducible refine set_w ?_ _ _ | with_reducible refine Below.drew ?_)⟩
      · have z1 : (n5 == 0) = true := by simpa using z0
        have hl5 : l5 = [] := List.eq_nil_of_length_eq_zero (by rw [HL5x.out]; exact z0)
        have hts : ByteArray.size (S t) = (t : List UInt8).length := S_size _
        have HTS := Lib.hid hts
        have HL5 := Lib.hid hl5
        clear hl5 z0
        cases hm : Rp.mayB (3 : Int) m2 m3 0 (t : List UInt8).length with
        | false =>
          have HC : Hid (Rp.mayB (3 : Int) m2 m3 0 (ByteArray.size (S t)) = false) := by rw [Hid, hts]; exact hm
          have HE : Hid (Rp.rreadR l = none) := by rw [Hid, rreadR_fin2 HH1.out HH2.out HH3.out H4.out H5.out]; exact if_neg (by rintro ⟨_, _, h⟩; first | (rw [hm] at h; cases h) | (have h2 := h.symm.trans hm; cases h2))
          clear hm hts
          go_wp2_with fail
          refine (rdone_any G A5 n5 c5 false _ (rg_b2 _ _ hz _ _ _ _) (by omega)).mono ?_
          rintro e w' ⟨rfl, rfl⟩
          go_wp2_with fail
          refine (rmay10_any (3 : Int) m2 m3 0 (S t) _ (by first | decide | (have := HTS.out; omega))).mono ?_
          rw [HC.out]
          rintro e w6 ⟨rfl, hb⟩
          have ko := Blk.below ((HKO.out.alloc _).alloc _) hb (by simp; omega)
          have HB6 := Lib.hid (then_ (rg_w2 _ _ HBW.out _ _) hb)
          have p0 := ko.cell 0
          have p1 := ko.cell 1
          have p2 := ko.cell 2
          have p3 := ko.cell 3
          have p4 := ko.cell 4
          have u0 := ko.frozen 0
          have u1 := ko.frozen 1
          have u2 := ko.frozen 2
          have u3 := ko.frozen 3
          have u4 := ko.frozen 4
          clear ko hb
          go_wp2
          exact bodyPost_ret (v := .tuple #[.agg #[.int .u8 0, .int .i64 0, .int .i64 0, .int .i64 0, .string ⟨#[]⟩], .int .i64 8]) (by simp [results, Try.results21, go_sem, p0, p1, p2, p3, p4]) rfl ⟨by rw [HL.out, HE.out]; rfl, by repeat (first | with_reducible exact HBW.out | with_reducible exact HB6.out | with_reducible refine rg_w2 _ _ ?_ _ _ | with_reducible refine below_drewN ?_ _ | with_reducible refine set_w ?_ _ _ | with_reducible refine Below.drew ?_)⟩
        | true =>
          have HC : Hid (Rp.mayB (3 : Int) m2 m3 0 (ByteArray.size (S t)) = true) := by rw [Hid, hts]; exact hm
          have HE : Hid (Rp.rreadR l = some ⟨(3 : Int), m2, m3, (0 : Nat), t⟩) := by rw [Hid, rreadR_fin2 HH1.out HH2.out HH3.out H4.out H5.out]; exact if_pos ⟨rfl, HL5.out, hm⟩
          clear hm hts
          go_wp2_with fail
          refine (rdone_any G A5 n5 c5 false _ (rg_b2 _ _ hz _ _ _ _) (by omega)).mono ?_
          rintro e w' ⟨rfl, rfl⟩
          go_wp2_with fail
          refine (rmay10_any (3 : Int) m2 m3 0 (S t) _ (by first | decide | (have := HTS.out; omega))).mono ?_
          rw [HC.out]
          rintro e w6 ⟨rfl, hb⟩
          have ko := Blk.below ((HKO.out.alloc _).alloc _) hb (by simp; omega)
          have HB6 := Lib.hid (then_ (rg_w2 _ _ HBW.out _ _) hb)
          have p0 := ko.cell 0
          have p1 := ko.cell 1
          have p2 := ko.cell 2
          have p3 := ko.cell 3
          have p4 := ko.cell 4
          have u0 := ko.frozen 0
          have u1 := ko.frozen 1
          have u2 := ko.frozen 2
          have u3 := ko.frozen 3
          have u4 := ko.frozen 4
          have kr := Blk.below (rg_r2 _ _ hz _ _ _ _) hb (by simp; omega)
          have r0 := kr.cell 0
          have r1 := kr.cell 1
          have r2 := kr.cell 2
          have r3 := kr.cell 3
          have r4 := kr.cell 4
          clear kr
          clear ko hb
          go_wp2
          exact bodyPost_ret (v := .tuple #[.agg #[.int .u8 (3 : Int), .int .i64 m2, .int .i64 m3, .int .i64 (0 : Nat), .string (S t)], .int .i64 0]) (by simp [results, Try.results21, go_sem, p0, p1, p2, p3, p4]) rfl ⟨by rw [HL.out, HE.out]; rfl, by repeat (first | with_reducible exact HBW.out | with_reducible exact HB6.out | with_reducible refine rg_w2 _ _ ?_ _ _ | with_reducible refine below_drewN ?_ _ | with_reducible refine set_w ?_ _ _ | with_reducible refine Below.drew ?_)⟩
  by_cases a1 : m1 = 1
  · subst a1
    obtain ⟨⟨m4, l4, b4⟩, h4⟩ : ∃ p, Rp.rnum 8388613 (l3, b3) = p := ⟨_, rfl⟩
    have hm4 : m4 ≤ 8388613 := by have := rnum_le 8388613 (l3, b3); rw [h4] at this; exact this
    have N4 := Lib.hid (rnumber_any G A3 n3 c3 G 8388613 l3 l4 m4 b3 b4 ((W1.alloc (.cells #[.slice A3 n3 c3, .bool b3] 78)).alloc (.cells #[.int .u8 1, .int .i64 (m2 : Int), .int .i64 (m3 : Int), .int .i64 0, .string ⟨#[]⟩] 36)) (rg_b2 _ _ hz _ _ _ _) (rg_q2 _ _ _ hz _ _ _ _ _ _ HR3.out) q3.1 q3.2.1 q3.2.2 (by omega) h4)
    have k4 := rk_le 8388613 (l3, b3)
    simp only at k4
    have e4 : l4 = l3.drop (rk 8388613 (l3, b3)) := by have := rnum_drop 8388613 (l3, b3); rw [h4] at this; exact this
    have H4 : Hid ((if 1 = 3 then (0, (l3, b3)) else Rp.rnum 8388613 (l3, b3)) = (m4, (l4, b4))) := by rw [Hid, if_neg (by omega)]; exact h4
    obtain ⟨r4, hr4⟩ : ∃ r, rk 8388613 (l3, b3) = r := ⟨_, rfl⟩
    rw [hr4] at e4 k4 N4
    rw [show ((8388613 : Nat) : Int) = 8388613 from rfl] at N4
    have L3 := HL3.out
    have R4 := HR3.out.rest (k := r4) (c := c3) (by omega) (by omega)
    rw [cb_drop, ← e4] at R4
    have L4 := R4.len_b
    obtain ⟨A4, hA4⟩ : ∃ A, cutA A3 c3 r4 = A := ⟨_, rfl⟩
    obtain ⟨n4, hn4⟩ : ∃ n, n3 - r4 = n := ⟨_, rfl⟩
    obtain ⟨c4, hc4⟩ : ∃ n, c3 - r4 = n := ⟨_, rfl⟩
    rw [hA4, hn4, hc4] at N4
    rw [hA4, hn4] at R4
    rw [hn4] at L4
    have q4 : n4 ≤ c4 ∧ c4 ≤ 9223372036854775807 ∧ n4 ≤ 1000000 := by omega
    have HR4 := Lib.hid R4
    have HL4 := Lib.hid L4
    clear h4 e4 k4 hr4 L3 R4 L4 hA4 hn4 hc4
    go_wp2_with fail
    with_reducible refine N4.out.mono ?_
    rintro e w' ⟨rfl, rfl⟩
    clear N4
    have H5 : Hid ((if 1 = 1 then ([], (l4, b4)) else Rp.rtext 1024 (l4, b4)) = ([], (l4, b4))) := if_pos rfl
    cases b4 with
    | true =>
      have HE : Hid (Rp.rreadR l = none) := by rw [Hid, rreadR_fin2 HH1.out HH2.out HH3.out H4.out H5.out]; exact if_neg (by rintro ⟨h, _⟩; cases h)
      go_wp2_with fail
      refine (rdone_any G A4 n4 c4 true _ (rg_b2 _ _ hz _ _ _ _) (by omega)).mono ?_
      rintro e w' ⟨rfl, rfl⟩
      go_wp2
      exact bodyPost_ret (v := .tuple #[.agg #[.int .u8 0, .int .i64 0, .int .i64 0, .int .i64 0, .string ⟨#[]⟩], .int .i64 8]) (by simp [results, Try.results21, go_sem, hz, hG1, hG2, hG3, hG4, hG5, ko0, ko1, ko2, ko3, ko4]) rfl ⟨by rw [HL.out, HE.out]; rfl, by repeat (first | with_reducible exact HBW.out | with_reducible exact HB6.out | with_reducible refine rg_w2 _ _ ?_ _ _ | with_reducible refine below_drewN ?_ _ | with_reducible refine set_w ?_ _ _ | with_reducible refine Below.drew ?_)⟩
    | false =>
      by_cases z0 : n4 = 0
      rotate_left
      · have z1 : (n4 == 0) = false := by simpa using z0
        have HE : Hid (Rp.rreadR l = none) := by rw [Hid, rreadR_fin2 HH1.out HH2.out HH3.out H4.out H5.out]; exact if_neg (by rintro ⟨_, h, _⟩; have hh := HL4.out; rw [h] at hh; simp at hh; omega)
        go_wp2_with fail
        refine (rdone_any G A4 n4 c4 false _ (rg_b2 _ _ hz _ _ _ _) (by omega)).mono ?_
        rintro e w' ⟨rfl, rfl⟩
        go_wp2
        exact bodyPost_ret (v := .tuple #[.agg #[.int .u8 0, .int .i64 0, .int .i64 0, .int .i64 0, .string ⟨#[]⟩], .int .i64 8]) (by simp [results, Try.results21, go_sem, hz, hG1, hG2, hG3, hG4, hG5, ko0, ko1, ko2, ko3, ko4]) rfl ⟨by rw [HL.out, HE.out]; rfl, by repeat (first | with_reducible exact HBW.out | with_reducible exact HB6.out | with_reducible refine rg_w2 _ _ ?_ _ _ | with_reducible refine below_drewN ?_ _ | with_reducible refine set_w ?_ _ _ | with_reducible refine Below.drew ?_)⟩
      · have z1 : (n4 == 0) = true := by simpa using z0
        have hl5 : l4 = [] := List.eq_nil_of_length_eq_zero (by rw [HL4.out]; exact z0)
        have hts : ByteArray.size ⟨#[]⟩ = ([] : List UInt8).length := rfl
        have HTS := Lib.hid hts
        have HL5 := Lib.hid hl5
        clear hl5 z0
        cases hm : Rp.mayB (1 : Int) m2 m3 m4 ([] : List UInt8).length with
        | false =>
          have HC : Hid (Rp.mayB (1 : Int) m2 m3 m4 (ByteArray.size ⟨#[]⟩) = false) := by rw [Hid, hts]; exact hm
          have HE : Hid (Rp.rreadR l = none) := by rw [Hid, rreadR_fin2 HH1.out HH2.out HH3.out H4.out H5.out]; exact if_neg (by rintro ⟨_, _, h⟩; first | (rw [hm] at h; cases h) | (have h2 := h.symm.trans hm; cases h2))
          clear hm hts
          go_wp2_with fail
          refine (rdone_any G A4 n4 c4 false _ (rg_b2 _ _ hz _ _ _ _) (by omega)).mono ?_
          rintro e w' ⟨rfl, rfl⟩
          go_wp2_with fail
          refine (rmay10_any (1 : Int) m2 m3 m4 ⟨#[]⟩ _ (by first | decide | (have := HTS.out; omega))).mono ?_
          rw [HC.out]
          rintro e w6 ⟨rfl, hb⟩
          have ko := Blk.below ((HKO.out.alloc _).alloc _) hb (by simp; omega)
          have HB6 := Lib.hid (then_ (rg_w2 _ _ HBW.out _ _) hb)
          have p0 := ko.cell 0
          have p1 := ko.cell 1
          have p2 := ko.cell 2
          have p3 := ko.cell 3
          have p4 := ko.cell 4
          have u0 := ko.frozen 0
          have u1 := ko.frozen 1
          have u2 := ko.frozen 2
          have u3 := ko.frozen 3
          have u4 := ko.frozen 4
          clear ko hb
          go_wp2
          exact bodyPost_ret (v := .tuple #[.agg #[.int .u8 0, .int .i64 0, .int .i64 0, .int .i64 0, .string ⟨#[]⟩], .int .i64 8]) (by simp [results, Try.results21, go_sem, p0, p1, p2, p3, p4]) rfl ⟨by rw [HL.out, HE.out]; rfl, by repeat (first | with_reducible exact HBW.out | with_reducible exact HB6.out | with_reducible refine rg_w2 _ _ ?_ _ _ | with_reducible refine below_drewN ?_ _ | with_reducible refine set_w ?_ _ _ | with_reducible refine Below.drew ?_)⟩
        | true =>
          have HC : Hid (Rp.mayB (1 : Int) m2 m3 m4 (ByteArray.size ⟨#[]⟩) = true) := by rw [Hid, hts]; exact hm
          have HE : Hid (Rp.rreadR l = some ⟨(1 : Int), m2, m3, (m4 : Nat), []⟩) := by rw [Hid, rreadR_fin2 HH1.out HH2.out HH3.out H4.out H5.out]; exact if_pos ⟨rfl, HL5.out, hm⟩
          clear hm hts
          go_wp2_with fail
          refine (rdone_any G A4 n4 c4 false _ (rg_b2 _ _ hz _ _ _ _) (by omega)).mono ?_
          rintro e w' ⟨rfl, rfl⟩
          go_wp2_with fail
          refine (rmay10_any (1 : Int) m2 m3 m4 ⟨#[]⟩ _ (by first | decide | (have := HTS.out; omega))).mono ?_
          rw [HC.out]
          rintro e w6 ⟨rfl, hb⟩
          have ko := Blk.below ((HKO.out.alloc _).alloc _) hb (by simp; omega)
          have HB6 := Lib.hid (then_ (rg_w2 _ _ HBW.out _ _) hb)
          have p0 := ko.cell 0
          have p1 := ko.cell 1
          have p2 := ko.cell 2
          have p3 := ko.cell 3
          have p4 := ko.cell 4
          have u0 := ko.frozen 0
          have u1 := ko.frozen 1
          have u2 := ko.frozen 2
          have u3 := ko.frozen 3
          have u4 := ko.frozen 4
          have kr := Blk.below (rg_r2 _ _ hz _ _ _ _) hb (by simp; omega)
          have r0 := kr.cell 0
          have r1 := kr.cell 1
          have r2 := kr.cell 2
          have r3 := kr.cell 3
          have r4 := kr.cell 4
          clear kr
          clear ko hb
          go_wp2
          exact bodyPost_ret (v := .tuple #[.agg #[.int .u8 (1 : Int), .int .i64 m2, .int .i64 m3, .int .i64 (m4 : Nat), .string ⟨#[]⟩], .int .i64 0]) (by simp [results, Try.results21, go_sem, p0, p1, p2, p3, p4]) rfl ⟨by rw [HL.out, HE.out]; rfl, by repeat (first | with_reducible exact HBW.out | with_reducible exact HB6.out | with_reducible refine rg_w2 _ _ ?_ _ _ | with_reducible refine below_drewN ?_ _ | with_reducible refine set_w ?_ _ _ | with_reducible refine Below.drew ?_)⟩
  have a3n : ((m1 : Int) == 3) = false := by simp; omega
  have a1n : ((m1 : Int) == 1) = false := by simp; omega
  have a3m : ((m1 : Int) != 3) = true := by simp; omega
  have a1m : ((m1 : Int) != 1) = true := by simp; omega
  obtain ⟨⟨m4, l4, b4⟩, h4⟩ : ∃ p, Rp.rnum 8388613 (l3, b3) = p := ⟨_, rfl⟩
  have hm4 : m4 ≤ 8388613 := by have := rnum_le 8388613 (l3, b3); rw [h4] at this; exact this
  have N4 := Lib.hid (rnumber_any G A3 n3 c3 G 8388613 l3 l4 m4 b3 b4 ((W1.alloc (.cells #[.slice A3 n3 c3, .bool b3] 78)).alloc (.cells #[.int .u8 (m1 : Int), .int .i64 (m2 : Int), .int .i64 (m3 : Int), .int .i64 0, .string ⟨#[]⟩] 36)) (rg_b2 _ _ hz _ _ _ _) (rg_q2 _ _ _ hz _ _ _ _ _ _ HR3.out) q3.1 q3.2.1 q3.2.2 (by omega) h4)
  have k4 := rk_le 8388613 (l3, b3)
  simp only at k4
  have e4 : l4 = l3.drop (rk 8388613 (l3, b3)) := by have := rnum_drop 8388613 (l3, b3); rw [h4] at this; exact this
  have H4 : Hid ((if m1 = 3 then (0, (l3, b3)) else Rp.rnum 8388613 (l3, b3)) = (m4, (l4, b4))) := by rw [Hid, if_neg (by omega)]; exact h4
  obtain ⟨r4, hr4⟩ : ∃ r, rk 8388613 (l3, b3) = r := ⟨_, rfl⟩
  rw [hr4] at e4 k4 N4
  rw [show ((8388613 : Nat) : Int) = 8388613 from rfl] at N4
  have L3 := HL3.out
  have R4 := HR3.out.rest (k := r4) (c := c3) (by omega) (by omega)
  rw [cb_drop, ← e4] at R4
  have L4 := R4.len_b
  obtain ⟨A4, hA4⟩ : ∃ A, cutA A3 c3 r4 = A := ⟨_, rfl⟩
  obtain ⟨n4, hn4⟩ : ∃ n, n3 - r4 = n := ⟨_, rfl⟩
  obtain ⟨c4, hc4⟩ : ∃ n, c3 - r4 = n := ⟨_, rfl⟩
  rw [hA4, hn4, hc4] at N4
  rw [hA4, hn4] at R4
  rw [hn4] at L4
  have q4 : n4 ≤ c4 ∧ c4 ≤ 9223372036854775807 ∧ n4 ≤ 1000000 := by omega
  have HR4 := Lib.hid R4
  have HL4 := Lib.hid L4
  clear h4 e4 k4 hr4 L3 R4 L4 hA4 hn4 hc4
  go_wp2_with fail
  with_reducible refine N4.out.mono ?_
  rintro e w' ⟨rfl, rfl⟩
  clear N4
  obtain ⟨⟨t, l5, b5⟩, h5⟩ : ∃ p, Rp.rtext 1024 (l4, b4) = p := ⟨_, rfl⟩
  have ht5 : t.length ≤ 1024 := by have := rtext_le 1024 (l4, b4); rw [h5] at this; exact this
  have N5 := Lib.hid (rtextr_any G A4 n4 c4 G 1024 l4 l5 t b4 b5 ((W1.alloc (.cells #[.slice A4 n4 c4, .bool b4] 78)).alloc (.cells #[.int .u8 (m1 : Int), .int .i64 (m2 : Int), .int .i64 (m3 : Int), .int .i64 (m4 : Int), .string ⟨#[]⟩] 36)) (rg_b2 _ _ hz _ _ _ _) (rg_q2 _ _ _ hz _ _ _ _ _ _ HR4.out) q4.1 q4.2.1 q4.2.2 (by omega) h5)
  have k5 := rtk_le 1024 (l4, b4)
  simp only at k5
  have e5 : l5 = l4.drop (rtk 1024 (l4, b4)) := by have := rtext_drop 1024 (l4, b4); rw [h5] at this; exact this
  have H5 : Hid ((if m1 = 1 then ([], (l4, b4)) else Rp.rtext 1024 (l4, b4)) = (t, (l5, b5))) := by rw [Hid, if_neg (by omega)]; exact h5
  obtain ⟨r5, hr5⟩ : ∃ r, rtk 1024 (l4, b4) = r := ⟨_, rfl⟩
  rw [hr5] at e5 k5 N5
  rw [show ((1024 : Nat) : Int) = 1024 from rfl] at N5
  have L4 := HL4.out
  have L5 : l5.length = n4 - r5 := by rw [e5, List.length_drop, L4]
  obtain ⟨A5, hA5⟩ : ∃ A, cutA A4 c4 r5 = A := ⟨_, rfl⟩
  obtain ⟨n5, hn5⟩ : ∃ n, n4 - r5 = n := ⟨_, rfl⟩
  obtain ⟨c5, hc5⟩ : ∃ n, c4 - r5 = n := ⟨_, rfl⟩
  rw [hA5, hn5, hc5] at N5
  rw [hn5] at L5
  have q5 : n5 ≤ c5 ∧ c5 ≤ 9223372036854775807 ∧ n5 ≤ 1000000 := by omega
  have HL5x := Lib.hid L5
  clear h5 e5 k5 hr5 L4 L5 hA5 hn5 hc5
  go_wp2_with fail
  with_reducible refine N5.out.mono ?_
  rintro e w' ⟨rfl, rfl⟩
  clear N5
  cases b5 with
  | true =>
    have HE : Hid (Rp.rreadR l = none) := by rw [Hid, rreadR_fin2 HH1.out HH2.out HH3.out H4.out H5.out]; exact if_neg (by rintro ⟨h, _⟩; cases h)
    go_wp2_with fail
    refine (rdone_any G A5 n5 c5 true _ (rg_b2 _ _ hz _ _ _ _) (by omega)).mono ?_
    rintro e w' ⟨rfl, rfl⟩
    go_wp2
    exact bodyPost_ret (v := .tuple #[.agg #[.int .u8 0, .int .i64 0, .int .i64 0, .int .i64 0, .string ⟨#[]⟩], .int .i64 8]) (by simp [results, Try.results21, go_sem, hz, hG1, hG2, hG3, hG4, hG5, ko0, ko1, ko2, ko3, ko4]) rfl ⟨by rw [HL.out, HE.out]; rfl, by repeat (first | with_reducible exact HBW.out | with_reducible exact HB6.out | with_reducible refine rg_w2 _ _ ?_ _ _ | with_reducible refine below_drewN ?_ _ | with_reducible refine set_w ?_ _ _ | with_reducible refine Below.drew ?_)⟩
  | false =>
    by_cases z0 : n5 = 0
    rotate_left
    · have z1 : (n5 == 0) = false := by simpa using z0
      have HE : Hid (Rp.rreadR l = none) := by rw [Hid, rreadR_fin2 HH1.out HH2.out HH3.out H4.out H5.out]; exact if_neg (by rintro ⟨_, h, _⟩; have hh := HL5x.out; rw [h] at hh; simp at hh; omega)
      go_wp2_with fail
      refine (rdone_any G A5 n5 c5 false _ (rg_b2 _ _ hz _ _ _ _) (by omega)).mono ?_
      rintro e w' ⟨rfl, rfl⟩
      go_wp2
      exact bodyPost_ret (v := .tuple #[.agg #[.int .u8 0, .int .i64 0, .int .i64 0, .int .i64 0, .string ⟨#[]⟩], .int .i64 8]) (by simp [results, Try.results21, go_sem, hz, hG1, hG2, hG3, hG4, hG5, ko0, ko1, ko2, ko3, ko4]) rfl ⟨by rw [HL.out, HE.out]; rfl, by repeat (first | with_reducible exact HBW.out | with_reducible exact HB6.out | with_reducible refine rg_w2 _ _ ?_ _ _ | with_reducible refine below_drewN ?_ _ | with_reducible refine set_w ?_ _ _ | with_reducible refine Below.drew ?_)⟩
    · have z1 : (n5 == 0) = true := by simpa using z0
      have hl5 : l5 = [] := List.eq_nil_of_length_eq_zero (by rw [HL5x.out]; exact z0)
      have hts : ByteArray.size (S t) = (t : List UInt8).length := S_size _
      have HTS := Lib.hid hts
      have HL5 := Lib.hid hl5
      clear hl5 z0
      cases hm : Rp.mayB (m1 : Int) m2 m3 m4 (t : List UInt8).length with
      | false =>
        have HC : Hid (Rp.mayB (m1 : Int) m2 m3 m4 (ByteArray.size (S t)) = false) := by rw [Hid, hts]; exact hm
        have HE : Hid (Rp.rreadR l = none) := by rw [Hid, rreadR_fin2 HH1.out HH2.out HH3.out H4.out H5.out]; exact if_neg (by rintro ⟨_, _, h⟩; first | (rw [hm] at h; cases h) | (have h2 := h.symm.trans hm; cases h2))
        clear hm hts
        go_wp2_with fail
        refine (rdone_any G A5 n5 c5 false _ (rg_b2 _ _ hz _ _ _ _) (by omega)).mono ?_
        rintro e w' ⟨rfl, rfl⟩
        go_wp2_with fail
        refine (rmay10_any (m1 : Int) m2 m3 m4 (S t) _ (by first | decide | (have := HTS.out; omega))).mono ?_
        rw [HC.out]
        rintro e w6 ⟨rfl, hb⟩
        have ko := Blk.below ((HKO.out.alloc _).alloc _) hb (by simp; omega)
        have HB6 := Lib.hid (then_ (rg_w2 _ _ HBW.out _ _) hb)
        have p0 := ko.cell 0
        have p1 := ko.cell 1
        have p2 := ko.cell 2
        have p3 := ko.cell 3
        have p4 := ko.cell 4
        have u0 := ko.frozen 0
        have u1 := ko.frozen 1
        have u2 := ko.frozen 2
        have u3 := ko.frozen 3
        have u4 := ko.frozen 4
        clear ko hb
        go_wp2
        exact bodyPost_ret (v := .tuple #[.agg #[.int .u8 0, .int .i64 0, .int .i64 0, .int .i64 0, .string ⟨#[]⟩], .int .i64 8]) (by simp [results, Try.results21, go_sem, p0, p1, p2, p3, p4]) rfl ⟨by rw [HL.out, HE.out]; rfl, by repeat (first | with_reducible exact HBW.out | with_reducible exact HB6.out | with_reducible refine rg_w2 _ _ ?_ _ _ | with_reducible refine below_drewN ?_ _ | with_reducible refine set_w ?_ _ _ | with_reducible refine Below.drew ?_)⟩
      | true =>
        have HC : Hid (Rp.mayB (m1 : Int) m2 m3 m4 (ByteArray.size (S t)) = true) := by rw [Hid, hts]; exact hm
        have HE : Hid (Rp.rreadR l = some ⟨(m1 : Int), m2, m3, (m4 : Nat), t⟩) := by rw [Hid, rreadR_fin2 HH1.out HH2.out HH3.out H4.out H5.out]; exact if_pos ⟨rfl, HL5.out, hm⟩
        clear hm hts
        go_wp2_with fail
        refine (rdone_any G A5 n5 c5 false _ (rg_b2 _ _ hz _ _ _ _) (by omega)).mono ?_
        rintro e w' ⟨rfl, rfl⟩
        go_wp2_with fail
        refine (rmay10_any (m1 : Int) m2 m3 m4 (S t) _ (by first | decide | (have := HTS.out; omega))).mono ?_
        rw [HC.out]
        rintro e w6 ⟨rfl, hb⟩
        have ko := Blk.below ((HKO.out.alloc _).alloc _) hb (by simp; omega)
        have HB6 := Lib.hid (then_ (rg_w2 _ _ HBW.out _ _) hb)
        have p0 := ko.cell 0
        have p1 := ko.cell 1
        have p2 := ko.cell 2
        have p3 := ko.cell 3
        have p4 := ko.cell 4
        have u0 := ko.frozen 0
        have u1 := ko.frozen 1
        have u2 := ko.frozen 2
        have u3 := ko.frozen 3
        have u4 := ko.frozen 4
        have kr := Blk.below (rg_r2 _ _ hz _ _ _ _) hb (by simp; omega)
        have r0 := kr.cell 0
        have r1 := kr.cell 1
        have r2 := kr.cell 2
        have r3 := kr.cell 3
        have r4 := kr.cell 4
        clear kr
        clear ko hb
        go_wp2
        exact bodyPost_ret (v := .tuple #[.agg #[.int .u8 (m1 : Int), .int .i64 m2, .int .i64 m3, .int .i64 (m4 : Nat), .string (S t)], .int .i64 0]) (by simp [results, Try.results21, go_sem, p0, p1, p2, p3, p4]) rfl ⟨by rw [HL.out, HE.out]; rfl, by repeat (first | with_reducible exact HBW.out | with_reducible exact HB6.out | with_reducible refine rg_w2 _ _ ?_ _ _ | with_reducible refine below_drewN ?_ _ | with_reducible refine set_w ?_ _ _ | with_reducible refine Below.drew ?_)⟩
end Go.Proofs.Ytdodfpjejjjciaa
