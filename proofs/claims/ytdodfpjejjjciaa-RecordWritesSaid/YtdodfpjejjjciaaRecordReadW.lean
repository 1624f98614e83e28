/-
  record.Read: the call's answer.
-/
import Derived.Test.YtdodfpjejjjciaaRecordRead
import Derived.Test.YtdodfpjejjjciaaRecordWrite
import Derived.Deep.DeepCutAuto
namespace Go.Proofs.Ytdodfpjejjjciaa
open Go.RowKit Bal
set_option maxHeartbeats 16000000
set_option maxRecDepth 100000
set_option linter.unusedVariables false
set_option linter.unusedSimpArgs false

def recV (o : Option Rp.Rec) : Value := match o with
  | some r => .tuple #[.agg #[.int .u8 r.k, .int .i64 r.g, .int .i64 r.s, .int .i64 r.b, .string (S r.v)], .int .i64 0]
  | none => .tuple #[.agg #[.int .u8 0, .int .i64 0, .int .i64 0, .int .i64 0, .string ⟨#[]⟩], .int .i64 8]

/-- The three boxes behind the bytes. -/
theorem rd_b (W1 : World) (G : Nat) (hz : W1.heap.size = G) (t1 t2 t3 : TypeId) (x y : Value) (R : Array Value) : Blk (((W1.alloc (.cells #[x] t1)).alloc (.cells #[y] t2)).alloc (.cells R t3)) G t1 #[x] := by
  subst hz
  exact ((Blk.new W1 _ _).alloc _).alloc _
theorem rd_d (W1 : World) (G : Nat) (hz : W1.heap.size = G) (t1 t2 t3 : TypeId) (x y : Value) (R : Array Value) : Blk (((W1.alloc (.cells #[x] t1)).alloc (.cells #[y] t2)).alloc (.cells R t3)) (G + 1) t2 #[y] := by
  subst hz
  have := (Blk.new (W1.alloc (.cells #[x] t1)) t2 #[y]).alloc (.cells R t3)
  simpa using this
theorem rd_r (W1 : World) (G n : Nat) (hz : W1.heap.size = G) (A : Option Addr) (t1 t2 t3 : TypeId) (x y : Value) (R : Array Value) (xs : List Value) (h : Reads W1 G 1 A n xs) : Reads (((W1.alloc (.cells #[x] t1)).alloc (.cells #[y] t2)).alloc (.cells R t3)) G 1 A n xs := by
  subst hz
  exact ((h.alloc (Nat.le_refl _) _).alloc (by simp) _).alloc (by simp; omega) _
theorem rd_w (w W1 : World) (h : Below w.heap.size w W1) (o1 o2 o3 : Obj) : Below w.heap.size w (((W1.alloc o1).alloc o2).alloc o3) :=
  ((h.alloc h.size _).alloc (by have := h.size; simp; omega) _).alloc (by have := h.size; simp; omega) _

def RdCut (W1 : World) (G : Nat) (l3 : List UInt8) (b3 : Bool) (κ m2 m3 : Nat) (wx : World) : Prop :=
  ∃ (A : Option Addr) (n c m4 : Nat) (l4 : List UInt8) (b4 : Bool), wx = (((W1.alloc (.cells #[.slice A n c] 24)).alloc (.cells #[.bool b4] 4)).alloc (.cells #[.int .u8 (κ : Int), .int .i64 (m2 : Int), .int .i64 (m3 : Int), .int .i64 (m4 : Int), .string ⟨#[]⟩] 36)) ∧ Reads W1 G 1 A n (cb l4) ∧ n ≤ c ∧ c ≤ 9223372036854775807 ∧ n ≤ 1000000 ∧ m4 ≤ 1099511627776 ∧ (if Rp.votes (κ : Int) then Rp.next (l3, b3) else (0, (l3, b3))) = (m4, (l4, b4))
theorem set_w {w W : World} (h : Below w.heap.size w W) (i : Nat) (u : Value) : Below w.heap.size w (W.setCell ⟨w.heap.size, i, none⟩ u) := h.setCell (Nat.le_refl _) u
theorem rd_r3 (W1 : World) (G : Nat) (hz : W1.heap.size = G) (t1 t2 t3 : TypeId) (x y : Value) (R : Array Value) : Blk (((W1.alloc (.cells #[x] t1)).alloc (.cells #[y] t2)).alloc (.cells R t3)) (G + 1 + 1) t3 R := by
  subst hz
  have := Blk.new ((W1.alloc (.cells #[x] t1)).alloc (.cells #[y] t2)) t3 R
  simpa using this
theorem next_le (p : Rp.St) : (Rp.next p).1 ≤ 1099511627776 := by
  unfold Rp.next
  cases h : Nm.get p.1 with
  | none => simp
  | some q => obtain ⟨m, k⟩ := q; exact (Nm.get_back h).1
theorem readR_fin {l l1 l2 l3 l4 l5 t : List UInt8} {m1 m2 m3 m4 κ : Nat} {b1 b2 b3 b4 b5 : Bool} (h1 : Rp.next (l, false) = (m1, (l1, b1))) (h2 : Rp.next (l1, b1) = (m2, (l2, b2))) (h3 : Rp.next (l2, b2) = (m3, (l3, b3))) (hk : m1 % 256 = κ)
    (h4 : (if Rp.votes (κ : Int) then Rp.next (l3, b3) else (0, (l3, b3))) = (m4, (l4, b4))) (h5 : (if Rp.value (κ : Int) && !b4 then Rp.text (l4, b4) else ([], (l4, b4))) = (t, (l5, b5))) :
    Rp.readR l = if b5 = false ∧ l5 = [] ∧ m1 ≤ 255 ∧ Rp.mayB (κ : Int) m2 m3 m4 t.length = true then some ⟨(κ : Int), m2, m3, m4, t⟩ else none := by
  subst hk
  simp only [Rp.readR, h1, h2, h3, h4, h5]

theorem rread_any (s : ByteArray) (w : World) (hs : s.size ≤ 1000000) :
    Calls Try.prog 17 #[.string s] w fun e w' => e = .returned (recV (Rp.readR s.data.toList)) ∧ Below w.heap.size w w' := by
  obtain ⟨l, hl⟩ : ∃ l, s.data.toList = l := ⟨_, rfl⟩
  obtain ⟨⟨m1, l1, b1⟩, h1⟩ : ∃ p, Rp.next (l, false) = p := ⟨_, rfl⟩
  obtain ⟨⟨m2, l2, b2⟩, h2⟩ : ∃ p, Rp.next (l1, b1) = p := ⟨_, rfl⟩
  obtain ⟨⟨m3, l3, b3⟩, h3⟩ : ∃ p, Rp.next (l2, b2) = p := ⟨_, rfl⟩
  obtain ⟨κ, hκ⟩ : ∃ κ, m1 % 256 = κ := ⟨_, rfl⟩
  have hm1 : m1 ≤ 1099511627776 := by
    rcases Rp.next_or l with ⟨n, l', hn, _, h⟩ | h
    · rw [h1] at h
      injection h with h
      omega
    · rw [h1] at h
      injection h with h
      omega
  have hand := and255 m1 (by omega)
  rw [hκ] at hand
  have hκ2 : κ ≤ 255 := by omega
  have e1 : l1 = l.drop (nk l) := by have := next_drop l false; rw [h1] at this; exact this
  have e2 : l2 = l1.drop (nk l1) := by have := next_drop l1 b1; rw [h2] at this; exact this
  have e3 : l3 = l2.drop (nk l2) := by have := next_drop l2 b2; rw [h3] at this; exact this
  have hcv := run_conv_to (w.alloc (.cells #[.int .u8 0, .int .i64 0, .int .i64 0, .int .i64 0, .string ⟨#[]⟩] 36)) s
  have R0 := convW_reads (w.alloc (.cells #[.int .u8 0, .int .i64 0, .int .i64 0, .int .i64 0, .string ⟨#[]⟩] 36)) s
  have hz := convW_size (w.alloc (.cells #[.int .u8 0, .int .i64 0, .int .i64 0, .int .i64 0, .string ⟨#[]⟩] 36)) s
  have hb := convW_below (w.alloc (.cells #[.int .u8 0, .int .i64 0, .int .i64 0, .int .i64 0, .string ⟨#[]⟩] 36)) s
  have hq0 := convC_ge (w.alloc (.cells #[.int .u8 0, .int .i64 0, .int .i64 0, .int .i64 0, .string ⟨#[]⟩] 36)) s
  have hq1 := convC_le (w.alloc (.cells #[.int .u8 0, .int .i64 0, .int .i64 0, .int .i64 0, .string ⟨#[]⟩] 36)) s (by unfold maxLen; omega)
  unfold maxLen at hq1
  rw [hl] at R0
  generalize convW (w.alloc (.cells #[.int .u8 0, .int .i64 0, .int .i64 0, .int .i64 0, .string ⟨#[]⟩] 36)) s = W1 at *
  generalize convC (w.alloc (.cells #[.int .u8 0, .int .i64 0, .int .i64 0, .int .i64 0, .string ⟨#[]⟩] 36)) s = c0 at *
  simp only [World.size_alloc] at hcv R0 hz hb
  obtain ⟨G, hG⟩ : ∃ G, w.heap.size + 1 + 1 = G := ⟨_, rfl⟩
  rw [hG] at R0 hz
  have hG1 : w.heap.size < G := by omega
  have hG2 : w.heap.size < G + 1 := by omega
  have hG3 : w.heap.size < G + 1 + 1 := by omega
  have hG4 : w.heap.size ≠ G := by omega
  have hG5 : w.heap.size ≠ G + 1 := by omega
  have hG6 : w.heap.size ≠ G + 1 + 1 := by omega
  have HBW := Lib.hid (below_of_alloc (hb.mono (B' := w.heap.size) (by omega)) (Nat.le_refl _))
  have KO := Blk.below (Blk.new w 36 #[.int .u8 0, .int .i64 0, .int .i64 0, .int .i64 0, .string ⟨#[]⟩]) hb (by omega)
  have HKO := Lib.hid KO
  have ko0 := KO.cell 0
  have ko1 := KO.cell 1
  have ko2 := KO.cell 2
  have ko3 := KO.cell 3
  have ko4 := KO.cell 4
  have fo0 := KO.frozen 0
  have fo1 := KO.frozen 1
  have fo2 := KO.frozen 2
  have fo3 := KO.frozen 3
  have fo4 := KO.frozen 4
  have L0 := R0.len_b
  have k1 := nk_le l
  have R1 := R0.rest (k := nk l) (by omega) hq0
  rw [cb_drop, ← e1] at R1
  have L1 := R1.len_b
  have k2 := nk_le l1
  have R2 := R1.rest (k := nk l1) (c := c0 - nk l) (by omega) (by omega)
  rw [cb_drop, ← e2] at R2
  have L2 := R2.len_b
  have k3 := nk_le l2
  have R3 := R2.rest (k := nk l2) (c := c0 - nk l - nk l1) (by omega) (by omega)
  rw [cb_drop, ← e3] at R3
  have L3 := R3.len_b
  have HR0 := Lib.hid R0
  have HR1 := Lib.hid R1
  have HR2 := Lib.hid R2
  have HR3 := Lib.hid R3
  have HH1 := Lib.hid h1
  have HH2 := Lib.hid h2
  have HH3 := Lib.hid h3
  have HL := Lib.hid hl
  have HK := Lib.hid hκ
  have HL0 := Lib.hid L0
  have HL1 := Lib.hid L1
  have HL2 := Lib.hid L2
  have HL3 := Lib.hid L3
  clear R0 R1 R2 R3 h1 h2 h3 e1 e2 e3 hl KO hb hκ L0 L1 L2 L3
  obtain ⟨A1, hA1⟩ : ∃ A, cutA (some ⟨w.heap.size + 1, 0, none⟩) c0 (nk l) = A := ⟨_, rfl⟩
  obtain ⟨A2, hA2⟩ : ∃ A, cutA A1 (c0 - nk l) (nk l1) = A := ⟨_, rfl⟩
  obtain ⟨A3, hA3⟩ : ∃ A, cutA A2 (c0 - nk l - nk l1) (nk l2) = A := ⟨_, rfl⟩
  obtain ⟨n1, hn1⟩ : ∃ n, s.size - nk l = n := ⟨_, rfl⟩
  obtain ⟨n2, hn2⟩ : ∃ n, n1 - nk l1 = n := ⟨_, rfl⟩
  obtain ⟨n3, hn3⟩ : ∃ n, n2 - nk l2 = n := ⟨_, rfl⟩
  obtain ⟨c1, hc1⟩ : ∃ n, c0 - nk l = n := ⟨_, rfl⟩
  obtain ⟨c2, hc2⟩ : ∃ n, c1 - nk l1 = n := ⟨_, rfl⟩
  obtain ⟨c3, hc3⟩ : ∃ n, c2 - nk l2 = n := ⟨_, rfl⟩
  simp only [hA1, hn1, hc1] at HR1 HR2 HR3 hA2 hA3 HL1 HL2 HL3 k1 k2 k3
  simp only [hA2, hn2, hc2] at HR2 HR3 hA3 HL2 HL3 k1 k2 k3
  simp only [hA3, hn3, hc3] at HR3 HL3 k1 k2 k3
  have N1 := Lib.hid (rnext_any G (G + 1) (some ⟨w.heap.size + 1, 0, none⟩) s.size c0 G l l1 m1 false b1 (((W1.alloc (.cells #[.slice (some ⟨w.heap.size + 1, 0, none⟩) s.size c0] 24)).alloc (.cells #[.bool false] 4)).alloc (.cells #[.int .u8 0, .int .i64 0, .int .i64 0, .int .i64 0, .string ⟨#[]⟩] 36)) (rd_b _ _ hz _ _ _ _ _ _) (rd_d _ _ hz _ _ _ _ _ _) (rd_r _ _ _ hz _ _ _ _ _ _ _ _ HR0.out) hq0 hq1 hs HH1.out)
  have N2 := Lib.hid (rnext_any G (G + 1) A1 n1 c1 G l1 l2 m2 b1 b2 (((W1.alloc (.cells #[.slice A1 n1 c1] 24)).alloc (.cells #[.bool b1] 4)).alloc (.cells #[.int .u8 0, .int .i64 0, .int .i64 0, .int .i64 0, .string ⟨#[]⟩] 36)) (rd_b _ _ hz _ _ _ _ _ _) (rd_d _ _ hz _ _ _ _ _ _) (rd_r _ _ _ hz _ _ _ _ _ _ _ _ HR1.out) (by omega) (by omega) (by omega) HH2.out)
  have N3 := Lib.hid (rnext_any G (G + 1) A2 n2 c2 G l2 l3 m3 b2 b3 (((W1.alloc (.cells #[.slice A2 n2 c2] 24)).alloc (.cells #[.bool b2] 4)).alloc (.cells #[.int .u8 0, .int .i64 0, .int .i64 0, .int .i64 0, .string ⟨#[]⟩] 36)) (rd_b _ _ hz _ _ _ _ _ _) (rd_d _ _ hz _ _ _ _ _ _) (rd_r _ _ _ hz _ _ _ _ _ _ _ _ HR2.out) (by omega) (by omega) (by omega) HH3.out)
  rw [hA1, hn1, hc1] at N1
  rw [hA2, hn2, hc2] at N2
  rw [hA3, hn3, hc3] at N3
  have q3 : n3 ≤ c3 ∧ c3 ≤ 9223372036854775807 ∧ n3 ≤ 1000000 := by omega
  clear hA1 hA2 hA3 hn1 hn2 hn3 hc1 hc2 hc3 k1 k2 k3 hq0 hq1
  have hgg : w.heap.size + 1 + 1 = G := hG
  clear hG
  go_enter Try.func17, Try.ntmps17
  go_wp2_with fail
  with_reducible refine N1.out.mono ?_
  rintro e w' ⟨rfl, rfl⟩
  go_wp2_with fail
  with_reducible refine N2.out.mono ?_
  rintro e w' ⟨rfl, rfl⟩
  go_wp2_with fail
  with_reducible refine N3.out.mono ?_
  rintro e w' ⟨rfl, rfl⟩
  go_wp2_with fail
  refine (has_any (κ : Int) _).mono ?_
  rintro e w' ⟨rfl, rfl⟩
  clear N1 N2 N3
  go_upto_if 35 with fail
  go_cut [9, 37] (fun _ _ wx => RdCut W1 G l3 b3 κ m2 m3 wx)
  case first =>
    cases hv : Rp.votes (κ : Int) with
    | true =>
      obtain ⟨⟨m4, l4, b4⟩, h4⟩ : ∃ p, Rp.next (l3, b3) = p := ⟨_, rfl⟩
      have N4 := Lib.hid (rnext_any G (G + 1) A3 n3 c3 G l3 l4 m4 b3 b4 (((W1.alloc (.cells #[.slice A3 n3 c3] 24)).alloc (.cells #[.bool b3] 4)).alloc (.cells #[.int .u8 (κ : Int), .int .i64 (m2 : Int), .int .i64 (m3 : Int), .int .i64 0, .string ⟨#[]⟩] 36)) (rd_b _ _ hz _ _ _ _ _ _) (rd_d _ _ hz _ _ _ _ _ _) (rd_r _ _ _ hz _ _ _ _ _ _ _ _ HR3.out) q3.1 q3.2.1 q3.2.2 h4)
      have k4 := nk_le l3
      have HL3' := HL3.out
      have R4 := HR3.out.rest (k := nk l3) (c := c3) (by omega) (by omega)
      have e4 : l4 = l3.drop (nk l3) := by have := next_drop l3 b3; rw [h4] at this; exact this
      rw [cb_drop, ← e4] at R4
      have H4 := Lib.hid h4
      have HR4 := Lib.hid R4
      have hq : n3 - nk l3 ≤ c3 - nk l3 ∧ c3 - nk l3 ≤ 9223372036854775807 ∧ n3 - nk l3 ≤ 1000000 := by omega
      have HQ := Lib.hid hq
      clear h4 R4 e4 HL3' k4 hq
      go_wp2_with fail
      with_reducible refine N4.out.mono ?_
      rintro e w' ⟨rfl, rfl⟩
      go_wp2_with fail
      go_meet
      exact ⟨_, _, _, m4, l4, b4, rfl, HR4.out, HQ.out.1, HQ.out.2.1, HQ.out.2.2, by have := next_le (l3, b3); rw [H4.out] at this; exact this, by rw [if_pos hv]; exact H4.out⟩
    | false =>
      go_wp2_with fail
      go_meet
      exact ⟨A3, n3, c3, 0, l3, b3, rfl, HR3.out, q3.1, q3.2.1, q3.2.2, Nat.zero_le _, by rw [if_neg (by rw [hv]; decide)]⟩
  case rest =>
    obtain ⟨A4, n4, c4, m4, l4, b4, rfl, R4, q4, q5, q6, q7, h4⟩ := hcut
    have HR4 := Lib.hid R4
    have H4 := Lib.hid h4
    have L4 := R4.len_b
    have HL4 := Lib.hid L4
    clear R4 h4 L4
    cases hj : Rp.value (κ : Int) with
    | false =>
      have h5 : (if Rp.value (κ : Int) && !b4 then Rp.text (l4, b4) else ([], (l4, b4))) = ([], (l4, b4)) := by rw [if_neg (by rw [hj]; simp)]
      cases b4 with
      | true =>
        have HE : Hid (Rp.readR l = none) := by rw [Hid, readR_fin HH1.out HH2.out HH3.out HK.out H4.out h5]; exact if_neg (by simp)
        clear h5
        go_wp2
        exact bodyPost_ret (v := .tuple #[.agg #[.int .u8 0, .int .i64 0, .int .i64 0, .int .i64 0, .string ⟨#[]⟩], .int .i64 8]) (by simp [results, Try.results17, go_sem, hz, hG1, hG2, hG3, hG4, hG5, hG6, ko0, ko1, ko2, ko3, ko4]) rfl ⟨by rw [HL.out, HE.out]; rfl, by repeat (first | with_reducible exact HBW.out | with_reducible exact HB6.out | with_reducible refine rd_w _ _ ?_ _ _ _ | with_reducible refine below_drewN ?_ _ | with_reducible refine set_w ?_ _ _ | with_reducible refine Below.drew ?_)⟩
      | false =>
        by_cases z0 : n4 = 0
        rotate_left
        · have z1 : (0 : Int) < (n4 : Int) := by omega
          have HE : Hid (Rp.readR l = none) := by rw [Hid, readR_fin HH1.out HH2.out HH3.out HK.out H4.out h5]; exact if_neg (by rintro ⟨_, h, _⟩; have hh := HL4.out; rw [h] at hh; simp at hh; omega)
          clear h5
          go_wp2
          exact bodyPost_ret (v := .tuple #[.agg #[.int .u8 0, .int .i64 0, .int .i64 0, .int .i64 0, .string ⟨#[]⟩], .int .i64 8]) (by simp [results, Try.results17, go_sem, hz, hG1, hG2, hG3, hG4, hG5, hG6, ko0, ko1, ko2, ko3, ko4]) rfl ⟨by rw [HL.out, HE.out]; rfl, by repeat (first | with_reducible exact HBW.out | with_reducible exact HB6.out | with_reducible refine rd_w _ _ ?_ _ _ _ | with_reducible refine below_drewN ?_ _ | with_reducible refine set_w ?_ _ _ | with_reducible refine Below.drew ?_)⟩
        · by_cases mm : m1 ≤ 255
          rotate_left
          · have z2 : (255 : Int) < (m1 : Int) := by omega
            have HE : Hid (Rp.readR l = none) := by rw [Hid, readR_fin HH1.out HH2.out HH3.out HK.out H4.out h5]; exact if_neg (by rintro ⟨_, _, h, _⟩; omega)
            clear h5
            go_wp2
            exact bodyPost_ret (v := .tuple #[.agg #[.int .u8 0, .int .i64 0, .int .i64 0, .int .i64 0, .string ⟨#[]⟩], .int .i64 8]) (by simp [results, Try.results17, go_sem, hz, hG1, hG2, hG3, hG4, hG5, hG6, ko0, ko1, ko2, ko3, ko4]) rfl ⟨by rw [HL.out, HE.out]; rfl, by repeat (first | with_reducible exact HBW.out | with_reducible exact HB6.out | with_reducible refine rd_w _ _ ?_ _ _ _ | with_reducible refine below_drewN ?_ _ | with_reducible refine set_w ?_ _ _ | with_reducible refine Below.drew ?_)⟩
          · have z2 : ¬ (255 : Int) < (m1 : Int) := by omega
            have hl5 : l4 = [] := List.eq_nil_of_length_eq_zero (by rw [HL4.out]; exact z0)
            have hts : ByteArray.size ⟨#[]⟩ = ([] : List UInt8).length := rfl
            cases hm : Rp.mayB (κ : Int) m2 m3 m4 ([] : List UInt8).length with
            | false =>
              have HC : Hid (rE (κ : Int) m2 m3 m4 (ByteArray.size ⟨#[]⟩) = 8) := by rw [Hid, hts]; exact rE_bad hm
              have HTS := Lib.hid hts
              have HE : Hid (Rp.readR l = none) := by rw [Hid, readR_fin HH1.out HH2.out HH3.out HK.out H4.out h5]; exact if_neg (by rintro ⟨_, _, _, h⟩; rw [hm] at h; cases h)
              clear h5 hl5 hm hts
              go_wp2_with fail
              refine (rcheck_any10 (κ : Int) m2 m3 m4 ⟨#[]⟩ _ (by first | decide | (have := HTS.out; omega)) (by omega) (by omega)).mono ?_
              rw [HC.out]
              rintro e w6 ⟨rfl, hb⟩
              have ko := Blk.below (by first | exact ((HKO.out.alloc _).alloc _).alloc _ | exact (((HKO.out.alloc _).alloc _).alloc _).drewN 1) hb (by simp; omega)
              have HB6 := Lib.hid (then_ (by first | exact rd_w _ _ HBW.out _ _ _ | exact below_drewN (rd_w _ _ HBW.out _ _ _) 1) hb)
              have p0 := ko.cell 0
              have p1 := ko.cell 1
              have p2 := ko.cell 2
              have p3 := ko.cell 3
              have p4 := ko.cell 4
              have u0 := ko.frozen 0
              have u1 := ko.frozen 1
              have u2 := ko.frozen 2
              have u3 := ko.frozen 3
              have u4 := ko.frozen 4
              clear ko hb
              go_wp2
              exact bodyPost_ret (v := .tuple #[.agg #[.int .u8 0, .int .i64 0, .int .i64 0, .int .i64 0, .string ⟨#[]⟩], .int .i64 8]) (by simp [results, Try.results17, go_sem, p0, p1, p2, p3, p4]) rfl ⟨by rw [HL.out, HE.out]; rfl, by repeat (first | with_reducible exact HBW.out | with_reducible exact HB6.out | with_reducible refine rd_w _ _ ?_ _ _ _ | with_reducible refine below_drewN ?_ _ | with_reducible refine set_w ?_ _ _ | with_reducible refine Below.drew ?_)⟩
            | true =>
              have HC : Hid (rE (κ : Int) m2 m3 m4 (ByteArray.size ⟨#[]⟩) = 0) := by rw [Hid, hts]; exact rE_ok hm
              have HTS := Lib.hid hts
              have HE : Hid (Rp.readR l = some ⟨(κ : Int), m2, m3, m4, []⟩) := by rw [Hid, readR_fin HH1.out HH2.out HH3.out HK.out H4.out h5]; exact if_pos ⟨rfl, hl5, mm, hm⟩
              clear h5 hl5 hm hts
              go_wp2_with fail
              refine (rcheck_any10 (κ : Int) m2 m3 m4 ⟨#[]⟩ _ (by first | decide | (have := HTS.out; omega)) (by omega) (by omega)).mono ?_
              rw [HC.out]
              rintro e w6 ⟨rfl, hb⟩
              have ko := Blk.below (by first | exact ((HKO.out.alloc _).alloc _).alloc _ | exact (((HKO.out.alloc _).alloc _).alloc _).drewN 1) hb (by simp; omega)
              have HB6 := Lib.hid (then_ (by first | exact rd_w _ _ HBW.out _ _ _ | exact below_drewN (rd_w _ _ HBW.out _ _ _) 1) hb)
              have p0 := ko.cell 0
              have p1 := ko.cell 1
              have p2 := ko.cell 2
              have p3 := ko.cell 3
              have p4 := ko.cell 4
              have u0 := ko.frozen 0
              have u1 := ko.frozen 1
              have u2 := ko.frozen 2
              have u3 := ko.frozen 3
              have u4 := ko.frozen 4
              have kr := Blk.below (by first | exact rd_r3 _ _ hz _ _ _ _ _ _ | exact (rd_r3 _ _ hz _ _ _ _ _ _).drewN 1) hb (by simp; omega)
              have r0 := kr.cell 0
              have r1 := kr.cell 1
              have r2 := kr.cell 2
              have r3 := kr.cell 3
              have r4 := kr.cell 4
              clear ko kr hb
              go_wp2
              exact bodyPost_ret (v := .tuple #[.agg #[.int .u8 (κ : Int), .int .i64 m2, .int .i64 m3, .int .i64 m4, .string ⟨#[]⟩], .int .i64 0]) (by simp [results, Try.results17, go_sem, p0, p1, p2, p3, p4]) rfl ⟨by rw [HL.out, HE.out]; rfl, by repeat (first | with_reducible exact HBW.out | with_reducible exact HB6.out | with_reducible refine rd_w _ _ ?_ _ _ _ | with_reducible refine below_drewN ?_ _ | with_reducible refine set_w ?_ _ _ | with_reducible refine Below.drew ?_)⟩
    | true =>
      cases b4 with
      | true =>
        have h5 : (if Rp.value (κ : Int) && !true then Rp.text (l4, true) else ([], (l4, true))) = ([], (l4, true)) := by rw [if_neg (by simp)]
        have HE : Hid (Rp.readR l = none) := by rw [Hid, readR_fin HH1.out HH2.out HH3.out HK.out H4.out h5]; exact if_neg (by simp)
        clear h5
        go_wp2
        exact bodyPost_ret (v := .tuple #[.agg #[.int .u8 0, .int .i64 0, .int .i64 0, .int .i64 0, .string ⟨#[]⟩], .int .i64 8]) (by simp [results, Try.results17, go_sem, hz, hG1, hG2, hG3, hG4, hG5, hG6, ko0, ko1, ko2, ko3, ko4]) rfl ⟨by rw [HL.out, HE.out]; rfl, by repeat (first | with_reducible exact HBW.out | with_reducible exact HB6.out | with_reducible refine rd_w _ _ ?_ _ _ _ | with_reducible refine below_drewN ?_ _ | with_reducible refine set_w ?_ _ _ | with_reducible refine Below.drew ?_)⟩
      | false =>
        have T := getText_any A4 n4 c4 G l4 (((W1.alloc (.cells #[.slice A4 n4 c4] 24)).alloc (.cells #[.bool false] 4)).alloc (.cells #[.int .u8 (κ : Int), .int .i64 (m2 : Int), .int .i64 (m3 : Int), .int .i64 (m4 : Int), .string ⟨#[]⟩] 36)) (rd_r _ _ _ hz _ _ _ _ _ _ _ _ HR4.out) q4 (by omega)
        cases hg : Nm.getText l4 with
        | none =>
          rw [hg] at T
          have HT := Lib.hid T
          have h5 : (if Rp.value (κ : Int) && !false then Rp.text (l4, false) else ([], (l4, false))) = ([], (l4, true)) := by rw [if_pos (by rw [hj]; rfl)]; simp [Rp.text, hg]
          have hs0 := fun w => run_slice_from (P := Try.prog) Try.underlying24 A4 n4 c4 0 (by omega) w u8_size
          rw [cutA_zero, Nat.sub_zero, Nat.sub_zero, Int.natCast_zero] at hs0
          have H5 := Lib.hid h5
          clear T hg h5
          go_wp2_with fail
          with_reducible refine HT.out.mono ?_
          rintro e w' ⟨rfl, rfl⟩
          unfold getTextV
          go_wp2_with fail
          go_region
          all_goals
            have h5 := H5.out
            have HE : Hid (Rp.readR l = none) := by rw [Hid, readR_fin HH1.out HH2.out HH3.out HK.out H4.out h5]; exact if_neg (by simp)
            clear h5
            go_wp2
            exact bodyPost_ret (v := .tuple #[.agg #[.int .u8 0, .int .i64 0, .int .i64 0, .int .i64 0, .string ⟨#[]⟩], .int .i64 8]) (by simp [results, Try.results17, go_sem, hz, hG1, hG2, hG3, hG4, hG5, hG6, ko0, ko1, ko2, ko3, ko4]) rfl ⟨by rw [HL.out, HE.out]; rfl, by repeat (first | with_reducible exact HBW.out | with_reducible exact HB6.out | with_reducible refine rd_w _ _ ?_ _ _ _ | with_reducible refine below_drewN ?_ _ | with_reducible refine set_w ?_ _ _ | with_reducible refine Below.drew ?_)⟩
        | some p =>
          obtain ⟨t, k⟩ := p
          obtain ⟨g1, g2, g3, g4, g5⟩ := Nm.getText_back hg
          rw [hg] at T
          have HT := Lib.hid T
          have h5 : (if Rp.value (κ : Int) && !false then Rp.text (l4, false) else ([], (l4, false))) = (t, (l4.drop k, false)) := by rw [if_pos (by rw [hj]; rfl)]; simp [Rp.text, hg]
          have hkn : k ≤ n4 := by have := HL4.out; omega
          have hs0 := fun w => run_slice_from (P := Try.prog) Try.underlying24 A4 n4 c4 k hkn w u8_size
          obtain ⟨A5, hA5⟩ : ∃ A, cutA A4 c4 k = A := ⟨_, rfl⟩
          obtain ⟨n5, hn5⟩ : ∃ n, n4 - k = n := ⟨_, rfl⟩
          obtain ⟨c5, hc5⟩ : ∃ n, c4 - k = n := ⟨_, rfl⟩
          have hz5 : (l4.drop k).length = n5 := by rw [List.length_drop, HL4.out, hn5]
          have HZ5 := Lib.hid hz5
          rw [hA5, hn5, hc5] at hs0
          have hq : n5 ≤ c5 ∧ c5 ≤ 9223372036854775807 ∧ n5 ≤ 1000000 ∧ t.length ≤ 1000000 := by omega
          obtain ⟨v1, v2, v3, v4⟩ := hq
          have H5 := Lib.hid h5
          clear T hg g2 g3 g4 g5 hA5 hn5 hc5 h5 hz5
          go_wp2_with fail
          with_reducible refine HT.out.mono ?_
          rintro e w' ⟨rfl, rfl⟩
          unfold getTextV
          go_wp2_with fail
          go_region
          all_goals
            have h5 := H5.out
            by_cases z0 : n5 = 0
            rotate_left
            · have z1 : (0 : Int) < (n5 : Int) := by omega
              have HE : Hid (Rp.readR l = none) := by rw [Hid, readR_fin HH1.out HH2.out HH3.out HK.out H4.out h5]; exact if_neg (by rintro ⟨_, h, _⟩; have hh := HZ5.out; rw [h] at hh; simp at hh; omega)
              clear h5
              go_wp2
              exact bodyPost_ret (v := .tuple #[.agg #[.int .u8 0, .int .i64 0, .int .i64 0, .int .i64 0, .string ⟨#[]⟩], .int .i64 8]) (by simp [results, Try.results17, go_sem, hz, hG1, hG2, hG3, hG4, hG5, hG6, ko0, ko1, ko2, ko3, ko4]) rfl ⟨by rw [HL.out, HE.out]; rfl, by repeat (first | with_reducible exact HBW.out | with_reducible exact HB6.out | with_reducible refine rd_w _ _ ?_ _ _ _ | with_reducible refine below_drewN ?_ _ | with_reducible refine set_w ?_ _ _ | with_reducible refine Below.drew ?_)⟩
            · by_cases mm : m1 ≤ 255
              rotate_left
              · have z2 : (255 : Int) < (m1 : Int) := by omega
                have HE : Hid (Rp.readR l = none) := by rw [Hid, readR_fin HH1.out HH2.out HH3.out HK.out H4.out h5]; exact if_neg (by rintro ⟨_, _, h, _⟩; omega)
                clear h5
                go_wp2
                exact bodyPost_ret (v := .tuple #[.agg #[.int .u8 0, .int .i64 0, .int .i64 0, .int .i64 0, .string ⟨#[]⟩], .int .i64 8]) (by simp [results, Try.results17, go_sem, hz, hG1, hG2, hG3, hG4, hG5, hG6, ko0, ko1, ko2, ko3, ko4]) rfl ⟨by rw [HL.out, HE.out]; rfl, by repeat (first | with_reducible exact HBW.out | with_reducible exact HB6.out | with_reducible refine rd_w _ _ ?_ _ _ _ | with_reducible refine below_drewN ?_ _ | with_reducible refine set_w ?_ _ _ | with_reducible refine Below.drew ?_)⟩
              · have z2 : ¬ (255 : Int) < (m1 : Int) := by omega
                have hl5 : (l4.drop k) = [] := List.eq_nil_of_length_eq_zero (by rw [HZ5.out]; exact z0)
                have hts : ByteArray.size (S t) = (t : List UInt8).length := S_size _
                cases hm : Rp.mayB (κ : Int) m2 m3 m4 (t : List UInt8).length with
                | false =>
                  have HC : Hid (rE (κ : Int) m2 m3 m4 (ByteArray.size (S t)) = 8) := by rw [Hid, hts]; exact rE_bad hm
                  have HTS := Lib.hid hts
                  have HE : Hid (Rp.readR l = none) := by rw [Hid, readR_fin HH1.out HH2.out HH3.out HK.out H4.out h5]; exact if_neg (by rintro ⟨_, _, _, h⟩; rw [hm] at h; cases h)
                  clear h5 hl5 hm hts
                  go_wp2_with fail
                  refine (rcheck_any10 (κ : Int) m2 m3 m4 (S t) _ (by first | decide | (have := HTS.out; omega)) (by omega) (by omega)).mono ?_
                  rw [HC.out]
                  rintro e w6 ⟨rfl, hb⟩
                  have ko := Blk.below (by first | exact ((HKO.out.alloc _).alloc _).alloc _ | exact (((HKO.out.alloc _).alloc _).alloc _).drewN 1) hb (by simp; omega)
                  have HB6 := Lib.hid (then_ (by first | exact rd_w _ _ HBW.out _ _ _ | exact below_drewN (rd_w _ _ HBW.out _ _ _) 1) hb)
                  have p0 := ko.cell 0
                  have p1 := ko.cell 1
                  have p2 := ko.cell 2
                  have p3 := ko.cell 3
                  have p4 := ko.cell 4
                  have u0 := ko.frozen 0
                  have u1 := ko.frozen 1
                  have u2 := ko.frozen 2
                  have u3 := ko.frozen 3
                  have u4 := ko.frozen 4
                  clear ko hb
                  go_wp2
                  exact bodyPost_ret (v := .tuple #[.agg #[.int .u8 0, .int .i64 0, .int .i64 0, .int .i64 0, .string ⟨#[]⟩], .int .i64 8]) (by simp [results, Try.results17, go_sem, p0, p1, p2, p3, p4]) rfl ⟨by rw [HL.out, HE.out]; rfl, by repeat (first | with_reducible exact HBW.out | with_reducible exact HB6.out | with_reducible refine rd_w _ _ ?_ _ _ _ | with_reducible refine below_drewN ?_ _ | with_reducible refine set_w ?_ _ _ | with_reducible refine Below.drew ?_)⟩
                | true =>
                  have HC : Hid (rE (κ : Int) m2 m3 m4 (ByteArray.size (S t)) = 0) := by rw [Hid, hts]; exact rE_ok hm
                  have HTS := Lib.hid hts
                  have HE : Hid (Rp.readR l = some ⟨(κ : Int), m2, m3, m4, t⟩) := by rw [Hid, readR_fin HH1.out HH2.out HH3.out HK.out H4.out h5]; exact if_pos ⟨rfl, hl5, mm, hm⟩
                  clear h5 hl5 hm hts
                  go_wp2_with fail
                  refine (rcheck_any10 (κ : Int) m2 m3 m4 (S t) _ (by first | decide | (have := HTS.out; omega)) (by omega) (by omega)).mono ?_
                  rw [HC.out]
                  rintro e w6 ⟨rfl, hb⟩
                  have ko := Blk.below (by first | exact ((HKO.out.alloc _).alloc _).alloc _ | exact (((HKO.out.alloc _).alloc _).alloc _).drewN 1) hb (by simp; omega)
                  have HB6 := Lib.hid (then_ (by first | exact rd_w _ _ HBW.out _ _ _ | exact below_drewN (rd_w _ _ HBW.out _ _ _) 1) hb)
                  have p0 := ko.cell 0
                  have p1 := ko.cell 1
                  have p2 := ko.cell 2
                  have p3 := ko.cell 3
                  have p4 := ko.cell 4
                  have u0 := ko.frozen 0
                  have u1 := ko.frozen 1
                  have u2 := ko.frozen 2
                  have u3 := ko.frozen 3
                  have u4 := ko.frozen 4
                  have kr := Blk.below (by first | exact rd_r3 _ _ hz _ _ _ _ _ _ | exact (rd_r3 _ _ hz _ _ _ _ _ _).drewN 1) hb (by simp; omega)
                  have r0 := kr.cell 0
                  have r1 := kr.cell 1
                  have r2 := kr.cell 2
                  have r3 := kr.cell 3
                  have r4 := kr.cell 4
                  clear ko kr hb
                  go_wp2
                  exact bodyPost_ret (v := .tuple #[.agg #[.int .u8 (κ : Int), .int .i64 m2, .int .i64 m3, .int .i64 m4, .string (S t)], .int .i64 0]) (by simp [results, Try.results17, go_sem, p0, p1, p2, p3, p4]) rfl ⟨by rw [HL.out, HE.out]; rfl, by repeat (first | with_reducible exact HBW.out | with_reducible exact HB6.out | with_reducible refine rd_w _ _ ?_ _ _ _ | with_reducible refine below_drewN ?_ _ | with_reducible refine set_w ?_ _ _ | with_reducible refine Below.drew ?_)⟩
end Go.Proofs.Ytdodfpjejjjciaa
