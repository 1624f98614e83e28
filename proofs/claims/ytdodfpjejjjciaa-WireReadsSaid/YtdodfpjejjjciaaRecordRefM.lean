/-
  The reference of layer 10: May, Text, Write.
-/
import Derived.Test.YtdodfpjejjjciaaRecordWrite
import Derived.Test.YtdodfpjejjjciaaNumRef
namespace Go.Proofs.Ytdodfpjejjjciaa
open Go.RowKit Bal
set_option maxHeartbeats 2000000
set_option maxRecDepth 100000
set_option linter.unusedVariables false
set_option linter.unusedSimpArgs false

theorem rmay10_any (k g s b : Int) (v : ByteArray) (w : World) (hs : v.size ≤ 9223372036854775807) :
    Calls Try.prog 22 #[.agg #[.int .u8 k, .int .i64 g, .int .i64 s, .int .i64 b, .string v]] w fun e w' => e = .returned (.bool (Rp.mayB k g s b v.size)) ∧ Below w.heap.size w w' := by
  have hem : v.toList.isEmpty = (v.size == 0) := by
    rw [Bool.eq_iff_iff, List.isEmpty_iff_length_eq_zero, toList_of, size_data]
    simp
  have HM := Lib.hid hem
  clear hem
  by_cases c0 : 0 ≤ g
  rotate_left
  · have q0 : g < 0 := by omega
    have HE : Hid (Rp.mayB k g s b v.size = false) := by simp [Hid, Rp.mayB, Rp.votes, Rp.value, c0]
    go_enter Try.func22, Try.ntmps22
    go_wp2
    go_ret
    rw [HE.out]
    exact ⟨rfl, (Below.refl _ _).alloc (Nat.le_refl _) _⟩
  by_cases c1 : g < 4
  rotate_left
  · have q1 : 4 ≤ g := by omega
    have HE : Hid (Rp.mayB k g s b v.size = false) := by simp [Hid, Rp.mayB, Rp.votes, Rp.value, c1]
    go_enter Try.func22, Try.ntmps22
    go_wp2
    go_ret
    rw [HE.out]
    exact ⟨rfl, (Below.refl _ _).alloc (Nat.le_refl _) _⟩
  by_cases c2 : 1 ≤ s
  rotate_left
  · have q2 : s < 1 := by omega
    have HE : Hid (Rp.mayB k g s b v.size = false) := by simp [Hid, Rp.mayB, Rp.votes, Rp.value, c2]
    go_enter Try.func22, Try.ntmps22
    go_wp2
    go_ret
    rw [HE.out]
    exact ⟨rfl, (Below.refl _ _).alloc (Nat.le_refl _) _⟩
  by_cases c3 : s ≤ 200
  rotate_left
  · have q3 : 200 < s := by omega
    have HE : Hid (Rp.mayB k g s b v.size = false) := by simp [Hid, Rp.mayB, Rp.votes, Rp.value, c3]
    go_enter Try.func22, Try.ntmps22
    go_wp2
    go_ret
    rw [HE.out]
    exact ⟨rfl, (Below.refl _ _).alloc (Nat.le_refl _) _⟩
  by_cases h1 : k = 1
  · subst h1
    cases hb : may b with
    | false =>
      have HB := Lib.hid (rmay_no (w.alloc (.cells #[.int .u8 1, .int .i64 g, .int .i64 s, .int .i64 b, .string v] 36)) b hb)
      have HE : Hid (Rp.mayB 1 g s b v.size = false) := by simp [Hid, Rp.mayB, Rp.votes, Rp.value, c0, c1, c2, c3, hb]
      go_enter Try.func22, Try.ntmps22
      go_wp2_with (first | (with_reducible refine HB.out.mono ?_; rintro e w' ⟨rfl, rfl⟩))
      go_ret
      rw [HE.out]
      exact ⟨rfl, (Below.refl _ _).alloc (Nat.le_refl _) _⟩
    | true =>
      have HB := Lib.hid (rmay_yes (w.alloc (.cells #[.int .u8 1, .int .i64 g, .int .i64 s, .int .i64 b, .string v] 36)) b hb)
      cases he : v.toList.isEmpty with
      | false =>
        have he2 : (v.size == 0) = false := HM.out.symm.trans he
        have HE : Hid (Rp.mayB 1 g s b v.size = false) := by simp [Hid, Rp.mayB, Rp.votes, Rp.value, c0, c1, c2, c3, hb, he2]
        go_enter Try.func22, Try.ntmps22
        go_wp2_with (first | (with_reducible refine HB.out.mono ?_; rintro e w' ⟨rfl, rfl⟩))
        go_ret
        rw [HE.out]
        exact ⟨rfl, (Below.refl _ _).alloc (Nat.le_refl _) _⟩
      | true =>
        have he2 : (v.size == 0) = true := HM.out.symm.trans he
        have he3 : v.size = 0 := by simpa using he2
        have HE : Hid (Rp.mayB 1 g s b v.size = true) := by simp [Hid, Rp.mayB, Rp.votes, Rp.value, c0, c1, c2, c3, hb, he2, he3]
        go_enter Try.func22, Try.ntmps22
        go_wp2_with (first | (with_reducible refine HB.out.mono ?_; rintro e w' ⟨rfl, rfl⟩))
        go_ret
        rw [HE.out]
        exact ⟨rfl, (Below.refl _ _).alloc (Nat.le_refl _) _⟩
  by_cases h2 : k = 2
  · subst h2
    cases hb : may b with
    | false =>
      have HB := Lib.hid (rmay_no (w.alloc (.cells #[.int .u8 2, .int .i64 g, .int .i64 s, .int .i64 b, .string v] 36)) b hb)
      have HE : Hid (Rp.mayB 2 g s b v.size = false) := by simp [Hid, Rp.mayB, Rp.votes, Rp.value, c0, c1, c2, c3, hb]
      go_enter Try.func22, Try.ntmps22
      go_wp2_with (first | (with_reducible refine HB.out.mono ?_; rintro e w' ⟨rfl, rfl⟩))
      go_ret
      rw [HE.out]
      exact ⟨rfl, (Below.refl _ _).alloc (Nat.le_refl _) _⟩
    | true =>
      have HB := Lib.hid (rmay_yes (w.alloc (.cells #[.int .u8 2, .int .i64 g, .int .i64 s, .int .i64 b, .string v] 36)) b hb)
      cases z : decide ((v.size : Int) ≤ 1024) with
      | true =>
        have z2 : v.size ≤ 1024 := by have := of_decide_eq_true z; omega
        have HE : Hid (Rp.mayB 2 g s b v.size = true) := by simp [Hid, Rp.mayB, Rp.votes, Rp.value, c0, c1, c2, c3, hb, z2]
        go_enter Try.func22, Try.ntmps22
        go_wp2_with (first | (with_reducible refine HB.out.mono ?_; rintro e w' ⟨rfl, rfl⟩))
        go_ret
        rw [HE.out]
        exact ⟨rfl, (Below.refl _ _).alloc (Nat.le_refl _) _⟩
      | false =>
        have z2 : ¬ v.size ≤ 1024 := by have := of_decide_eq_false z; omega
        have HE : Hid (Rp.mayB 2 g s b v.size = false) := by simp [Hid, Rp.mayB, Rp.votes, Rp.value, c0, c1, c2, c3, hb, z2]
        go_enter Try.func22, Try.ntmps22
        go_wp2_with (first | (with_reducible refine HB.out.mono ?_; rintro e w' ⟨rfl, rfl⟩))
        go_ret
        rw [HE.out]
        exact ⟨rfl, (Below.refl _ _).alloc (Nat.le_refl _) _⟩
  by_cases h3 : k = 3
  · subst h3
    cases hb : (b == 0) with
    | false =>
      have HE : Hid (Rp.mayB 3 g s b v.size = false) := by simp [Hid, Rp.mayB, Rp.votes, Rp.value, c0, c1, c2, c3, hb]
      go_enter Try.func22, Try.ntmps22
      go_wp2
      go_ret
      rw [HE.out]
      exact ⟨rfl, (Below.refl _ _).alloc (Nat.le_refl _) _⟩
    | true =>
      cases z : decide ((v.size : Int) ≤ 1024) with
      | true =>
        have z2 : v.size ≤ 1024 := by have := of_decide_eq_true z; omega
        have HE : Hid (Rp.mayB 3 g s b v.size = true) := by simp [Hid, Rp.mayB, Rp.votes, Rp.value, c0, c1, c2, c3, hb, z2]
        go_enter Try.func22, Try.ntmps22
        go_wp2
        go_ret
        rw [HE.out]
        exact ⟨rfl, (Below.refl _ _).alloc (Nat.le_refl _) _⟩
      | false =>
        have z2 : ¬ v.size ≤ 1024 := by have := of_decide_eq_false z; omega
        have HE : Hid (Rp.mayB 3 g s b v.size = false) := by simp [Hid, Rp.mayB, Rp.votes, Rp.value, c0, c1, c2, c3, hb, z2]
        go_enter Try.func22, Try.ntmps22
        go_wp2
        go_ret
        rw [HE.out]
        exact ⟨rfl, (Below.refl _ _).alloc (Nat.le_refl _) _⟩
  have q1 : (k == 1) = false := by simpa using h1
  have q2 : (k == 2) = false := by simpa using h2
  have q3 : (k == 3) = false := by simpa using h3
  clear h1 h2 h3
  have HE : Hid (Rp.mayB k g s b v.size = false) := by simp [Hid, Rp.mayB, Rp.votes, Rp.value, q1, q2, q3]
  go_enter Try.func22, Try.ntmps22
  go_wp2
  go_ret
  rw [HE.out]
  exact ⟨rfl, (Below.refl _ _).alloc (Nat.le_refl _) _⟩

theorem rbytes_is (n : Int) (l : List UInt8) (k : Nat) (w : World) (h0 : 0 ≤ n) (h1 : n ≤ 9223372036854775807) (hl : Nm.enc n.toNat = l) (hk : l.length = k) :
    Calls Try.prog 60 #[.int .i64 n] w fun e w' => ∃ A c, e = .returned (.slice A k c) ∧ w'.ownsRow w.heap.size 5 1 (.slice A k c) k (cb l) ∧ Below w.heap.size w w' := by
  subst hk hl
  exact rbytes_any n w h0 h1
/-- Two bytes that are laid at once. -/
theorem own_two (w : World) (x y : UInt8) : (w.alloc (.cells #[.int .u8 (x.toNat : Int), .int .u8 (y.toNat : Int)] 5)).ownsRow w.heap.size 5 1 (.slice (some ⟨w.heap.size, 0, none⟩) 2 2) 2 (cb [x, y]) :=
  ⟨rfl, Or.inr ⟨w.heap.size, 2, _, rfl, Nat.le_refl _, heap_alloc_new w _, Nat.le_refl _, by unfold maxLen; omega, rfl, rfl⟩⟩

theorem rtext10_ok (k g s b : Int) (v : ByteArray) (w : World) (h : Rp.mayB k g s b v.size = true) :
    Calls Try.prog 42 #[.agg #[.int .u8 k, .int .i64 g, .int .i64 s, .int .i64 b, .string v]] w fun e w' => e = .returned (.string (S (recB k g s b v))) ∧ Below w.heap.size w w' := by
  have hm : Rp.mayR ⟨k, g, s, b, v.data.toList⟩ = true := by simp only [Rp.mayR, size_data]; exact h
  obtain ⟨g0, g1, s0, s1, hv, hk⟩ := Rp.mayR_cases hm
  simp only at g0 g1 s0 s1 hv hk
  rw [size_data] at hv
  obtain ⟨g, rfl⟩ := Int.eq_ofNat_of_zero_le g0
  have hg : Nm.enc g = [UInt8.ofNat g] := Nm.enc_lt (by omega)
  have hgt : ((UInt8.ofNat g).toNat : Int) = (g : Int) := by rw [Nm.toNat_of (by omega)]
  have HG := Lib.hid hg
  obtain ⟨x3, hx3⟩ : ∃ x, Nm.enc s.toNat = x := ⟨_, rfl⟩
  have l3 := Nm.enc_len6 (n := s.toNat) (by omega)
  rw [hx3] at l3
  have HX3 := Lib.hid hx3
  clear hx3 hm h hg
  rcases hk with ⟨rfl, hv0, b0, b1, hb⟩ | ⟨rfl, b0, b1, hb⟩ | ⟨rfl, rfl⟩
  · have K0 := Lib.hid (Blk.new w 36 #[.int .u8 1, .int .i64 (g : Int), .int .i64 s, .int .i64 b, .string v])
    have B0 := Lib.hid ((Below.refl _ w).alloc (Nat.le_refl w.heap.size) (.cells #[.int .u8 1, .int .i64 (g : Int), .int .i64 s, .int .i64 b, .string v] 36))
    have O0 := own_two (w.alloc (.cells #[.int .u8 1, .int .i64 (g : Int), .int .i64 s, .int .i64 b, .string v] 36)) (UInt8.ofNat 1) (UInt8.ofNat g)
    rw [hgt, show ((UInt8.ofNat 1).toNat : Int) = 1 from rfl] at O0
    simp only [World.size_alloc] at O0
    clear hgt
    have HO := Lib.hid O0
    have K1 := Lib.hid (K0.out.alloc (.cells #[.int .u8 1, .int .u8 (g : Int)] 5))
    have B1 := Lib.hid (B0.out.alloc B0.out.size (.cells #[.int .u8 1, .int .u8 (g : Int)] 5))
    clear O0
    go_enter Try.func42, Try.ntmps42
    go_wp2_with fail
    refine (rbytes_is s x3 x3.length _ (by omega) (by omega) HX3.out rfl).mono ?_
    rintro e w2 ⟨A2, cc2, rfl, ho, hb⟩
    have HR := Lib.hid (Reads.of_own ho)
    have HO := Lib.hid (own_kept HO.out hb)
    have KK := Lib.hid (Blk.below K1.out hb K1.out.lt)
    have BB := Lib.hid (then_ B1.out hb)
    clear ho hb
    go_wp2_with (at_builtin; refine app_bs rfl (.tmp 10) (.tmp 13) rfl (w.heap.size + 1) _ _ ([UInt8.ofNat 1, UInt8.ofNat g]) rfl HO.out w2.heap.size A2 _ cc2 x3 rfl HR.out ?d1 ?d2 ?_)
    case d1 => first | omega | (simp only [List.length_append, List.length_cons, List.length_nil]; omega)
    case d2 => have := BB.out.size; have := KK.out.lt; omega
    intro v3 w3 ho hg
    obtain ⟨A3, cc3, rfl, -, -, -⟩ := own_form ho
    have K3 := Lib.hid (KK.out.grown hg.1 (Ne.symm (own_blk_ne HO.out KK.out (by decide))))
    have B3 := Lib.hid (BB.out.trans (hg.below BB.out.size (fun k hk => by have := (HO.out.lt k hk).1; omega)))
    have HO := Lib.hid ho
    have r0 := K3.out.cell 0
    have r1 := K3.out.cell 1
    have r2 := K3.out.cell 2
    have r3 := K3.out.cell 3
    have r4 := K3.out.cell 4
    clear ho hg HR KK BB
    obtain ⟨x4, hx4⟩ : ∃ x, Nm.enc b.toNat = x := ⟨_, rfl⟩
    have l4 := Nm.enc_len6 (n := b.toNat) (by omega)
    rw [hx4] at l4
    have HX4 := Lib.hid hx4
    clear hx4
    go_wp2_with fail
    refine (rbytes_is b x4 x4.length _ (by omega) (by omega) HX4.out rfl).mono ?_
    rintro e w4 ⟨A4, cc4, rfl, ho, hb⟩
    have HR := Lib.hid (Reads.of_own ho)
    have HO := Lib.hid (own_kept HO.out hb)
    have KK := Lib.hid (Blk.below K3.out hb K3.out.lt)
    have BB := Lib.hid (then_ B3.out hb)
    clear ho hb
    go_wp2_with (at_builtin; refine app_bs rfl (.tmp 18) (.tmp 21) rfl (w.heap.size + 1) _ _ ([UInt8.ofNat 1, UInt8.ofNat g] ++ x3) rfl HO.out w4.heap.size A4 _ cc4 x4 rfl HR.out ?d1 ?d2 ?_)
    case d1 => first | omega | (simp only [List.length_append, List.length_cons, List.length_nil]; omega)
    case d2 => have := BB.out.size; have := KK.out.lt; omega
    intro v5 w5 ho hg
    obtain ⟨A5, cc5, rfl, -, -, -⟩ := own_form ho
    have K5 := Lib.hid (KK.out.grown hg.1 (Ne.symm (own_blk_ne HO.out KK.out (by decide))))
    have B5 := Lib.hid (BB.out.trans (hg.below BB.out.size (fun k hk => by have := (HO.out.lt k hk).1; omega)))
    have HO := Lib.hid ho
    have r0 := K5.out.cell 0
    have r1 := K5.out.cell 1
    have r2 := K5.out.cell 2
    have r3 := K5.out.cell 3
    have r4 := K5.out.cell 4
    clear ho hg HR KK BB
    obtain ⟨Af, cf, ef, hrf, _, _⟩ := own_form HO.out
    have hcv := run_conv (P := Try.prog) Try.underlying24 Try.underlying5 Try.underlying9 (c := cf) hrf
    injection ef with ef1 ef2 ef3
    subst ef1 ef3
    obtain ⟨tt, htt⟩ : ∃ t, S (1 :: UInt8.ofNat g :: (x3 ++ x4)) = t := ⟨_, rfl⟩
    have HL : Hid (recB 1 (g : Int) s b v = 1 :: UInt8.ofNat g :: (x3 ++ x4)) := by rw [Hid, recB, Rp.bytesR]; simp only [Int.toNat_natCast, HG.out, HX3.out]; simp [Rp.votes, Rp.value, HX4.out]; rfl
    rw [htt] at hcv
    have HTT := Lib.hid htt
    clear hrf htt
    go_wp2
    go_ret
    rw [HL.out, HTT.out]
    exact ⟨rfl, B5.out⟩
  · have K0 := Lib.hid (Blk.new w 36 #[.int .u8 2, .int .i64 (g : Int), .int .i64 s, .int .i64 b, .string v])
    have B0 := Lib.hid ((Below.refl _ w).alloc (Nat.le_refl w.heap.size) (.cells #[.int .u8 2, .int .i64 (g : Int), .int .i64 s, .int .i64 b, .string v] 36))
    have O0 := own_two (w.alloc (.cells #[.int .u8 2, .int .i64 (g : Int), .int .i64 s, .int .i64 b, .string v] 36)) (UInt8.ofNat 2) (UInt8.ofNat g)
    rw [hgt, show ((UInt8.ofNat 2).toNat : Int) = 2 from rfl] at O0
    simp only [World.size_alloc] at O0
    clear hgt
    have HO := Lib.hid O0
    have K1 := Lib.hid (K0.out.alloc (.cells #[.int .u8 2, .int .u8 (g : Int)] 5))
    have B1 := Lib.hid (B0.out.alloc B0.out.size (.cells #[.int .u8 2, .int .u8 (g : Int)] 5))
    clear O0
    go_enter Try.func42, Try.ntmps42
    go_wp2_with fail
    refine (rbytes_is s x3 x3.length _ (by omega) (by omega) HX3.out rfl).mono ?_
    rintro e w2 ⟨A2, cc2, rfl, ho, hb⟩
    have HR := Lib.hid (Reads.of_own ho)
    have HO := Lib.hid (own_kept HO.out hb)
    have KK := Lib.hid (Blk.below K1.out hb K1.out.lt)
    have BB := Lib.hid (then_ B1.out hb)
    clear ho hb
    go_wp2_with (at_builtin; refine app_bs rfl (.tmp 10) (.tmp 13) rfl (w.heap.size + 1) _ _ ([UInt8.ofNat 2, UInt8.ofNat g]) rfl HO.out w2.heap.size A2 _ cc2 x3 rfl HR.out ?d1 ?d2 ?_)
    case d1 => first | omega | (simp only [List.length_append, List.length_cons, List.length_nil]; omega)
    case d2 => have := BB.out.size; have := KK.out.lt; omega
    intro v3 w3 ho hg
    obtain ⟨A3, cc3, rfl, -, -, -⟩ := own_form ho
    have K3 := Lib.hid (KK.out.grown hg.1 (Ne.symm (own_blk_ne HO.out KK.out (by decide))))
    have B3 := Lib.hid (BB.out.trans (hg.below BB.out.size (fun k hk => by have := (HO.out.lt k hk).1; omega)))
    have HO := Lib.hid ho
    have r0 := K3.out.cell 0
    have r1 := K3.out.cell 1
    have r2 := K3.out.cell 2
    have r3 := K3.out.cell 3
    have r4 := K3.out.cell 4
    clear ho hg HR KK BB
    obtain ⟨x4, hx4⟩ : ∃ x, Nm.enc b.toNat = x := ⟨_, rfl⟩
    have l4 := Nm.enc_len6 (n := b.toNat) (by omega)
    rw [hx4] at l4
    have HX4 := Lib.hid hx4
    clear hx4
    go_wp2_with fail
    refine (rbytes_is b x4 x4.length _ (by omega) (by omega) HX4.out rfl).mono ?_
    rintro e w4 ⟨A4, cc4, rfl, ho, hb⟩
    have HR := Lib.hid (Reads.of_own ho)
    have HO := Lib.hid (own_kept HO.out hb)
    have KK := Lib.hid (Blk.below K3.out hb K3.out.lt)
    have BB := Lib.hid (then_ B3.out hb)
    clear ho hb
    go_wp2_with (at_builtin; refine app_bs rfl (.tmp 18) (.tmp 21) rfl (w.heap.size + 1) _ _ ([UInt8.ofNat 2, UInt8.ofNat g] ++ x3) rfl HO.out w4.heap.size A4 _ cc4 x4 rfl HR.out ?d1 ?d2 ?_)
    case d1 => first | omega | (simp only [List.length_append, List.length_cons, List.length_nil]; omega)
    case d2 => have := BB.out.size; have := KK.out.lt; omega
    intro v5 w5 ho hg
    obtain ⟨A5, cc5, rfl, -, -, -⟩ := own_form ho
    have K5 := Lib.hid (KK.out.grown hg.1 (Ne.symm (own_blk_ne HO.out KK.out (by decide))))
    have B5 := Lib.hid (BB.out.trans (hg.below BB.out.size (fun k hk => by have := (HO.out.lt k hk).1; omega)))
    have HO := Lib.hid ho
    have r0 := K5.out.cell 0
    have r1 := K5.out.cell 1
    have r2 := K5.out.cell 2
    have r3 := K5.out.cell 3
    have r4 := K5.out.cell 4
    clear ho hg HR KK BB
    obtain ⟨x5, hx5⟩ : ∃ x, Nm.txt v.data.toList = x := ⟨_, rfl⟩
    have l5 : x5.length ≤ 1030 := by rw [← hx5]; have h1 := Nm.enc_len6 (n := v.data.toList.length) (by rw [size_data]; omega); have h2 := size_data v; simp only [Nm.txt, List.length_append]; omega
    have HX5 := Lib.hid hx5
    clear hx5
    go_wp2_with fail
    refine (rtextBytes v x5 x5.length _ (by omega) HX5.out rfl).mono ?_
    rintro e w6 ⟨A6, cc6, rfl, ho, hb⟩
    have HR := Lib.hid (Reads.of_own ho)
    have HO := Lib.hid (own_kept HO.out hb)
    have KK := Lib.hid (Blk.below K5.out hb K5.out.lt)
    have BB := Lib.hid (then_ B5.out hb)
    clear ho hb
    go_wp2_with (at_builtin; refine app_bs rfl (.tmp 26) (.tmp 29) rfl (w.heap.size + 1) _ _ ([UInt8.ofNat 2, UInt8.ofNat g] ++ x3 ++ x4) rfl HO.out w6.heap.size A6 _ cc6 x5 rfl HR.out ?d1 ?d2 ?_)
    case d1 => first | omega | (simp only [List.length_append, List.length_cons, List.length_nil]; omega)
    case d2 => have := BB.out.size; have := KK.out.lt; omega
    intro v7 w7 ho hg
    obtain ⟨A7, cc7, rfl, -, -, -⟩ := own_form ho
    have K7 := Lib.hid (KK.out.grown hg.1 (Ne.symm (own_blk_ne HO.out KK.out (by decide))))
    have B7 := Lib.hid (BB.out.trans (hg.below BB.out.size (fun k hk => by have := (HO.out.lt k hk).1; omega)))
    have HO := Lib.hid ho
    have r0 := K7.out.cell 0
    have r1 := K7.out.cell 1
    have r2 := K7.out.cell 2
    have r3 := K7.out.cell 3
    have r4 := K7.out.cell 4
    clear ho hg HR KK BB
    obtain ⟨Af, cf, ef, hrf, _, _⟩ := own_form HO.out
    have hcv := run_conv (P := Try.prog) Try.underlying24 Try.underlying5 Try.underlying9 (c := cf) hrf
    injection ef with ef1 ef2 ef3
    subst ef1 ef3
    obtain ⟨tt, htt⟩ : ∃ t, S (2 :: UInt8.ofNat g :: (x3 ++ (x4 ++ x5))) = t := ⟨_, rfl⟩
    have HL : Hid (recB 2 (g : Int) s b v = 2 :: UInt8.ofNat g :: (x3 ++ (x4 ++ x5))) := by rw [Hid, recB, Rp.bytesR]; simp only [Int.toNat_natCast, HG.out, HX3.out]; simp [Rp.votes, Rp.value, HX4.out, HX5.out]; rfl
    rw [htt] at hcv
    have HTT := Lib.hid htt
    clear hrf htt
    go_wp2
    go_ret
    rw [HL.out, HTT.out]
    exact ⟨rfl, B7.out⟩
  · have K0 := Lib.hid (Blk.new w 36 #[.int .u8 3, .int .i64 (g : Int), .int .i64 s, .int .i64 0, .string v])
    have B0 := Lib.hid ((Below.refl _ w).alloc (Nat.le_refl w.heap.size) (.cells #[.int .u8 3, .int .i64 (g : Int), .int .i64 s, .int .i64 0, .string v] 36))
    have O0 := own_two (w.alloc (.cells #[.int .u8 3, .int .i64 (g : Int), .int .i64 s, .int .i64 0, .string v] 36)) (UInt8.ofNat 3) (UInt8.ofNat g)
    rw [hgt, show ((UInt8.ofNat 3).toNat : Int) = 3 from rfl] at O0
    simp only [World.size_alloc] at O0
    clear hgt
    have HO := Lib.hid O0
    have K1 := Lib.hid (K0.out.alloc (.cells #[.int .u8 3, .int .u8 (g : Int)] 5))
    have B1 := Lib.hid (B0.out.alloc B0.out.size (.cells #[.int .u8 3, .int .u8 (g : Int)] 5))
    clear O0
    go_enter Try.func42, Try.ntmps42
    go_wp2_with fail
    refine (rbytes_is s x3 x3.length _ (by omega) (by omega) HX3.out rfl).mono ?_
    rintro e w2 ⟨A2, cc2, rfl, ho, hb⟩
    have HR := Lib.hid (Reads.of_own ho)
    have HO := Lib.hid (own_kept HO.out hb)
    have KK := Lib.hid (Blk.below K1.out hb K1.out.lt)
    have BB := Lib.hid (then_ B1.out hb)
    clear ho hb
    go_wp2_with (at_builtin; refine app_bs rfl (.tmp 10) (.tmp 13) rfl (w.heap.size + 1) _ _ ([UInt8.ofNat 3, UInt8.ofNat g]) rfl HO.out w2.heap.size A2 _ cc2 x3 rfl HR.out ?d1 ?d2 ?_)
    case d1 => first | omega | (simp only [List.length_append, List.length_cons, List.length_nil]; omega)
    case d2 => have := BB.out.size; have := KK.out.lt; omega
    intro v3 w3 ho hg
    obtain ⟨A3, cc3, rfl, -, -, -⟩ := own_form ho
    have K3 := Lib.hid (KK.out.grown hg.1 (Ne.symm (own_blk_ne HO.out KK.out (by decide))))
    have B3 := Lib.hid (BB.out.trans (hg.below BB.out.size (fun k hk => by have := (HO.out.lt k hk).1; omega)))
    have HO := Lib.hid ho
    have r0 := K3.out.cell 0
    have r1 := K3.out.cell 1
    have r2 := K3.out.cell 2
    have r3 := K3.out.cell 3
    have r4 := K3.out.cell 4
    clear ho hg HR KK BB
    obtain ⟨x5, hx5⟩ : ∃ x, Nm.txt v.data.toList = x := ⟨_, rfl⟩
    have l5 : x5.length ≤ 1030 := by rw [← hx5]; have h1 := Nm.enc_len6 (n := v.data.toList.length) (by rw [size_data]; omega); have h2 := size_data v; simp only [Nm.txt, List.length_append]; omega
    have HX5 := Lib.hid hx5
    clear hx5
    go_wp2_with fail
    refine (rtextBytes v x5 x5.length _ (by omega) HX5.out rfl).mono ?_
    rintro e w4 ⟨A4, cc4, rfl, ho, hb⟩
    have HR := Lib.hid (Reads.of_own ho)
    have HO := Lib.hid (own_kept HO.out hb)
    have KK := Lib.hid (Blk.below K3.out hb K3.out.lt)
    have BB := Lib.hid (then_ B3.out hb)
    clear ho hb
    go_wp2_with (at_builtin; refine app_bs rfl (.tmp 26) (.tmp 29) rfl (w.heap.size + 1) _ _ ([UInt8.ofNat 3, UInt8.ofNat g] ++ x3) rfl HO.out w4.heap.size A4 _ cc4 x5 rfl HR.out ?d1 ?d2 ?_)
    case d1 => first | omega | (simp only [List.length_append, List.length_cons, List.length_nil]; omega)
    case d2 => have := BB.out.size; have := KK.out.lt; omega
    intro v5 w5 ho hg
    obtain ⟨A5, cc5, rfl, -, -, -⟩ := own_form ho
    have K5 := Lib.hid (KK.out.grown hg.1 (Ne.symm (own_blk_ne HO.out KK.out (by decide))))
    have B5 := Lib.hid (BB.out.trans (hg.below BB.out.size (fun k hk => by have := (HO.out.lt k hk).1; omega)))
    have HO := Lib.hid ho
    have r0 := K5.out.cell 0
    have r1 := K5.out.cell 1
    have r2 := K5.out.cell 2
    have r3 := K5.out.cell 3
    have r4 := K5.out.cell 4
    clear ho hg HR KK BB
    obtain ⟨Af, cf, ef, hrf, _, _⟩ := own_form HO.out
    have hcv := run_conv (P := Try.prog) Try.underlying24 Try.underlying5 Try.underlying9 (c := cf) hrf
    injection ef with ef1 ef2 ef3
    subst ef1 ef3
    obtain ⟨tt, htt⟩ : ∃ t, S (3 :: UInt8.ofNat g :: (x3 ++ x5)) = t := ⟨_, rfl⟩
    have HL : Hid (recB 3 (g : Int) s 0 v = 3 :: UInt8.ofNat g :: (x3 ++ x5)) := by rw [Hid, recB, Rp.bytesR]; simp only [Int.toNat_natCast, HG.out, HX3.out]; simp [Rp.votes, Rp.value, HX5.out]; rfl
    rw [htt] at hcv
    have HTT := Lib.hid htt
    clear hrf htt
    go_wp2
    go_ret
    rw [HL.out, HTT.out]
    exact ⟨rfl, B5.out⟩

theorem rwrite10_ok (k g s b : Int) (v : ByteArray) (w : World) (h : Rp.mayB k g s b v.size = true) :
    Calls Try.prog 20 #[.agg #[.int .u8 k, .int .i64 g, .int .i64 s, .int .i64 b, .string v]] w fun e w' => e = .returned (.tuple #[.string (S (recB k g s b v)), .int .i64 0]) ∧ Below w.heap.size w w' := by
  have hz := (mayB_facts h).2.2.2.2.1
  have H := Lib.hid h
  clear h
  go_enter Try.func20, Try.ntmps20
  go_wp2_with fail
  refine (rmay10_any k g s b v _ (by omega)).mono ?_
  rw [H.out]
  rintro e w1 ⟨rfl, hb⟩
  have K := Blk.below (Blk.new w 36 #[.int .u8 k, .int .i64 g, .int .i64 s, .int .i64 b, .string v]) hb (by simp)
  have r0 := K.cell 0
  have r1 := K.cell 1
  have r2 := K.cell 2
  have r3 := K.cell 3
  have r4 := K.cell 4
  have HB := Lib.hid (below_of_alloc (hb.mono (B' := w.heap.size) (by simp)) (Nat.le_refl _))
  clear hb K
  go_wp2_with fail
  refine (rtext10_ok k g s b v _ H.out).mono ?_
  rintro e w2 ⟨rfl, hb⟩
  have HC := Lib.hid (then_ HB.out hb)
  clear hb r0 r1 r2 r3 r4
  go_wp2
  go_ret2
  exact ⟨rfl, HC.out⟩
theorem rwrite10_bad (k g s b : Int) (v : ByteArray) (w : World) (hz : v.size ≤ 9223372036854775807) (h : Rp.mayB k g s b v.size = false) :
    Calls Try.prog 20 #[.agg #[.int .u8 k, .int .i64 g, .int .i64 s, .int .i64 b, .string v]] w fun e w' => e = .returned (.tuple #[.string ⟨#[]⟩, .int .i64 8]) ∧ Below w.heap.size w w' := by
  have H := Lib.hid h
  clear h
  go_enter Try.func20, Try.ntmps20
  go_wp2_with fail
  refine (rmay10_any k g s b v _ (by omega)).mono ?_
  rw [H.out]
  rintro e w1 ⟨rfl, hb⟩
  have HB := Lib.hid (below_of_alloc (hb.mono (B' := w.heap.size) (by simp)) (Nat.le_refl _))
  clear hb
  go_wp2
  go_ret2
  exact ⟨rfl, HB.out⟩
end Go.Proofs.Ytdodfpjejjjciaa
