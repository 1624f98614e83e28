/-
  Layer 10: RecordNames' and RecordBack's walks.
-/
import Derived.Test.YtdodfpjejjjciaaRecordLaws
import Derived.Deep.DeepCutAuto
namespace Go.Proofs.Ytdodfpjejjjciaa
open Go.RowKit Bal
set_option maxHeartbeats 2000000
set_option maxRecDepth 100000
set_option linter.unusedVariables false
set_option linter.unusedSimpArgs false

theorem recordNames_walk (w : World) : Calls Try.prog 4 #[] w fun e w' => e = .returned (.bool true) ∧ Below w.heap.size w w' := by
  go_enter Try.func4, Try.ntmps4
  go_wp2_with fail
  refine (rwrite_is 2 0 200 8 ⟨#[97, 98]⟩ ⟨#[2, 0, 200, 1, 8, 2, 97, 98]⟩ _ (by decide +kernel) (by decide +kernel)).mono ?_
  rintro e w1 ⟨rfl, hb1⟩
  have B1 := Lib.hid hb1
  clear hb1
  go_wp2_with fail
  refine (rwrite_is 3 3 1 0 ⟨#[]⟩ ⟨#[3, 3, 1, 0]⟩ _ (by decide +kernel) (by decide +kernel)).mono ?_
  rintro e w2 ⟨rfl, hb2⟩
  have B2 := Lib.hid (then_ B1.out hb2)
  clear hb2
  go_wp2_with fail
  refine (rread_no ⟨#[1, 1, 2, 17, 0]⟩ _ (by decide) (by decide +kernel)).mono ?_
  rintro e w3 ⟨rfl, hb3⟩
  have B3 := Lib.hid ((then_ B2.out hb3).alloc (then_ B2.out hb3).size (.cells #[.int .u8 0, .int .i64 0, .int .i64 0, .int .i64 0, .string ⟨#[]⟩] 36))
  clear hb3
  go_wp2_with fail
  refine (rread_no ⟨#[1, 1, 2, 7]⟩ _ (by decide) (by decide +kernel)).mono ?_
  rintro e w4 ⟨rfl, hb4⟩
  have B4 := Lib.hid ((then_ B3.out hb4).alloc (then_ B3.out hb4).size (.cells #[.int .u8 0, .int .i64 0, .int .i64 0, .int .i64 0, .string ⟨#[]⟩] 36))
  clear hb4
  go_wp2_with fail
  refine (rread_no ⟨#[3, 4, 1, 0]⟩ _ (by decide) (by decide +kernel)).mono ?_
  rintro e w5 ⟨rfl, hb5⟩
  have B5 := Lib.hid ((then_ B4.out hb5).alloc (then_ B4.out hb5).size (.cells #[.int .u8 0, .int .i64 0, .int .i64 0, .int .i64 0, .string ⟨#[]⟩] 36))
  clear hb5
  go_wp2_with fail
  refine (alive10 _).mono ?_
  rintro e w6 ⟨rfl, hb6⟩
  have B6 := Lib.hid (then_ B5.out hb6)
  clear hb6
  go_wp2_with fail
  refine (rcheck_no10 0 0 0 0 ⟨#[]⟩ _ (by decide) (by omega) (by omega) (by decide +kernel)).mono ?_
  rintro e w7 ⟨rfl, hb7⟩
  have B7 := Lib.hid (then_ B6.out hb7)
  clear hb7
  go_wp2
  go_ret
  exact ⟨rfl, B7.out⟩

theorem mayB_b {k g s b : Int} {n : Nat} (h : Rp.mayB k g s b n = true) : -9223372036854775808 ≤ b ∧ b ≤ 9223372036854775807 := by
  have hm : Rp.mayR ⟨k, g, s, b, List.replicate n 0⟩ = true := by simp only [Rp.mayR, List.length_replicate]; exact h
  have hk := (Rp.mayR_cases hm).2.2.2.2.2
  simp only at hk
  rcases hk with ⟨hk, _, _, _, _⟩ | ⟨hk, _, _, _⟩ | ⟨hk, _⟩ <;> omega
theorem recordBack_walk (k g s b : Int) (v : ByteArray) (t : ByteArray) (w : World) (hr : IsRec k g s b v) (ht : t.size ≤ maxLen) :
    Calls Try.prog 6 #[.agg #[.int .u8 k, .int .i64 g, .int .i64 s, .int .i64 b, .string v], .string t] w fun e w' => e = .returned (.bool true) ∧ Below w.heap.size w w' := by
  obtain ⟨hv, ⟨k0, k1⟩, ⟨g0, g1⟩, ⟨s0, s1⟩, ⟨b0, b1⟩⟩ := hr
  unfold maxLen at hv ht
  have hneq := rec_neq k g s b k g s b v v
  have hself := rec_self k g s b v
  rw [hself] at hneq
  clear hself
  go_enter Try.func6, Try.ntmps6
  go_wp2_with fail
  refine (alive10 _).mono ?_
  rintro e w1 ⟨rfl, hb1⟩
  have K0 := Blk.below (Blk.new w 36 #[.int .u8 k, .int .i64 g, .int .i64 s, .int .i64 b, .string v]) hb1 (by simp)
  have c0 := K0.cell 0
  have c1 := K0.cell 1
  have c2 := K0.cell 2
  have c3 := K0.cell 3
  have c4 := K0.cell 4
  have B1 := Lib.hid (below_of_alloc (hb1.mono (B' := w.heap.size) (by simp)) (Nat.le_refl _))
  have HK0 := Lib.hid K0
  clear hb1 K0
  by_cases z0 : (10000 : Int) < (v.size : Int)
  · go_wp2
    go_ret
    exact ⟨rfl, B1.out⟩
  by_cases z1 : (10000 : Int) < (t.size : Int)
  · go_wp2
    go_ret
    exact ⟨rfl, B1.out⟩
  cases hm : Rp.mayB k g s b v.size with
  | false =>
    go_wp2_with fail
    refine (rwrite_bad k g s b v _ (by omega) b0 b1 hm).mono ?_
    rintro e w2 ⟨rfl, hb2⟩
    have B2 := Lib.hid (then_ B1.out hb2)
    clear hb2 c0 c1 c2 c3 c4 hm HK0
    cases hq : Rp.readR t.data.toList with
    | none =>
      have hz : ∀ w, (binOp .eql 36 (.agg #[.int .u8 0, .int .i64 0, .int .i64 0, .int .i64 0, .string ⟨#[]⟩]) (.agg #[.int .u8 0, .int .i64 0, .int .i64 0, .int .i64 0, .string ⟨#[]⟩])).run Try.prog w = .ok (.bool true) w := fun w => by rw [rec_eq, rec_self]
      have hz2 : ∀ w, (Op.equalIn 10000 36 (.agg #[.int .u8 0, .int .i64 0, .int .i64 0, .int .i64 0, .string ⟨#[]⟩]) (.agg #[.int .u8 0, .int .i64 0, .int .i64 0, .int .i64 0, .string ⟨#[]⟩])).run Try.prog w = .ok true w := fun w => by rw [rec_eqIn, rec_self]
      have H := Lib.hid (fun w => rread_no t w (by omega) hq)
      clear hq
      go_wp2_with fail
      refine (H.out _).mono ?_
      rintro e w3 ⟨rfl, hb⟩
      have BN := Lib.hid ((then_ B2.out hb).alloc (then_ B2.out hb).size (.cells #[.int .u8 0, .int .i64 0, .int .i64 0, .int .i64 0, .string ⟨#[]⟩] 36))
      clear hb
      go_wp2
      go_ret
      exact ⟨rfl, BN.out⟩
    | some r =>
      obtain ⟨k', g', s', b', v'⟩ := r
      obtain ⟨a1, a2⟩ := Rp.readR_back hq
      have hm' : Rp.mayB k' g' s' b' (S v').size = true := by rw [S_size]; exact a1
      have ht' : S (recB k' g' s' b' (S v')) = t := by
        have : recB k' g' s' b' (S v') = t.data.toList := a2
        rw [this, S_of]
      have hbb := mayB_b hm'
      have hvs : (S v').size ≤ 1024 := by rw [S_size]; exact (Rp.mayR_cases a1).2.2.2.2.1
      have H := Lib.hid (fun w => rread_yes t k' g' s' b' v' w (by omega) hq)
      have HM := Lib.hid hm'
      have HT := Lib.hid ht'
      have HVS := Lib.hid hvs
      clear hq a1 a2 hm' ht' hvs
      generalize S v' = u at *
      go_wp2_with fail
      refine (H.out _).mono ?_
      rintro e w3 ⟨rfl, hb⟩
      have BN := Lib.hid ((then_ B2.out hb).alloc (then_ B2.out hb).size (.cells #[.int .u8 k', .int .i64 g', .int .i64 s', .int .i64 b', .string u] 36))
      clear hb
      go_wp2_with fail
      refine (rwrite_is k' g' s' b' u t _ HM.out HT.out).mono ?_
      rintro e w4 ⟨rfl, hb⟩
      have KX := Blk.below (Blk.new w3 36 #[.int .u8 k', .int .i64 g', .int .i64 s', .int .i64 b', .string u]) hb (by simp)
      have x0 := KX.cell 0
      have x1 := KX.cell 1
      have x2 := KX.cell 2
      have x3 := KX.cell 3
      have x4 := KX.cell 4
      have BM := Lib.hid (then_ BN.out hb)
      clear hb KX
      go_wp2_with fail
      refine (rcheck_ok10 k' g' s' b' u _ (by have := HVS.out; omega) hbb.1 hbb.2 HM.out).mono ?_
      rintro e w5 ⟨rfl, hb⟩
      have BL := Lib.hid (then_ BM.out hb)
      clear hb x0 x1 x2 x3 x4
      go_wp2
      go_ret
      exact ⟨rfl, BL.out⟩
  | true =>
    obtain ⟨W, hW⟩ : ∃ W, S (recB k g s b v) = W := ⟨_, rfl⟩
    have hWl : W.data.toList = recB k g s b v := by rw [← hW]; rfl
    have hmr : Rp.mayR ⟨k, g, s, b, v.data.toList⟩ = true := by simp only [Rp.mayR, size_data]; exact hm
    have hlen := Rp.bytesR_len hmr
    have hWs : W.size ≤ 1040 := by rw [← size_data, hWl]; exact hlen
    have hrd : Rp.readR W.data.toList = some ⟨k, g, s, b, v.data.toList⟩ := by rw [hWl]; exact Rp.readR_bytes hmr
    have HRD := Lib.hid (fun w => rread_yes W k g s b v.data.toList w (by omega) hrd)
    rw [S_of] at HRD
    have HW := Lib.hid hW
    have HM0 := Lib.hid hm
    clear hW hWl hmr hm hlen hrd
    go_wp2_with fail
    refine (rwrite_is k g s b v W _ HM0.out HW.out).mono ?_
    rintro e w2 ⟨rfl, hb2⟩
    have B2 := Lib.hid (then_ B1.out hb2)
    have K2 := Lib.hid (Blk.below HK0.out hb2 HK0.out.lt)
    clear hb2 c0 c1 c2 c3 c4 HK0
    go_wp2_with fail
    refine (HRD.out _).mono ?_
    rintro e w3 ⟨rfl, hb3⟩
    have K3 := Blk.below K2.out hb3 K2.out.lt
    have lt3 := K3.lt
    have c0 := K3.cell 0
    have c1 := K3.cell 1
    have c2 := K3.cell 2
    have c3 := K3.cell 3
    have c4 := K3.cell 4
    have B3 := Lib.hid ((then_ B2.out hb3).alloc (then_ B2.out hb3).size (.cells #[.int .u8 k, .int .i64 g, .int .i64 s, .int .i64 b, .string v] 36))
    clear hb3 K2 K3
    cases hq : Rp.readR t.data.toList with
    | none =>
      have hz : ∀ w, (binOp .eql 36 (.agg #[.int .u8 0, .int .i64 0, .int .i64 0, .int .i64 0, .string ⟨#[]⟩]) (.agg #[.int .u8 0, .int .i64 0, .int .i64 0, .int .i64 0, .string ⟨#[]⟩])).run Try.prog w = .ok (.bool true) w := fun w => by rw [rec_eq, rec_self]
      have hz2 : ∀ w, (Op.equalIn 10000 36 (.agg #[.int .u8 0, .int .i64 0, .int .i64 0, .int .i64 0, .string ⟨#[]⟩]) (.agg #[.int .u8 0, .int .i64 0, .int .i64 0, .int .i64 0, .string ⟨#[]⟩])).run Try.prog w = .ok true w := fun w => by rw [rec_eqIn, rec_self]
      have H := Lib.hid (fun w => rread_no t w (by omega) hq)
      clear hq
      go_wp2_with fail
      refine (H.out _).mono ?_
      rintro e w4 ⟨rfl, hb⟩
      have BN := Lib.hid ((then_ B3.out hb).alloc (then_ B3.out hb).size (.cells #[.int .u8 0, .int .i64 0, .int .i64 0, .int .i64 0, .string ⟨#[]⟩] 36))
      clear hb
      go_wp2
      go_ret
      exact ⟨rfl, BN.out⟩
    | some r =>
      obtain ⟨k', g', s', b', v'⟩ := r
      obtain ⟨a1, a2⟩ := Rp.readR_back hq
      have hm' : Rp.mayB k' g' s' b' (S v').size = true := by rw [S_size]; exact a1
      have ht' : S (recB k' g' s' b' (S v')) = t := by
        have : recB k' g' s' b' (S v') = t.data.toList := a2
        rw [this, S_of]
      have hbb := mayB_b hm'
      have hvs : (S v').size ≤ 1024 := by rw [S_size]; exact (Rp.mayR_cases a1).2.2.2.2.1
      have H := Lib.hid (fun w => rread_yes t k' g' s' b' v' w (by omega) hq)
      have HM := Lib.hid hm'
      have HT := Lib.hid ht'
      have HVS := Lib.hid hvs
      clear hq a1 a2 hm' ht' hvs
      generalize S v' = u at *
      go_wp2_with fail
      refine (H.out _).mono ?_
      rintro e w4 ⟨rfl, hb⟩
      have BN := Lib.hid ((then_ B3.out hb).alloc (then_ B3.out hb).size (.cells #[.int .u8 k', .int .i64 g', .int .i64 s', .int .i64 b', .string u] 36))
      clear hb
      go_wp2_with fail
      refine (rwrite_is k' g' s' b' u t _ HM.out HT.out).mono ?_
      rintro e w5 ⟨rfl, hb⟩
      have KX := Blk.below (Blk.new w4 36 #[.int .u8 k', .int .i64 g', .int .i64 s', .int .i64 b', .string u]) hb (by simp)
      have x0 := KX.cell 0
      have x1 := KX.cell 1
      have x2 := KX.cell 2
      have x3 := KX.cell 3
      have x4 := KX.cell 4
      have BM := Lib.hid (then_ BN.out hb)
      clear hb KX
      go_wp2_with fail
      refine (rcheck_ok10 k' g' s' b' u _ (by have := HVS.out; omega) hbb.1 hbb.2 HM.out).mono ?_
      rintro e w6 ⟨rfl, hb⟩
      have BL := Lib.hid (then_ BM.out hb)
      clear hb x0 x1 x2 x3 x4
      go_wp2
      go_ret
      exact ⟨rfl, BL.out⟩
end Go.Proofs.Ytdodfpjejjjciaa
