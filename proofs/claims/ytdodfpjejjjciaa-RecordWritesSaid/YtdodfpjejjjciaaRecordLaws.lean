/-
  Layer 10: RecordNames', RecordApart's, RecordBack's walks.
-/
import Derived.Test.YtdodfpjejjjciaaRecordReadW
import Derived.Test.YtdodfpjejjjciaaRecordEq
namespace Go.Proofs.Ytdodfpjejjjciaa
open Go.RowKit Bal
set_option maxHeartbeats 1000000
set_option maxRecDepth 100000
set_option linter.unusedVariables false
set_option linter.unusedSimpArgs false

theorem rread_no (s : ByteArray) (w : World) (hs : s.size ≤ 1000000) (h : Rp.readR s.data.toList = none) :
    Calls Try.prog 17 #[.string s] w fun e w' => e = .returned (.tuple #[.agg #[.int .u8 0, .int .i64 0, .int .i64 0, .int .i64 0, .string ⟨#[]⟩], .int .i64 8]) ∧ Below w.heap.size w w' := by
  have := rread_any s w hs
  rw [h] at this
  exact this
theorem rread_yes (s : ByteArray) (k g t b : Int) (v : List UInt8) (w : World) (hs : s.size ≤ 1000000) (h : Rp.readR s.data.toList = some ⟨k, g, t, b, v⟩) :
    Calls Try.prog 17 #[.string s] w fun e w' => e = .returned (.tuple #[.agg #[.int .u8 k, .int .i64 g, .int .i64 t, .int .i64 b, .string (S v)], .int .i64 0]) ∧ Below w.heap.size w w' := by
  have := rread_any s w hs
  rw [h] at this
  exact this
theorem rwrite_is (k g s b : Int) (v out : ByteArray) (w : World) (h : Rp.mayB k g s b v.size = true) (ho : S (recB k g s b v) = out) :
    Calls Try.prog 16 #[.agg #[.int .u8 k, .int .i64 g, .int .i64 s, .int .i64 b, .string v]] w fun e w' => e = .returned (.tuple #[.string out, .int .i64 0]) ∧ Below w.heap.size w w' := by
  rw [← ho]
  exact rwrite_ok k g s b v w h
theorem rcheck_ok10 (k g s b : Int) (v : ByteArray) (w : World) (hs : v.size ≤ 9223372036854775807) (b1 : -9223372036854775808 ≤ b) (b2 : b ≤ 9223372036854775807) (h : Rp.mayB k g s b v.size = true) :
    Calls Try.prog 19 #[.agg #[.int .u8 k, .int .i64 g, .int .i64 s, .int .i64 b, .string v]] w fun e w' => e = .returned (.int .i64 0) ∧ Below w.heap.size w w' := by
  have := rcheck_any10 k g s b v w hs b1 b2
  rw [rE_ok h] at this
  exact this
theorem rcheck_no10 (k g s b : Int) (v : ByteArray) (w : World) (hs : v.size ≤ 9223372036854775807) (b1 : -9223372036854775808 ≤ b) (b2 : b ≤ 9223372036854775807) (h : Rp.mayB k g s b v.size = false) :
    Calls Try.prog 19 #[.agg #[.int .u8 k, .int .i64 g, .int .i64 s, .int .i64 b, .string v]] w fun e w' => e = .returned (.int .i64 8) ∧ Below w.heap.size w w' := by
  have := rcheck_any10 k g s b v w hs b1 b2
  rw [rE_bad h] at this
  exact this

theorem alive10 (w : World) : Calls Try.prog 18 #[] w fun e w' => e = .returned (.bool true) ∧ Below w.heap.size w w' := by
  go_enter Try.func18, Try.ntmps18
  go_wp2_with fail
  refine (rwrite_is 1 1 2 17 ⟨#[]⟩ ⟨#[1, 1, 2, 17]⟩ _ (by decide +kernel) (by decide +kernel)).mono ?_
  rintro e w1 ⟨rfl, hb⟩
  have HB := Lib.hid hb
  clear hb
  go_wp2
  go_ret
  exact ⟨rfl, HB.out⟩

theorem extract_toList (s : ByteArray) (m : Nat) : (s.extract 0 m).data.toList = s.data.toList.take m := by
  simp [ByteArray.data_extract, Array.toList_extract]

theorem recordApart_walk (k g s b : Int) (v : ByteArray) (n : Int) (w : World) (hr : IsRec k g s b v) (hn : -9223372036854775808 ≤ n ∧ n ≤ 9223372036854775807) :
    Calls Try.prog 7 #[.agg #[.int .u8 k, .int .i64 g, .int .i64 s, .int .i64 b, .string v], .int .i64 n] w fun e w' => e = .returned (.bool true) ∧ Below w.heap.size w w' := by
  obtain ⟨hv, ⟨k0, k1⟩, ⟨g0, g1⟩, ⟨s0, s1⟩, ⟨b0, b1⟩⟩ := hr
  obtain ⟨n0, n1⟩ := hn
  unfold maxLen at hv
  go_enter Try.func7, Try.ntmps7
  go_wp2_with fail
  refine (alive10 _).mono ?_
  rintro e w1 ⟨rfl, hb1⟩
  have K0 := Blk.below (Blk.new w 36 #[.int .u8 k, .int .i64 g, .int .i64 s, .int .i64 b, .string v]) hb1 (by simp)
  have c0 := K0.cell 0
  have c1 := K0.cell 1
  have c2 := K0.cell 2
  have c3 := K0.cell 3
  have c4 := K0.cell 4
  have B1 := Lib.hid (below_of_alloc (hb1.mono (B' := w.heap.size) (by simp)) (Nat.le_refl _))
  clear hb1 K0
  cases hm : Rp.mayB k g s b v.size with
  | false =>
    go_wp2_with fail
    refine (rwrite_bad k g s b v _ (by omega) b0 b1 hm).mono ?_
    rintro e w2 ⟨rfl, hb2⟩
    have B2 := Lib.hid (then_ B1.out hb2)
    clear hb2 c0 c1 c2 c3 c4 hm
    go_wp2
    go_ret
    exact ⟨rfl, B2.out⟩
  | true =>
    obtain ⟨W, hW⟩ : ∃ W, S (recB k g s b v) = W := ⟨_, rfl⟩
    have hWl : W.data.toList = recB k g s b v := by rw [← hW]; rfl
    have hmr : Rp.mayR ⟨k, g, s, b, v.data.toList⟩ = true := by simp only [Rp.mayR, size_data]; exact hm
    have hlen := Rp.bytesR_len hmr
    have hWs : W.size ≤ 1040 := by rw [← size_data, hWl]; exact hlen
    have HW := Lib.hid hW
    have HWL := Lib.hid hWl
    have HMR := Lib.hid hmr
    have HM := Lib.hid hm
    clear hW hWl hmr hm hlen
    go_wp2_with fail
    refine (rwrite_is k g s b v W _ HM.out HW.out).mono ?_
    rintro e w2 ⟨rfl, hb2⟩
    have B2 := Lib.hid (then_ B1.out hb2)
    clear hb2 c0 c1 c2 c3 c4
    by_cases h0 : n < 0
    · go_wp2
      go_ret
      exact ⟨rfl, B2.out⟩
    obtain ⟨m, rfl⟩ := Int.eq_ofNat_of_zero_le (by omega : 0 ≤ n)
    by_cases h1 : (W.size : Int) ≤ (m : Int)
    · go_wp2
      go_ret
      exact ⟨rfl, B2.out⟩
    have h2 : m ≤ W.size := by omega
    have h3 : m < W.size := by omega
    have hno : Rp.readR (W.extract 0 m).data.toList = none := by
      cases hq : Rp.readR (W.extract 0 m).data.toList with
      | none => rfl
      | some r' =>
        obtain ⟨a1, a2⟩ := Rp.readR_back hq
        rw [extract_toList, HWL.out] at a2
        have a3 : recB k g s b v = Rp.bytesR r' ++ (recB k g s b v).drop m := by rw [a2, List.take_append_drop]
        have a4 := Rp.bytesR_apart HMR.out a1 a3
        have a5 := congrArg List.length a4
        rw [List.length_drop, ← HWL.out, size_data] at a5
        simp at a5
        omega
    have hxs : (W.extract 0 m).size ≤ 1000000 := by
      rw [← size_data, extract_toList, List.length_take]
      omega
    have HNO := Lib.hid (rread_no (W.extract 0 m) w2 hxs hno)
    clear hno hxs
    go_wp2_with fail
    refine HNO.out.mono ?_
    rintro e w3 ⟨rfl, hb3⟩
    have B3 := Lib.hid (then_ B2.out hb3)
    clear hb3
    go_wp2
    go_ret
    exact ⟨rfl, B3.out.alloc B3.out.size _⟩
end Go.Proofs.Ytdodfpjejjjciaa
