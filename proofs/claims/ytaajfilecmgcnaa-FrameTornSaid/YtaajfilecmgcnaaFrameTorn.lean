/-
  The walk of FrameTorn: joined frames, broken off anywhere.
-/
import Derived.Test.YtaajfilecmgcnaaFrameLit
import Derived.Test.YtaajfilecmgcnaaTexts
namespace Go.Proofs.Ytaajfilecmgcnaa
open Go.RowKit
set_option maxHeartbeats 1000000
set_option maxRecDepth 100000
set_option linter.unusedVariables false

/-- Strings, byte by byte. -/
def tbT (l : List ByteArray) : List (List UInt8) := l.map fun s => s.data.toList
theorem tbT_S (l : List ByteArray) : (tbT l).map S = l := by
  unfold tbT
  rw [List.map_map]
  conv => rhs; rw [← List.map_id l]
  apply List.map_congr_left
  intro s _
  exact S_of s
theorem joinOk_take {l : List (List UInt8)} (h : joinOk l = true) (k : Nat) : joinOk (l.take k) = true := by
  obtain ⟨h1, h2⟩ := joinOk_all h
  exact joinOk_yes (fun t ht => h1 t (List.mem_of_mem_take ht)) (Nat.le_trans (join_take_le l k) h2)

theorem frameTorn_walk (A : Option Addr) (n c : Nat) (l0 : List ByteArray) (left : Int) (w : World) (hi : IsStrs w A n c l0) (hlt : -9223372036854775808 ≤ left ∧ left ≤ 9223372036854775807) :
    Calls Try.prog 10 #[.slice A n c, .int .i64 left] w fun e w' => e = .returned (.bool true) ∧ Below w.heap.size w w' := by
  obtain ⟨hr, hc, hm, h64⟩ := hi
  unfold maxLen at hm
  obtain ⟨l, hl⟩ : ∃ l, tbT l0 = l := ⟨_, rfl⟩
  have hl0 : l0 = l.map S := by rw [← hl, tbT_S]
  subst hl0
  have hln : l.length = n := by have := hr.len_t; simpa using this
  have HR := Lib.hid hr
  have HLN := Lib.hid hln
  clear hr h64 hl hln
  go_enter Try.func10, Try.ntmps10
  go_wp2_with fail
  refine (alive02 w).mono ?_
  rintro e w1 ⟨rfl, b1⟩
  have B1 := Lib.hid b1
  clear b1
  have R1 := Lib.hid (HR.out.below B1.out |>.more B1.out.size)
  go_wp2_with fail
  refine (great_any A n c _ _ w1 R1.out (by omega)).mono ?_
  rintro e w' ⟨⟨r, rfl, hgr⟩, rfl⟩
  cases r with
  | true =>
    clear hgr
    go_wp2
    go_ret
    exact ⟨rfl, B1.out⟩
  | false =>
    have hn := hgr rfl
    clear hgr
    go_wp2_with fail
    refine (join_any A n c l w1 R1.out (by omega)).mono ?_
    rintro e w2 (⟨hj, A2, c2, rfl, o2, b2⟩ | ⟨_, rfl, b2⟩)
    · obtain ⟨m, hmj⟩ : ∃ m, (Nm.join l).length = m := ⟨_, rfl⟩
      have hmm := (joinOk_all hj).2
      have hmc := own_cap o2
      have R2 := Lib.hid (Reads.of_own o2)
      have B2 := Lib.hid (then_ B1.out b2)
      have HJ := Lib.hid hj
      have HMJ := Lib.hid hmj
      rw [hmj] at R2 hmm hmc ⊢
      have hmc1 := hmc.1
      clear o2 b2 hj hmj hmc
      by_cases q1 : left < 0
      · go_wp2
        go_ret
        exact ⟨rfl, B2.out⟩
      · by_cases q2 : (m : Int) < left
        · go_wp2
          go_ret
          exact ⟨rfl, B2.out⟩
        · obtain ⟨k, rfl⟩ : ∃ k : Nat, left = (k : Int) := ⟨left.toNat, by omega⟩
          have hkm : k ≤ m := by omega
          obtain ⟨j, hj1, hj2, hj3, hj4⟩ := Nm.cut_torn l k (joinOk_all HJ.out).1 (by rw [HMJ.out]; exact hkm)
          have r3 := R2.out.first (k := k) hkm
          rw [cb_take] at r3
          have R3 := Lib.hid r3
          have H2 := Lib.hid hj2
          have H4 := Lib.hid hj4
          have hjn : j ≤ n := by rw [← HLN.out]; exact hj1
          obtain ⟨f, hf⟩ : ∃ f, (Nm.join (l.take j)).length = f := ⟨_, rfl⟩
          have HF := Lib.hid hf
          rw [hf] at hj3
          have hs : ∀ w, (Instr.slice 30 (.slice A2 m c2) none (some (.int .i64 (k : Int))) none).run Try.prog w = .ok (.slice A2 k c2) w := fun w =>
            run_slice_to Try.underlying30 A2 m c2 k (by omega) w u8_size
          clear r3 hj1 hj2 hj4 hf q1 q2
          go_wp2_with fail
          refine (cut_any A2 k c2 _ w2 R3.out (by omega) (by omega)).mono ?_
          rintro e w3 ⟨A3, c3, rfl, o3, b3⟩
          have H5 : (Nm.cut ((Nm.join l).take k)).1.length = j := by
            rw [H2.out]
            simp only [List.length_take]
            have := HLN.out
            omega
          have H6 : (Nm.cut ((Nm.join l).take k)).2 = f := by rw [H2.out]; exact HF.out
          have H7 : (Nm.cut ((Nm.join l).take k)).1 = l.take j := by rw [H2.out]
          rw [H5, H7] at o3
          rw [H5, H6]
          have R4 := Lib.hid (Reads.of_own o3)
          have B3 := Lib.hid (then_ B2.out b3)
          have R5 := Lib.hid (HR.out.below B3.out |>.more B3.out.size)
          have r6 := R5.out.first (k := j) hjn
          rw [ct_take, ← List.map_take] at r6
          have R6 := Lib.hid r6
          clear o3 b3 H5 H6 H7 r6 hs
          have hs : ∀ w, (Instr.slice 41 (.slice A n c) none (some (.int .i64 (j : Int))) none).run Try.prog w = .ok (.slice A j c) w := fun w =>
            run_slice_to Try.underlying41 A n c j (by omega) w str_size
          go_wp2_with fail
          refine (sameTexts_yes A3 j c3 A j c _ _ _ _ w3 R4.out R6.out (by omega) rfl).mono ?_
          rintro e w4 ⟨rfl, q, rfl⟩
          have R7 : Hid (Reads (w3.drewN q) (w3.drewN q).heap.size 1 A j (ct ((l.take j).map S))) := Lib.hid (R6.out.drewN q)
          have B4 := Lib.hid (then_drewN B3.out q)
          go_wp2_with fail
          refine (join_any A j c (l.take j) (w3.drewN q) R7.out (by omega)).mono ?_
          rintro e w5 (⟨_, A5, c5, rfl, o5, b5⟩ | ⟨hno, _⟩)
          · rw [HF.out]
            have B5 := Lib.hid (then_ B4.out b5)
            clear o5 b5 hs
            by_cases hall : j = n
            · go_wp2
              go_ret
              exact ⟨rfl, B5.out⟩
            · have hjlt : j < n := by omega
              have hjl : j < l.length := by rw [HLN.out]; exact hjlt
              obtain ⟨t, ht⟩ : ∃ t, l[j] = t := ⟨_, rfl⟩
              have htl := (joinOk_all HJ.out).1 t (by rw [← ht]; exact List.getElem_mem hjl)
              have h9 := H4.out t (by rw [List.getElem?_eq_getElem hjl, ht])
              rw [HF.out] at h9
              obtain ⟨ad, u, rfl, hbl, hu, hcell⟩ := (HR.out.below B5.out).at_ hjlt
              have hu2 : u = .string (S t) := by
                rw [ct_get, List.getElem?_map, List.getElem?_eq_getElem hjl, ht] at hu
                simpa using hu.symm
              subst hu2
              have htx := txt_small htl
              have htl2 : (S t).size ≤ 4096 := by rw [S_size]; exact htl
              have HT := Lib.hid htl2
              clear hu ht htl htl2
              go_wp2_with fail
              refine (frame_ok (S t) (Nm.txt t) (Nm.txt t).length w5 HT.out rfl rfl).mono ?_
              rintro e w6 ⟨A6, c6, rfl, o6, b6⟩
              obtain ⟨x, hx⟩ : ∃ x, (Nm.txt t).length = x := ⟨_, rfl⟩
              rw [hx] at h9 htx ⊢
              have B6 := Lib.hid (then_ B5.out b6)
              have h10 : (k : Int) < (f : Int) + (x : Int) := by omega
              clear o6 b6 hx hcell
              go_wp2
              go_ret
              exact ⟨rfl, B6.out⟩
          · rw [joinOk_take HJ.out j] at hno
            cases hno
    · have B2 := Lib.hid (then_ B1.out b2)
      clear b2
      go_wp2
      go_ret
      exact ⟨rfl, B2.out⟩
end Go.Proofs.Ytaajfilecmgcnaa
