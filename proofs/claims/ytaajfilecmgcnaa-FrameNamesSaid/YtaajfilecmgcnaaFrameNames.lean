/-
  The walk of FrameNames: the chapter's examples.
-/
import Derived.Test.YtaajfilecmgcnaaFrameLit
import Derived.Test.YtaajfilecmgcnaaTexts
import Derived.Test.YtaajfilecmgcnaaMake
import Derived.Lib.SlBytesConst
namespace Go.Proofs.Ytaajfilecmgcnaa
open Go.RowKit
set_option maxHeartbeats 1000000
set_option maxRecDepth 100000
set_option linter.unusedVariables false

/-- The cells of made strings, under a name. -/
def zeroStrs (n : Nat) : Array Value := madeCells #[.string ⟨#[]⟩] n
theorem make_strs (n : Nat) (hn : n ≤ 1000000000) (w : World) :
    (Instr.makeSlice 41 (.int .i64 (n : Int)) (.int .i64 (n : Int))).run Try.prog w = .ok (.slice (some ⟨w.heap.size, 0, none⟩) n n) (w.alloc (.cells (zeroStrs n) 9)) := by
  obtain ⟨i0, hi0, hz0, hz1, hz2⟩ := info_parts str_info
  have h := run_make_rowN (P := Try.prog) 41 9 i0 (.string ⟨#[]⟩) Try.underlying41 hi0 hz0 .i64 .i64 n n (Nat.le_refl _) (by rw [hz2]; omega) (by omega) w
  rw [hz1, Nat.mul_one] at h
  exact h
/-- 4,097 bytes. -/
def longF : ByteArray := S (List.replicate 4097 0)
theorem longF_size : longF.size = 4097 := by unfold longF; rw [S_size, List.length_replicate]

theorem Reads.marked (w : World) (t : TypeId) (cs : Array Value) (m : Nat × Nat) : Reads (w.alloc (.cells cs t m)) (w.heap.size + 1) 1 (some ⟨w.heap.size, 0, none⟩) cs.size cs.toList := by
  refine ⟨by simp, fun _ => ⟨_, rfl, Nat.lt_succ_self _, fun i u hu => ?_⟩⟩
  have hadd : (⟨w.heap.size, 0, none⟩ : Addr).add i = ⟨w.heap.size, i, none⟩ := by unfold Addr.add; split <;> simp_all
  rw [hadd, cell_of_row _ w.heap.size i cs t m (heap_alloc_new w _), ← Array.getElem?_toList]
  exact hu
theorem cut_litm (l : List UInt8) (r : List (List UInt8)) (n k m : Nat) (cs : Array Value) (mk : Nat × Nat) (w : World) (hl : l.length = n) (h : cs.toList = cb l) (hn : n ≤ 1048576) (hc : Nm.cut l = (r, m)) (hk : r.length = k) :
    Calls Try.prog 24 #[.slice (some ⟨w.heap.size, 0, none⟩) n n] (w.alloc (.cells cs 5 mk)) fun e w' => ∃ A c, e = .returned (.tuple #[.slice A k c, .int .i64 (m : Int), .int .i64 0]) ∧ Reads w' w'.heap.size 1 A k (ct (r.map S)) ∧ Below w.heap.size w w' := by
  subst hl hk
  have hr := Reads.marked w 5 cs mk
  have e : cs.size = l.length := by rw [← Array.length_toList, h, cb_length]
  rw [h, e] at hr
  refine (cut_any _ _ _ l _ (by simpa using hr) (Nat.le_refl _) hn).mono ?_
  rintro e w' ⟨A, c, rfl, ho, hb⟩
  rw [hc] at ho ⊢
  exact ⟨A, c, rfl, Reads.of_own ho, below_of_alloc (hb.mono (by simp)) (Nat.le_refl _)⟩

theorem frameNames_walk (w : World) : Calls Try.prog 8 #[] w fun e w' => e = .returned (.bool true) ∧ Below w.heap.size w w' := by
  have hmk : ∀ w, (Instr.makeSlice 30 (.int .i64 4097) (.int .i64 4097)).run Try.prog w = .ok (.slice (some ⟨w.heap.size, 0, none⟩) 4097 4097) (w.alloc (.cells (zeroBytes 4097) 5)) := fun w => make_bytes 4097 (by omega) w
  have hms : ∀ w, (Instr.makeSlice 41 (.int .i64 65537) (.int .i64 65537)).run Try.prog w = .ok (.slice (some ⟨w.heap.size, 0, none⟩) 65537 65537) (w.alloc (.cells (zeroStrs 65537) 9)) := fun w => make_strs 65537 (by omega) w
  have kc := fun (w : World) (C : Array Value) (n c : Nat) => Lib.run_convert_bytes_const (P := Try.prog) w 30 5 C n c Try.underlying30 Try.underlying5
  go_enter Try.func8, Try.ntmps8
  go_wp2_with fail
  refine (cut_litm [2, 97, 98, 0, 5, 97] [[97, 98], []] 6 2 4 _ _ w rfl rfl (by omega) (by decide +kernel) rfl).mono ?_
  rintro e w1 ⟨A1, c1, rfl, r1, b1⟩
  have R1 := Lib.hid r1
  have B1 := Lib.hid b1
  clear r1 b1
  go_wp2_with fail
  refine (cut_litm [2, 97] [] 2 0 0 _ _ w1 rfl rfl (by omega) (by decide +kernel) rfl).mono ?_
  rintro e w2 ⟨A2, c2, rfl, r2, b2⟩
  have B2 := Lib.hid b2
  clear r2 b2
  go_wp2_with fail
  refine (cut_lit [128, 0] [] 2 0 0 _ w2 rfl rfl (by omega) (by decide +kernel) rfl).mono ?_
  rintro e w3 ⟨A3, c3, rfl, r3, b3⟩
  have B3 := Lib.hid b3
  clear r3 b3
  have v1 : (convert 30 9 (.slice (some ⟨w3.heap.size, 0, none⟩) 4097 4097)).run Try.prog (w3.alloc (.cells (zeroBytes 4097) 5)) = .ok (.string longF) (w3.alloc (.cells (zeroBytes 4097) 5)) := conv_zero (Blk.new _ _ _)
  go_wp2_with fail
  refine (frame_bad longF _ (by rw [longF_size]; omega)).mono ?_
  rintro e w4 ⟨rfl, rfl⟩
  clear v1
  go_wp2_with fail
  refine (join_many _ 65537 65537 _ (by omega) (by omega)).mono ?_
  rintro e w4 ⟨rfl, rfl⟩
  have B4 : Hid (Below w3.heap.size w3 ((w3.alloc (.cells (zeroBytes 4097) 5)).alloc (.cells (zeroStrs 65537) 9))) := Lib.hid (((Below.refl _ _).alloc (Nat.le_refl _) _).alloc (by simp) _)
  obtain ⟨w4, hw4⟩ : ∃ w4, (w3.alloc (.cells (zeroBytes 4097) 5)).alloc (.cells (zeroStrs 65537) 9) = w4 := ⟨_, rfl⟩
  rw [hw4] at B4 ⊢
  clear hw4 hmk hms
  go_wp2_with fail
  refine (alive02 w4).mono ?_
  rintro e w5 ⟨rfl, b5⟩
  have B5 := Lib.hid b5
  clear b5
  have C5 := Lib.hid (then_ (then_ (then_ B2.out B3.out) B4.out) B5.out)
  go_wp2_with fail
  refine (sameTexts_yes A1 2 c1 (some ⟨w5.heap.size, 0, none⟩) 2 2 _ _ _ _ _ ((R1.out.below C5.out).alloc C5.out.size _) (newT w5 _ _ rfl) (by omega) rfl).mono ?_
  rintro e w6 ⟨rfl, q, rfl⟩
  have B6 := Lib.hid (below_drewN ((then_ B1.out C5.out).alloc (then_ B1.out C5.out).size (.cells #[.string ⟨#[97, 98]⟩, .string ⟨#[]⟩] 9)) q)
  go_wp2
  go_ret
  exact ⟨rfl, B6.out⟩
end Go.Proofs.Ytaajfilecmgcnaa
