/-
  The walk of FrameNames: the chapter's examples.
-/
import Derived.Test.YtihinhdgfbnlmaaFrameLit
import Derived.Test.YtihinhdgfbnlmaaTexts
import Derived.Test.YtihinhdgfbnlmaaMake
import Derived.Lib.SlBytesConst
namespace Go.Proofs.Ytihinhdgfbnlmaa
open Go.RowKit
set_option maxHeartbeats 1000000
set_option maxRecDepth 100000
set_option linter.unusedVariables false

/-- The cells of made strings, under a name. -/
def zeroStrs (n : Nat) : Array Value := madeCells #[.string ⟨#[]⟩] n
theorem make_strs (n : Nat) (hn : n ≤ 1000000000) (w : World) :
    (Instr.makeSlice 54 (.int .i64 (n : Int)) (.int .i64 (n : Int))).run Try.prog w = .ok (.slice (some ⟨w.heap.size, 0, none⟩) n n) (w.alloc (.cells (zeroStrs n) 9)) := by
  obtain ⟨i0, hi0, hz0, hz1, hz2⟩ := info_parts str_info
  have h := run_make_rowN (P := Try.prog) 54 9 i0 (.string ⟨#[]⟩) Try.underlying54 hi0 hz0 .i64 .i64 n n (Nat.le_refl _) (by rw [hz2]; omega) (by omega) w
  rw [hz1, Nat.mul_one] at h
  exact h
/-- 4,097 bytes. -/
def longF : ByteArray := S (List.replicate 4097 0)
theorem longF_size : longF.size = 4097 := by unfold longF; rw [S_size, List.length_replicate]

theorem Reads.marked (w : World) (t : TypeId) (cs : Array Value) (m : Nat × Nat) : Reads (w.alloc (.cells cs t m)) (w.heap.size + 1) 1 (some ⟨w.heap.size, 0, none⟩) cs.size cs.toList := by
  refine ⟨by simp, fun _ => ⟨_, rfl, Nat.lt_succ_self _, fun i u hu => ?_⟩⟩
  have hadd : (⟨w.heap.size, 0, none⟩ : Addr).add i = ⟨w.heap.size, i, none⟩ := by unfold Addr.add; split <;> simp_all
  rw [hadd, cell_of_row _ w.heap.size i cs t m (heap_alloc_new w _), ← Array.getElem?_toList]
  exact hu
theorem cut_litm (l : List UInt8) (r : List (List UInt8)) (n k m : Nat) (cs : Array Value) (mk : Nat × Nat) (w : World) (hl : l.length = n) (h : cs.toList = cb l) (hn : n ≤ 1048576) (hc : Nm.cut l = (r, m)) (hk : r.length = k) :
    Calls Try.prog 44 #[.slice (some ⟨w.heap.size, 0, none⟩) n n] (w.alloc (.cells cs 5 mk)) fun e w' => ∃ A c, e = .returned (.tuple #[.slice A k c, .int .i64 (m : Int), .int .i64 0]) ∧ Reads w' w'.heap.size 1 A k (ct (r.map S)) ∧ Below w.heap.size w w' := by
  subst hl hk
  have hr := Reads.marked w 5 cs mk
  have e : cs.size = l.length := by rw [← Array.length_toList, h, cb_length]
  rw [h, e] at hr
  refine (cut_any _ _ _ l _ (by simpa using hr) (Nat.le_refl _) hn).mono ?_
  rintro e w' ⟨A, c, rfl, ho, hb⟩
  rw [hc] at ho ⊢
  exact ⟨A, c, rfl, Reads.of_own ho, below_of_alloc (hb.mono (by simp)) (Nat.le_refl _)⟩

end Go.Proofs.Ytihinhdgfbnlmaa
