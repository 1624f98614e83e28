/-
  The walk of QuorumNames: the chapter's examples.
-/
import Derived.Test.YtaajfilecmgcnaaQuorumGroup
import Derived.Test.YtaajfilecmgcnaaAppI
import Derived.Test.YtaajfilecmgcnaaMake
namespace Go.Proofs.Ytaajfilecmgcnaa
open Go.RowKit
set_option maxHeartbeats 1000000
set_option maxRecDepth 100000
set_option linter.unusedVariables false

theorem qcheck_lit (l : List Int) (n : Nat) (v : Int) (cs : Array Value) (w : World) (hl : l.length = n) (h : cs.toList = ci l) (hc : Qm.check l = v) (hn : n ≤ 1000) :
    Calls Try.prog 36 #[.slice (some ⟨w.heap.size, 0, none⟩) n n] (w.alloc (.cells cs 3)) fun e w' => e = .returned (.int .i64 v) ∧ Below w.heap.size w w' := by
  subst hl hc
  refine (qcheck_any _ _ _ _ l _ (newI w l cs h) (by omega)).mono ?_
  rintro e w' ⟨rfl, rfl⟩
  exact ⟨rfl, (Below.refl _ _).alloc (Nat.le_refl _) _⟩
theorem qgroup_lit (l l' : List Int) (n n' : Nat) (v : Int) (cs cs' : Array Value) (w : World) (hl : l.length = n) (hl' : l'.length = n') (h : cs.toList = ci l) (h' : cs'.toList = ci l') (hc : cgroup l l' = v) (hn : n ≤ 1000) (hn' : n' ≤ 1000) :
    Calls Try.prog 37 #[.agg #[.slice (some ⟨w.heap.size, 0, none⟩) n n, .slice (some ⟨w.heap.size + 1, 0, none⟩) n' n']] ((w.alloc (.cells cs 3)).alloc (.cells cs' 3)) fun e w' => e = .returned (.int .i64 v) ∧ Below w.heap.size w w' := by
  subst hl hl' hc
  have h2 := newI (w.alloc (.cells cs 3)) l' cs' h'
  have hz : (w.alloc (.cells cs 3)).heap.size = w.heap.size + 1 := by simp
  rw [hz] at h2
  refine (qgroup_any _ _ _ l _ _ _ l' _ (((newI w l cs h).alloc (by simp) _).more (by simp)) (h2.more (by simp)) (by omega) (by omega)).mono ?_
  rintro e w' ⟨rfl, hb⟩
  exact ⟨rfl, (((Below.refl w.heap.size w).alloc (Nat.le_refl _) _).alloc (by simp) _).trans (hb.mono (by simp; omega))⟩
/-- Seven zeros. -/
def z7 : Array Value := madeCells #[.int .i64 0] 7
theorem z7_list : z7.toList = ci [0, 0, 0, 0, 0, 0, 0] := by
  unfold z7
  rw [toList_madeCells_one]
  rfl
theorem make7 (w : World) : (Instr.makeSlice 39 (.int .i64 7) (.int .i64 7)).run Try.prog w = .ok (.slice (some ⟨w.heap.size, 0, none⟩) 7 7) (w.alloc (.cells z7 3)) := by
  obtain ⟨i0, hi0, hz0, hz1, hz2⟩ := info_parts int_info
  have h := run_make_rowN (P := Try.prog) 39 3 i0 (.int .i64 0) Try.underlying39 hi0 hz0 .i64 .i64 7 7 (Nat.le_refl _) (by rw [hz2]; omega) (by omega) w
  rw [hz1] at h
  exact h

theorem quorumNames_walk (w : World) : Calls Try.prog 12 #[] w fun e w' => e = .returned (.bool true) ∧ Below w.heap.size w w' := by
  have hmk : ∀ w, (Instr.makeSlice 39 (.int .i64 7) (.int .i64 7)).run Try.prog w = .ok (.slice (some ⟨w.heap.size, 0, none⟩) 7 7) (w.alloc (.cells z7 3)) := make7
  go_enter Try.func12, Try.ntmps12
  go_wp2_with fail
  refine (qneed_lit [1] 1 1 _ w rfl rfl (by decide) rfl).mono ?_
  rintro e w1 ⟨rfl, b1⟩
  have B1 := Lib.hid b1
  clear b1
  go_wp2_with fail
  refine (qneed_lit [0, 1, 2, 3] 4 3 _ w1 rfl rfl (by decide) rfl).mono ?_
  rintro e w2 ⟨rfl, b2⟩
  have B2 := Lib.hid (then_ B1.out b2)
  clear b2
  go_wp2_with fail
  refine (qcheck_any none 0 0 0 [] w2 Reads.none_ (by omega)).mono ?_
  rintro e w' ⟨rfl, rfl⟩
  have e0 : Qm.check [] = 60 := by decide
  rw [e0]
  clear e0
  go_wp2_with fail
  refine (qcheck_lit [2, 1] 2 60 _ w2 rfl rfl (by decide) (by omega)).mono ?_
  rintro e w3 ⟨rfl, b3⟩
  have B3 := Lib.hid (then_ B2.out b3)
  clear b3
  go_wp2_with fail
  refine (qcheck_lit [6] 1 60 _ w3 rfl rfl (by decide) (by omega)).mono ?_
  rintro e w4 ⟨rfl, b4⟩
  have B4 := Lib.hid (then_ B3.out b4)
  clear b4
  go_wp2_with fail
  refine (qcheck_lit [0, 0, 0, 0, 0, 0, 0] 7 4 _ w4 rfl z7_list (by decide) (by omega)).mono ?_
  rintro e w5 ⟨rfl, b5⟩
  have B5 := Lib.hid (then_ B4.out b5)
  clear b5
  go_wp2_with fail
  refine (qgroup_lit [0, 1] [2] 2 1 60 _ _ w5 rfl rfl rfl rfl (by decide) (by omega) (by omega)).mono ?_
  rintro e w6 ⟨rfl, b6⟩
  have B6 := Lib.hid (then_ B5.out b6)
  clear b6
  go_wp2_with fail
  refine (alive06 w6).mono ?_
  rintro e w7 ⟨rfl, b7⟩
  have B7 := Lib.hid (then_ B6.out b7)
  clear b7
  go_wp2_with fail
  refine (qgroup_lit [0, 1, 5] [1, 5] 3 2 0 _ _ w7 rfl rfl rfl rfl (by decide) (by omega) (by omega)).mono ?_
  rintro e w8 ⟨rfl, b8⟩
  have B8 := Lib.hid (then_ B7.out b8)
  clear b8
  go_wp2
  go_ret
  exact ⟨rfl, B8.out⟩
end Go.Proofs.Ytaajfilecmgcnaa
