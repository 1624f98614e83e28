/-
  The walk of NumNames: the chapter's examples.
-/
import Derived.Test.YtehjgnkolhdecaaNumIntsW
namespace Go.Proofs.Ytehjgnkolhdecaa
open Go.RowKit
set_option maxHeartbeats 1000000
set_option maxRecDepth 100000
set_option linter.unusedVariables false

theorem new_b (w : World) (l : List UInt8) (cs : Array Value) (h : cs.toList = cb l) : Reads (w.alloc (.cells cs 5)) (w.heap.size + 1) 1 (some ⟨w.heap.size, 0, none⟩) l.length (cb l) := by
  have := Reads.new w 5 cs
  rw [h] at this
  have e : cs.size = l.length := by rw [← Array.length_toList, h, cb_length]
  rwa [e] at this
theorem new_i (w : World) (l : List Int) (cs : Array Value) (h : cs.toList = ci l) : Reads (w.alloc (.cells cs 3)) (w.heap.size + 1) 1 (some ⟨w.heap.size, 0, none⟩) l.length (ci l) := by
  have := Reads.new w 3 cs
  rw [h] at this
  have e : cs.size = l.length := by rw [← Array.length_toList, h, ci_length]
  rwa [e] at this

theorem get_lit (l : List UInt8) (n m k : Nat) (cs : Array Value) (w : World) (hl : l.length = n) (h : cs.toList = cb l) (hn : n ≤ 1000000000000) (hg : Nm.get l = some (m, k)) :
    Calls Try.prog 18 #[.slice (some ⟨w.heap.size, 0, none⟩) n n] (w.alloc (.cells cs 5)) fun e w' => e = .returned (.tuple #[.int .i64 (m : Int), .int .i64 (k : Int), .int .i64 0]) ∧ Below w.heap.size w w' := by
  subst hl
  refine (get_is _ _ _ _ l m k _ (new_b w l cs h) hn hg).mono ?_
  rintro e w' ⟨rfl, rfl⟩
  exact ⟨rfl, (Below.refl _ _).alloc (Nat.le_refl _) _⟩
theorem get_lit_no (l : List UInt8) (n : Nat) (cs : Array Value) (w : World) (hl : l.length = n) (h : cs.toList = cb l) (hn : n ≤ 1000000000000) (hg : Nm.get l = none) :
    Calls Try.prog 18 #[.slice (some ⟨w.heap.size, 0, none⟩) n n] (w.alloc (.cells cs 5)) fun e w' => e = .returned (.tuple #[.int .i64 0, .int .i64 0, .int .i64 8]) ∧ Below w.heap.size w w' := by
  subst hl
  refine (get_no _ _ _ _ l _ (new_b w l cs h) hn hg).mono ?_
  rintro e w' ⟨rfl, rfl⟩
  exact ⟨rfl, (Below.refl _ _).alloc (Nat.le_refl _) _⟩
theorem ints_lit (l : List Int) (b : List UInt8) (n k : Nat) (cs : Array Value) (w : World) (hl : l.length = n) (h : cs.toList = ci l) (hn : n ≤ 4096) (hg : Nm.intsB l = b) (hk : b.length = k) (ha : l.all Nm.inR = true) :
    Calls Try.prog 22 #[.slice (some ⟨w.heap.size, 0, none⟩) n n] (w.alloc (.cells cs 3)) fun e w' => ∃ A c, e = .returned (.tuple #[.slice A k c, .int .i64 0]) ∧ Reads w' w'.heap.size 1 A k (cb b) ∧ Below w.heap.size w w' := by
  subst hl hk hg
  have hr := new_i w l cs h
  refine (nints_any _ _ _ l _ (by simpa using hr) hn ?_).mono ?_
  · intro a h
    have := Nm.inR_yes (List.all_eq_true.1 ha a h)
    omega
  · intro e w' hp
    rcases hp with ⟨_, A, c, rfl, ho, hb⟩ | ⟨h1, _⟩
    · exact ⟨A, c, rfl, Reads.of_own ho, below_of_alloc (hb.mono (by simp)) (Nat.le_refl _)⟩
    · rw [ha] at h1
      cases h1
theorem getInts_lit (l : List UInt8) (r : List Int) (n k m : Nat) (most : Nat) (cs : Array Value) (w : World) (hl : l.length = n) (h : cs.toList = cb l) (hn : n ≤ 1000000000000) (hm : most ≤ 4096) (hg : Nm.getInts l most = some (r, k)) (hr : r.length = m) :
    Calls Try.prog 33 #[.slice (some ⟨w.heap.size, 0, none⟩) n n, .int .i64 (most : Int)] (w.alloc (.cells cs 5)) fun e w' => ∃ A c, e = .returned (.tuple #[.slice A m c, .int .i64 (k : Int), .int .i64 0]) ∧ Reads w' w'.heap.size 1 A m (ci r) ∧ Below w.heap.size w w' := by
  subst hl hr
  have hr := new_b w l cs h
  refine (ngetInts_any _ _ _ l most _ (by simpa using hr) (Nat.le_refl _) hn hm).mono ?_
  rw [hg]
  intro e w' hp
  obtain ⟨A, c, rfl, ho, hb⟩ := hp
  exact ⟨A, c, rfl, Reads.of_own ho, below_of_alloc (hb.mono (by simp)) (Nat.le_refl _)⟩
theorem getInts_lit_no (l : List UInt8) (n : Nat) (most : Nat) (cs : Array Value) (w : World) (hl : l.length = n) (h : cs.toList = cb l) (hn : n ≤ 1000000000000) (hm : most ≤ 4096) (hg : Nm.getInts l most = none) :
    Calls Try.prog 33 #[.slice (some ⟨w.heap.size, 0, none⟩) n n, .int .i64 (most : Int)] (w.alloc (.cells cs 5)) fun e w' => e = .returned (.tuple #[.slice none 0 0, .int .i64 0, .int .i64 8]) ∧ Below w.heap.size w w' := by
  subst hl
  have hr := new_b w l cs h
  refine (ngetInts_any _ _ _ l most _ (by simpa using hr) (Nat.le_refl _) hn hm).mono ?_
  rw [hg]
  intro e w' hp
  exact ⟨hp.1, below_of_alloc (hp.2.mono (by simp)) (Nat.le_refl _)⟩

theorem numNames_walk (w : World) : Calls Try.prog 11 #[] w fun e w' => e = .returned (.bool true) ∧ Below w.heap.size w w' := by
  go_enter Try.func11, Try.ntmps11
  go_wp2_with fail
  refine (nput_is 0 [0] 1 w (by omega) (by omega) (by decide) rfl).mono ?_
  rintro e w1 ⟨A1, c1, rfl, o1, b1⟩
  have R1 := Lib.hid (Reads.of_own o1)
  have B1 := Lib.hid b1
  clear o1 b1
  go_wp2_with fail
  refine (nput_is 127 [127] 1 w1 (by omega) (by omega) (by decide) rfl).mono ?_
  rintro e w2 ⟨A2, c2, rfl, o2, b2⟩
  have R2 := Lib.hid (Reads.of_own o2)
  have B2 := Lib.hid b2
  clear o2 b2
  go_wp2_with fail
  refine (nput_bad (-1) w2 (by omega)).mono ?_
  rintro e w3 ⟨rfl, rfl⟩
  go_wp2_with fail
  refine (get_lit [128, 1, 9] 3 128 2 _ w2 rfl rfl (by omega) (by decide)).mono ?_
  rintro e w3 ⟨rfl, b3⟩
  have B3 := Lib.hid b3
  clear b3
  go_wp2_with fail
  refine (get_lit_no [128, 0] 2 _ w3 rfl rfl (by omega) (by decide)).mono ?_
  rintro e w4 ⟨rfl, b4⟩
  have B4 := Lib.hid b4
  clear b4
  go_wp2_with fail
  refine (get_no none 0 0 0 [] w4 Reads.none_ (by omega) (by decide)).mono ?_
  rintro e w5 ⟨rfl, rfl⟩
  go_wp2_with fail
  refine (get_lit_no [128] 1 _ w4 rfl rfl (by omega) (by decide)).mono ?_
  rintro e w5 ⟨rfl, b5⟩
  have B5 := Lib.hid b5
  clear b5
  go_wp2_with fail
  refine (ntext_ok _ [2, 97, 98] 3 w5 (by decide) (by decide) rfl).mono ?_
  rintro e w6 ⟨A6, c6, rfl, o6, b6⟩
  have R6 := Lib.hid (Reads.of_own o6)
  have B6 := Lib.hid b6
  clear o6 b6
  go_wp2_with fail
  refine (ints_lit [3, 200] [2, 3, 200, 1] 2 4 _ w6 rfl rfl (by omega) (by decide) rfl (by decide)).mono ?_
  rintro e w7 ⟨A7, c7, rfl, r7, b7⟩
  have R7 := Lib.hid r7
  have B7 := Lib.hid b7
  clear r7 b7
  go_wp2_with fail
  refine (getInts_lit [2, 3, 200, 1, 7] [3, 200] 5 4 2 2 _ w7 rfl rfl (by omega) (by omega) (by decide) rfl).mono ?_
  rintro e w8 ⟨A8, c8, rfl, r8, b8⟩
  have R8 := Lib.hid r8
  have B8 := Lib.hid b8
  clear r8 b8
  go_wp2_with fail
  refine (getInts_lit_no [2, 3, 200, 1, 7] 5 1 _ w8 rfl rfl (by omega) (by omega) (by decide)).mono ?_
  rintro e w9 ⟨rfl, b9⟩
  have B9 := Lib.hid b9
  clear b9
  have C89 := Lib.hid B9.out
  have C79 := Lib.hid (then_ B8.out C89.out)
  have C69 := Lib.hid (then_ B7.out C79.out)
  have C59 := Lib.hid (then_ B6.out C69.out)
  have C29 := Lib.hid (then_ (then_ (then_ B3.out B4.out) B5.out) C59.out)
  have C19 := Lib.hid (then_ B2.out C29.out)
  have v1 := run_conv (P := Try.prog) Try.underlying23 Try.underlying5 Try.underlying9 (c := c1) (R1.out.below C19.out)
  have v2 := run_conv (P := Try.prog) Try.underlying23 Try.underlying5 Try.underlying9 (c := c2) (R2.out.below C29.out)
  go_wp2_with fail
  refine (alive01 w9).mono ?_
  rintro e wa ⟨rfl, ba⟩
  have r8 := (R8.out.below (then_ C89.out ba))
  have v3 := run_conv (P := Try.prog) Try.underlying23 Try.underlying5 Try.underlying9 (c := c6) (R6.out.below (then_ C69.out ba))
  have v4 := run_conv (P := Try.prog) Try.underlying23 Try.underlying5 Try.underlying9 (c := c7) (R7.out.below (then_ C79.out ba))
  obtain ⟨ad, u0, rfl, _, h0, hc0⟩ := r8.at_ (k := 0) (by omega)
  obtain ⟨ad', u1, e1, _, h1, hc1⟩ := r8.at_ (k := 1) (by omega)
  injection e1 with e1
  subst e1
  simp [ci] at h0 h1
  subst h0 h1
  obtain ⟨bb, off, rfl, hd0⟩ := addr_zero hc0
  have hd1 := addr_more hc1
  clear hc0 hc1
  have BA := Lib.hid (then_ (then_ B1.out C19.out) ba)
  clear ba v1 v2 r8
  go_wp2
  go_ret
  exact ⟨rfl, BA.out⟩
end Go.Proofs.Ytehjgnkolhdecaa
