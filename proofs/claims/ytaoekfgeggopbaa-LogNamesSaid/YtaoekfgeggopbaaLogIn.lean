/-
  Layer 13: group, change, alive.
-/
import Derived.Test.YtaoekfgeggopbaaLogMembers
import Derived.Test.YtaoekfgeggopbaaCmdTextW
import Derived.Test.YtaoekfgeggopbaaCmdIn
namespace Go.Proofs.Ytaoekfgeggopbaa
open Go.RowKit
set_option maxHeartbeats 8000000
set_option maxRecDepth 100000
set_option linter.unusedVariables false
set_option linter.unusedSimpArgs false

def chHC (A : Option Addr) (n c : Nat) (l : List Int) : HC := ⟨3, 0, none, 0, 0, [], 0, ⟨#[]⟩, ⟨#[]⟩, 0, 0, A, n, c, l, 0, 0, 0⟩
def chC (l : List Int) : Cp.Cmd := ⟨3, 0, [], 0, [], [], 0, 0, l, 0, 0, 0⟩
theorem chHC_cmd (A : Option Addr) (n c : Nat) (l : List Int) : (chHC A n c l).cmd = chC l := rfl
theorem chHC_at {A : Option Addr} {n c : Nat} {l : List Int} {w : World} {B : Nat} (hr : Reads w B 1 A n (ci l)) (hnc : n ≤ c) (hc : c ≤ 9223372036854775807) (hi : ∀ x ∈ l, i64 x) : CmdAt w B (chHC A n c l) := by
  have z := zeroHC_at w B (k := 3) (by omega)
  exact ⟨z.rg, hr, z.gc, z.gm, hnc, hc, z.kk, z.bk, z.bb, z.ig, hi, z.a1, z.a2, z.a3, z.a4, z.a5, z.a6, z.a7⟩

theorem change13_any (A : Option Addr) (n c : Nat) (l : List Int) (w : World) (hr : Reads w w.heap.size 1 A n (ci l)) (hnc : n ≤ c) (hc : c ≤ 9223372036854775807) (hi : ∀ x ∈ l, i64 x) (b : Bool) (hb : Cp.mayC (chC l) = b) (U : ByteArray) (hU : (if b = true then S (Cp.bytesC (chC l)) else ⟨#[]⟩) = U) :
    Calls Try.prog 46 #[.slice A n c] w fun e w' => e = .returned (.string U) ∧ Below w.heap.size w w' := by
  have H := Lib.hid (cwrite_any (chHC A n c l) w (chHC_at hr hnc hc hi) b (by rw [chHC_cmd]; exact hb) U (by rw [chHC_cmd]; exact hU))
  have e0 : (chHC A n c l) = ⟨3, 0, none, 0, 0, [], 0, ⟨#[]⟩, ⟨#[]⟩, 0, 0, A, n, c, l, 0, 0, 0⟩ := rfl
  rw [e0] at H
  clear hr hi hb hU e0
  go_enter Try.func46, Try.ntmps46
  go_wp2_with fail
  refine H.out.mono ?_
  rintro e w1 ⟨rfl, hb⟩
  have HB := Lib.hid hb
  clear hb H
  go_wp2
  go_ret
  exact ⟨rfl, HB.out⟩

theorem group13_any (w : World) : Calls Try.prog 45 #[] w fun e w' => ∃ g1 g2, e = .returned (.agg #[.slice (some ⟨g1, 0, none⟩) 4 4, .slice (some ⟨g2, 0, none⟩) 3 3]) ∧ Reads w' w'.heap.size 1 (some ⟨g1, 0, none⟩) 4 (ci [0, 1, 2, 3]) ∧ Reads w' w'.heap.size 1 (some ⟨g2, 0, none⟩) 3 (ci [0, 1, 2]) ∧ Below w.heap.size w w' := by
  go_enter Try.func45, Try.ntmps45
  go_wp2
  have K := ((Blk.new w 52 #[.slice (some ⟨w.heap.size + 1, 0, none⟩) 4 4, .slice (some ⟨w.heap.size + 1 + 1, 0, none⟩) 3 3]).alloc (.cells #[.int .i64 0, .int .i64 1, .int .i64 2, .int .i64 3] 3)).alloc (.cells #[.int .i64 0, .int .i64 1, .int .i64 2] 3)
  have r0 := K.cell 0
  have r1 := K.cell 1
  simp only [List.getElem?_toArray, List.getElem?_cons_zero, List.getElem?_cons_succ] at r0 r1
  refine bodyPost_ret (v := .agg #[.slice (some ⟨w.heap.size + 1, 0, none⟩) 4 4, .slice (some ⟨w.heap.size + 1 + 1, 0, none⟩) 3 3]) (by simp [results, Try.results45, go_sem, r0, r1]) rfl ⟨_, _, rfl, ?_, ?_, ?_⟩
  · have h := newI (w.alloc (.cells #[.slice (some ⟨w.heap.size + 1, 0, none⟩) 4 4, .slice (some ⟨w.heap.size + 1 + 1, 0, none⟩) 3 3] 52)) [0, 1, 2, 3] #[.int .i64 0, .int .i64 1, .int .i64 2, .int .i64 3] rfl
    rw [World.size_alloc] at h
    exact (h.alloc (by simp) _).more (by simp)
  · have h := newI ((w.alloc (.cells #[.slice (some ⟨w.heap.size + 1, 0, none⟩) 4 4, .slice (some ⟨w.heap.size + 1 + 1, 0, none⟩) 3 3] 52)).alloc (.cells #[.int .i64 0, .int .i64 1, .int .i64 2, .int .i64 3] 3)) [0, 1, 2] #[.int .i64 0, .int .i64 1, .int .i64 2] rfl
    rw [World.size_alloc, World.size_alloc] at h
    exact h.more (by simp)
  · exact (((Below.refl _ _).alloc (Nat.le_refl _) _).alloc (by simp) _).alloc (by simp; omega) _

theorem alive13_val : Lg.members [0, 1, 2, 3] [0, 1, 2] [Cp.bytesC (chC [1, 3]), Cp.bytesC (chC [4, 5])] = ([1, 3], 0) := by decide +kernel
theorem newS (w : World) (l : List ByteArray) (cs : Array Value) (h : cs.toList = ct l) : Reads (w.alloc (.cells cs 9)) (w.heap.size + 1) 1 (some ⟨w.heap.size, 0, none⟩) l.length (ct l) := by
  have := Reads.new w 9 cs
  rw [h] at this
  have e : cs.size = l.length := by rw [← Array.length_toList, h]; simp [ct]
  rwa [e] at this
theorem alive13_any (w : World) : Calls Try.prog 42 #[] w fun e w' => e = .returned (.bool true) ∧ Below w.heap.size w w' := by
  obtain ⟨T1, hT1⟩ : ∃ T, S (Cp.bytesC (chC [1, 3])) = T := ⟨_, rfl⟩
  obtain ⟨T2, hT2⟩ : ∃ T, S (Cp.bytesC (chC [4, 5])) = T := ⟨_, rfl⟩
  have HV : Hid (Lg.members [0, 1, 2, 3] [0, 1, 2] (tx [T1, T2]) = ([1, 3], 0)) := by
    rw [Hid, ← alive13_val, ← hT1, ← hT2]
    rfl
  have HT1 : Hid ((if true = true then S (Cp.bytesC (chC [1, 3])) else ⟨#[]⟩) = T1) := by rw [Hid, if_pos rfl]; exact hT1
  have HT2 : Hid ((if true = true then S (Cp.bytesC (chC [4, 5])) else ⟨#[]⟩) = T2) := by rw [Hid, if_pos rfl]; exact hT2
  have HZ : Hid (∀ s ∈ [T1, T2], s.size ≤ maxLen) := by
    intro s hs
    have h1 := (Cp.bytesC_len (c := chC [1, 3]) (by decide)).2
    have h2 := (Cp.bytesC_len (c := chC [4, 5]) (by decide)).2
    simp only [List.mem_cons, List.not_mem_nil, or_false] at hs
    rcases hs with rfl | rfl
    · rw [← hT1, S_size]; unfold maxLen; omega
    · rw [← hT2, S_size]; unfold maxLen; omega
  clear hT1 hT2
  go_enter Try.func42, Try.ntmps42
  go_wp2_with fail
  refine (group13_any w).mono ?_
  rintro e w1 ⟨g1, g2, rfl, hr1, hr2, hb1⟩
  have HR1 := Lib.hid hr1
  have HR2 := Lib.hid hr2
  have B1 := Lib.hid hb1
  clear hr1 hr2 hb1
  have B2 := Lib.hid (B1.out.alloc B1.out.size (.cells #[.int .i64 1, .int .i64 3] 3))
  go_wp2_with fail
  refine (change13_any (some ⟨w1.heap.size, 0, none⟩) 2 2 [1, 3] _ ((newI w1 [1, 3] #[.int .i64 1, .int .i64 3] rfl).more (by simp)) (by omega) (by omega) (by intro x hx; simp at hx; rcases hx with rfl | rfl <;> exact ⟨by omega, by omega⟩) true (by decide) T1 HT1.out).mono ?_
  rintro e w3 ⟨rfl, hb⟩
  have Z3 := Lib.hid (below_of_alloc (hb.mono (by simp)) (Nat.le_refl w1.heap.size))
  have B3 := Lib.hid (B1.out.trans (Z3.out.mono B1.out.size))
  have B4 := Lib.hid (B3.out.alloc B3.out.size (.cells #[.int .i64 4, .int .i64 5] 3))
  clear hb
  go_wp2_with fail
  refine (change13_any (some ⟨w3.heap.size, 0, none⟩) 2 2 [4, 5] _ ((newI w3 [4, 5] #[.int .i64 4, .int .i64 5] rfl).more (by simp)) (by omega) (by omega) (by intro x hx; simp at hx; rcases hx with rfl | rfl <;> exact ⟨by omega, by omega⟩) true (by decide) T2 HT2.out).mono ?_
  rintro e w5 ⟨rfl, hb⟩
  have Z5 := Lib.hid (below_of_alloc (hb.mono (by simp)) (Nat.le_refl w3.heap.size))
  have B5 := Lib.hid (B3.out.trans (Z5.out.mono B3.out.size))
  have HS := Lib.hid ((newS w5 [T1, T2] #[.string T1, .string T2] rfl).more (B' := (w5.alloc (.cells #[.string T1, .string T2] 9)).heap.size) (by simp))
  have ZZ := Lib.hid ((Z3.out.trans (Z5.out.mono Z3.out.size)).alloc (by have := Z3.out.size; have := Z5.out.size; omega) (.cells #[.string T1, .string T2] 9))
  have HR1' := Lib.hid ((HR1.out.below ZZ.out).more ZZ.out.size)
  have HR2' := Lib.hid ((HR2.out.below ZZ.out).more ZZ.out.size)
  have B6 := Lib.hid (B5.out.alloc B5.out.size (.cells #[.string T1, .string T2] 9))
  clear hb
  go_wp2_with fail
  generalize w5.alloc (.cells #[.string T1, .string T2] 9) = w6 at *
  refine (lmembers_any (some ⟨g1, 0, none⟩) 4 4 [0, 1, 2, 3] (some ⟨g2, 0, none⟩) 3 3 [0, 1, 2] (some ⟨w5.heap.size, 0, none⟩) 2 2 [T1, T2] w6 HR1'.out HR2'.out HS.out (by omega) (by omega) (by omega) HZ.out).mono ?_
  rintro e w7 ⟨⟨R, k, c, r, x, rfl, ho, hm⟩, hb⟩
  rw [HV.out] at hm
  obtain ⟨rfl, rfl⟩ : [1, 3] = r ∧ 0 = x := by simpa using hm
  obtain rfl : 2 = k := by have := (own_readsC ho).len_i; simpa using this
  have B7 := Lib.hid (B6.out.trans (hb.mono B6.out.size))
  have B8 := Lib.hid (B7.out.alloc B7.out.size (.cells #[.int .i64 1, .int .i64 3] 3))
  have HQ := Lib.hid (rsameInts_any R 2 c (some ⟨w7.heap.size, 0, none⟩) 2 2 _ _ [1, 3] [1, 3] (w7.alloc (.cells #[.int .i64 1, .int .i64 3] 3)) ((own_readsC ho).alloc (Nat.le_refl _) _) (newI w7 [1, 3] #[.int .i64 1, .int .i64 3] rfl) (by omega) (by omega) true (by decide))
  clear hb ho hm
  go_wp2_with fail
  refine HQ.out.mono ?_
  rintro e w8 ⟨rfl, q, rfl⟩
  go_wp2
  go_ret
  exact ⟨rfl, below_drewN B8.out q⟩
end Go.Proofs.Ytaoekfgeggopbaa
