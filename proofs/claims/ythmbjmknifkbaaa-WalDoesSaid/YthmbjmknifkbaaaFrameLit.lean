/-
  Layer 2: calls over literals; the chapter's own test whether it is alive.
-/
import Derived.Test.YthmbjmknifkbaaaFrameJoin
namespace Go.Proofs.Ythmbjmknifkbaaa
open Go.RowKit
set_option maxHeartbeats 1000000
set_option maxRecDepth 100000
set_option linter.unusedVariables false

theorem newB (w : World) (l : List UInt8) (cs : Array Value) (h : cs.toList = cb l) : Reads (w.alloc (.cells cs 5)) (w.heap.size + 1) 1 (some ⟨w.heap.size, 0, none⟩) l.length (cb l) := by
  have := Reads.new w 5 cs
  rw [h] at this
  have e : cs.size = l.length := by rw [← Array.length_toList, h, cb_length]
  rwa [e] at this
theorem newT (w : World) (l : List ByteArray) (cs : Array Value) (h : cs.toList = ct l) : Reads (w.alloc (.cells cs 9)) (w.heap.size + 1) 1 (some ⟨w.heap.size, 0, none⟩) l.length (ct l) := by
  have := Reads.new w 9 cs
  rw [h] at this
  have e : cs.size = l.length := by rw [← Array.length_toList, h, ct_length]
  rwa [e] at this
theorem join_lit (l : List (List UInt8)) (b : List UInt8) (n k : Nat) (cs : Array Value) (w : World) (hl : l.length = n) (h : cs.toList = ct (l.map S)) (hn : n ≤ 65536) (hj : joinOk l = true) (hb : Nm.join l = b) (hk : b.length = k) :
    Calls Try.prog 26 #[.slice (some ⟨w.heap.size, 0, none⟩) n n] (w.alloc (.cells cs 9)) fun e w' => ∃ A c, e = .returned (.tuple #[.slice A k c, .int .i64 0]) ∧ Reads w' w'.heap.size 1 A k (cb b) ∧ Below w.heap.size w w' := by
  subst hl hk hb
  have hr := newT w _ cs h
  rw [List.length_map] at hr
  refine (join_any _ _ _ l _ (by simpa using hr) hn).mono ?_
  rintro e w' (⟨_, A, c, rfl, ho, hb⟩ | ⟨h1, _⟩)
  · exact ⟨A, c, rfl, Reads.of_own ho, below_of_alloc (hb.mono (by simp)) (Nat.le_refl _)⟩
  · rw [hj] at h1
    cases h1
theorem cut_lit (l : List UInt8) (r : List (List UInt8)) (n k m : Nat) (cs : Array Value) (w : World) (hl : l.length = n) (h : cs.toList = cb l) (hn : n ≤ 1048576) (hc : Nm.cut l = (r, m)) (hk : r.length = k) :
    Calls Try.prog 16 #[.slice (some ⟨w.heap.size, 0, none⟩) n n] (w.alloc (.cells cs 5)) fun e w' => ∃ A c, e = .returned (.tuple #[.slice A k c, .int .i64 (m : Int), .int .i64 0]) ∧ Reads w' w'.heap.size 1 A k (ct (r.map S)) ∧ Below w.heap.size w w' := by
  subst hl hk
  have hr := newB w _ cs h
  refine (cut_any _ _ _ l _ (by simpa using hr) (Nat.le_refl _) hn).mono ?_
  rintro e w' ⟨A, c, rfl, ho, hb⟩
  rw [hc] at ho ⊢
  exact ⟨A, c, rfl, Reads.of_own ho, below_of_alloc (hb.mono (by simp)) (Nat.le_refl _)⟩

end Go.Proofs.Ythmbjmknifkbaaa
