/-
  Contracts of vote.Prepare, vote.Accept: what each call returns, for every argument; new memory alone is written.
-/
import Derived.Test.YtaajfilecmgcnaaVote
namespace Go.Proofs.Ytaajfilecmgcnaa
open Go.RowKit Bal
set_option maxHeartbeats 1000000
set_option maxRecDepth 100000
set_option linter.unusedVariables false

theorem vprep_ok (p q : Int) (s : ByteArray) (b : Int) (w : World) (hs : s.size ≤ 9223372036854775807) (p1 : -9223372036854775808 ≤ p) (p2 : p ≤ 9223372036854775807) (q1 : -9223372036854775808 ≤ q) (q2 : q ≤ 9223372036854775807) (b1 : -9223372036854775808 ≤ b) (b2 : b ≤ 9223372036854775807) (h : askE p q s b ⟨#[]⟩ = 0) :
    Calls Try.prog 17 #[.agg #[.int .i64 p, .int .i64 q, .string s], .int .i64 b] w fun e w' => e = .returned (.tuple #[.agg #[.int .i64 b, .int .i64 q, .string s], .int .i64 0]) ∧ Below w.heap.size w w' := by
  go_enter Try.func17, Try.ntmps17
  go_wp2_with fail
  refine (asked_any p q s b ⟨#[]⟩ _ hs (by decide) p1 p2 q1 q2 b1 b2).mono ?_
  rw [h]
  clear h
  rintro e w1 ⟨rfl, hb⟩
  have hb2 := hb.mono (B' := w.heap.size + 2) (by simp)
  have hz : w.heap.size + 2 ≤ w1.heap.size := by have := hb.size; simp at this; omega
  obtain ⟨hc, hf⟩ := bcell hb2
  have HB := Lib.hid (below_of_alloc (below_of_alloc (hb.mono (B' := w.heap.size) (by simp; omega)) (by simp)) (Nat.le_refl _))
  clear hb hb2
  go_wp2
  exact bodyPost_ret (v := .tuple #[.agg #[.int .i64 b, .int .i64 q, .string s], .int .i64 0]) (by simp [results, Try.results17, go_sem, hc]) rfl ⟨rfl, by first | exact HB.out | exact HB.out.setCell (by simp) _ | exact (HB.out.setCell (by simp) _).setCell (by simp) _ | (repeat (refine Below.setCell ?_ (by simp) _)); exact HB.out⟩
theorem vprep_bad (p q : Int) (s : ByteArray) (b : Int) (w : World) (hs : s.size ≤ 9223372036854775807) (p1 : -9223372036854775808 ≤ p) (p2 : p ≤ 9223372036854775807) (q1 : -9223372036854775808 ≤ q) (q2 : q ≤ 9223372036854775807) (b1 : -9223372036854775808 ≤ b) (b2 : b ≤ 9223372036854775807) (x : Int) (hx0 : askE p q s b ⟨#[]⟩ = x) (h : x ≠ 0) :
    Calls Try.prog 17 #[.agg #[.int .i64 p, .int .i64 q, .string s], .int .i64 b] w fun e w' => e = .returned (.tuple #[.agg #[.int .i64 0, .int .i64 0, .string ⟨#[]⟩], .int .i64 x]) ∧ Below w.heap.size w w' := by
  go_enter Try.func17, Try.ntmps17
  go_wp2_with fail
  refine (asked_any p q s b ⟨#[]⟩ _ hs (by decide) p1 p2 q1 q2 b1 b2).mono ?_
  rw [hx0]
  clear hx0
  have hx : (x != 0) = true := by simpa using h
  clear h
  rintro e w1 ⟨rfl, hb⟩
  have hb2 := hb.mono (B' := w.heap.size + 2) (by simp)
  have hz : w.heap.size + 2 ≤ w1.heap.size := by have := hb.size; simp at this; omega
  obtain ⟨hc, hf⟩ := bcell hb2
  have HB := Lib.hid (below_of_alloc (below_of_alloc (hb.mono (B' := w.heap.size) (by simp; omega)) (by simp)) (Nat.le_refl _))
  clear hb hb2
  go_wp2
  exact bodyPost_ret (v := .tuple #[.agg #[.int .i64 0, .int .i64 0, .string ⟨#[]⟩], .int .i64 x]) (by simp [results, Try.results17, go_sem, hc]) rfl ⟨rfl, by first | exact HB.out | exact HB.out.setCell (by simp) _ | exact (HB.out.setCell (by simp) _).setCell (by simp) _ | (repeat (refine Below.setCell ?_ (by simp) _)); exact HB.out⟩
theorem vacc_ok (p q : Int) (s : ByteArray) (b : Int) (t : ByteArray) (w : World) (hs : s.size ≤ 9223372036854775807) (ht : t.size ≤ 9223372036854775807) (p1 : -9223372036854775808 ≤ p) (p2 : p ≤ 9223372036854775807) (q1 : -9223372036854775808 ≤ q) (q2 : q ≤ 9223372036854775807) (b1 : -9223372036854775808 ≤ b) (b2 : b ≤ 9223372036854775807) (h : askE p q s b t = 0) :
    Calls Try.prog 16 #[.agg #[.int .i64 p, .int .i64 q, .string s], .int .i64 b, .string t] w fun e w' => e = .returned (.tuple #[.agg #[.int .i64 b, .int .i64 b, .string t], .int .i64 0]) ∧ Below w.heap.size w w' := by
  go_enter Try.func16, Try.ntmps16
  go_wp2_with fail
  refine (asked_any p q s b t _ hs ht p1 p2 q1 q2 b1 b2).mono ?_
  rw [h]
  clear h
  rintro e w1 ⟨rfl, hb⟩
  have hb2 := hb.mono (B' := w.heap.size + 2) (by simp)
  have hz : w.heap.size + 2 ≤ w1.heap.size := by have := hb.size; simp at this; omega
  obtain ⟨hc, hf⟩ := bcell hb2
  have HB := Lib.hid (below_of_alloc (below_of_alloc (hb.mono (B' := w.heap.size) (by simp; omega)) (by simp)) (Nat.le_refl _))
  clear hb hb2
  go_wp2
  exact bodyPost_ret (v := .tuple #[.agg #[.int .i64 b, .int .i64 b, .string t], .int .i64 0]) (by simp [results, Try.results16, go_sem, hc]) rfl ⟨rfl, by first | exact HB.out | exact HB.out.setCell (by simp) _ | exact (HB.out.setCell (by simp) _).setCell (by simp) _ | (repeat (refine Below.setCell ?_ (by simp) _)); exact HB.out⟩
theorem vacc_bad (p q : Int) (s : ByteArray) (b : Int) (t : ByteArray) (w : World) (hs : s.size ≤ 9223372036854775807) (ht : t.size ≤ 9223372036854775807) (p1 : -9223372036854775808 ≤ p) (p2 : p ≤ 9223372036854775807) (q1 : -9223372036854775808 ≤ q) (q2 : q ≤ 9223372036854775807) (b1 : -9223372036854775808 ≤ b) (b2 : b ≤ 9223372036854775807) (x : Int) (hx0 : askE p q s b t = x) (h : x ≠ 0) :
    Calls Try.prog 16 #[.agg #[.int .i64 p, .int .i64 q, .string s], .int .i64 b, .string t] w fun e w' => e = .returned (.tuple #[.agg #[.int .i64 0, .int .i64 0, .string ⟨#[]⟩], .int .i64 x]) ∧ Below w.heap.size w w' := by
  go_enter Try.func16, Try.ntmps16
  go_wp2_with fail
  refine (asked_any p q s b t _ hs ht p1 p2 q1 q2 b1 b2).mono ?_
  rw [hx0]
  clear hx0
  have hx : (x != 0) = true := by simpa using h
  clear h
  rintro e w1 ⟨rfl, hb⟩
  have hb2 := hb.mono (B' := w.heap.size + 2) (by simp)
  have hz : w.heap.size + 2 ≤ w1.heap.size := by have := hb.size; simp at this; omega
  obtain ⟨hc, hf⟩ := bcell hb2
  have HB := Lib.hid (below_of_alloc (below_of_alloc (hb.mono (B' := w.heap.size) (by simp; omega)) (by simp)) (Nat.le_refl _))
  clear hb hb2
  go_wp2
  exact bodyPost_ret (v := .tuple #[.agg #[.int .i64 0, .int .i64 0, .string ⟨#[]⟩], .int .i64 x]) (by simp [results, Try.results16, go_sem, hc]) rfl ⟨rfl, by first | exact HB.out | exact HB.out.setCell (by simp) _ | exact (HB.out.setCell (by simp) _).setCell (by simp) _ | (repeat (refine Below.setCell ?_ (by simp) _)); exact HB.out⟩
end Go.Proofs.Ytaajfilecmgcnaa
