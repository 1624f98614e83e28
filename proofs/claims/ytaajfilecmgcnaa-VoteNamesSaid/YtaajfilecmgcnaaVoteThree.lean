/-
  Layer 7: the chapter's votes: three, alive; VoteAgain's walk.
-/
import Derived.Test.YtaajfilecmgcnaaVoteVotes
namespace Go.Proofs.Ytaajfilecmgcnaa
open Go.RowKit Bal
set_option maxHeartbeats 1000000
set_option maxRecDepth 100000
set_option linter.unusedVariables false

theorem vneq (a b : Int) (s : ByteArray) (w : World) : (binOp .neq 23 (.agg #[.int .i64 a, .int .i64 b, .string s]) (.agg #[.int .i64 a, .int .i64 b, .string s])).run Try.prog w = .ok (.bool false) w := by
  have h := veq a b a b s s w
  rw [run_eql_struct] at h
  rw [run_neq_struct]
  cases hq : (Op.equalIn 10000 23 (.agg #[.int .i64 a, .int .i64 b, .string s]) (.agg #[.int .i64 a, .int .i64 b, .string s])).run Try.prog w with
  | ok b' w' =>
    rw [hq] at h
    simp [Result.andThen] at h ⊢
    exact ⟨h.1, h.2⟩
  | halt x w' =>
    rw [hq] at h
    simp [Result.andThen] at h

theorem Vb.froze {w : World} {g : Nat} {a b : Int} {s : ByteArray} (h : Vb w g a b s) : w.frozen? ⟨g, 0, none⟩ = false ∧ w.frozen? ⟨g, 1, none⟩ = false ∧ w.frozen? ⟨g, 2, none⟩ = false := ⟨Blk.frozen h 0, Blk.frozen h 1, Blk.frozen h 2⟩
theorem Vb.store {w : World} {g : Nat} {a b : Int} {s : ByteArray} (h : Vb w g a b s) (a' b' : Int) (s' : ByteArray) : Vb (((w.setCell ⟨g, 0, none⟩ (.int .i64 a')).setCell ⟨g, 1, none⟩ (.int .i64 b')).setCell ⟨g, 2, none⟩ (.string s')) g a' b' s' :=
  ((Blk.set_ h 0 (.int .i64 a')).set_ 1 (.int .i64 b')).set_ 2 (.string s')

theorem Vb.far {w : World} {g g' : Nat} {a b : Int} {s : ByteArray} (h : Vb w g a b s) (hg : g ≠ g') (x y z : Value) : Vb (((w.setCell ⟨g', 0, none⟩ x).setCell ⟨g', 1, none⟩ y).setCell ⟨g', 2, none⟩ z) g a b s :=
  ((Blk.far h (p := ⟨g', 0, none⟩) hg x).far (p := ⟨g', 1, none⟩) hg y).far (p := ⟨g', 2, none⟩) hg z
theorem below_store {B : Nat} {a w : World} {g : Nat} (h : Below B a w) (hg : B ≤ g) (x y z : Value) : Below B a (((w.setCell ⟨g, 0, none⟩ x).setCell ⟨g, 1, none⟩ y).setCell ⟨g, 2, none⟩ z) :=
  ((h.setCell (p := ⟨g, 0, none⟩) hg x).setCell (p := ⟨g, 1, none⟩) hg y).setCell (p := ⟨g, 2, none⟩) hg z
theorem size_store (w : World) (g : Nat) (x y z : Value) : (((w.setCell ⟨g, 0, none⟩ x).setCell ⟨g, 1, none⟩ y).setCell ⟨g, 2, none⟩ z).heap.size = w.heap.size := by simp

theorem three_any (w : World) : Calls Try.prog 15 #[] w fun e w' => e = .returned (.tuple #[.agg #[.int .i64 17, .int .i64 8, .string ⟨#[120]⟩], .bool true]) ∧ Below w.heap.size w w' := by
  go_enter Try.func15, Try.ntmps15
  go_wp2_with fail
  refine (vprep_ok 0 0 ⟨#[]⟩ 8 _ (by decide) (by omega) (by omega) (by omega) (by omega) (by omega) (by omega) (by decide +kernel)).mono ?_
  rintro e w1 ⟨rfl, hb1⟩
  have Z0 := Lib.hid (Vb.new hb1)
  have B1 := Lib.hid (below_of_alloc (hb1.mono (B' := w.heap.size) (by simp)) (Nat.le_refl _))
  have l0 := Z0.out.use.2.2.2.2
  clear hb1
  go_wp2_with fail
  refine (vacc_ok 8 0 ⟨#[]⟩ 8 ⟨#[120]⟩ _ (by decide) (by decide) (by omega) (by omega) (by omega) (by omega) (by omega) (by omega) (by decide +kernel)).mono ?_
  rintro e w2 ⟨rfl, hb2⟩
  have K1 := Lib.hid (Vb.new hb2)
  have Z1 := Lib.hid (Z0.out.next hb2)
  have B2 := Lib.hid (B1.out.trans (below_of_alloc (hb2.mono (B' := w.heap.size) (by simp; omega)) (by omega)))
  obtain ⟨c10, c11, c12, n1, l1⟩ := K1.out.use
  obtain ⟨f10, f11, f12⟩ := K1.out.froze
  clear hb2
  go_wp2_with fail
  refine (vprep_ok 8 8 ⟨#[120]⟩ 17 _ (by decide) (by omega) (by omega) (by omega) (by omega) (by omega) (by omega) (by decide +kernel)).mono ?_
  rintro e w3 ⟨rfl, hb3⟩
  have K2 := Lib.hid ((K1.out.store 8 8 ⟨#[120]⟩).kept hb3)
  have Z2 := Lib.hid ((Z1.out.far (Nat.ne_of_lt l0) (.int .i64 8) (.int .i64 8) (.string ⟨#[120]⟩)).kept hb3)
  have B3 := Lib.hid ((below_store B2.out B1.out.size (.int .i64 8) (.int .i64 8) (.string ⟨#[120]⟩)).trans (hb3.mono (B' := w.heap.size) (by rw [size_store]; exact B2.out.size)))
  clear c10 c11 c12 n1 l1 f10 f11 f12 hb3
  obtain ⟨c10, c11, c12, n1, l1⟩ := K2.out.use
  obtain ⟨f10, f11, f12⟩ := K2.out.froze
  obtain ⟨c00, c01, c02, n0, l00⟩ := Z2.out.use
  obtain ⟨f00, f01, f02⟩ := Z2.out.froze
  have hne : ¬ w.heap.size = w1.heap.size := Nat.ne_of_lt l0
  have hne2 : ¬ w1.heap.size = w.heap.size := Nat.ne_of_gt l0
  go_wp2
  have fin := (K2.out.store 17 8 ⟨#[120]⟩)
  have fin2 := ((Z2.out.far (Nat.ne_of_lt l0) (.int .i64 17) (.int .i64 8) (.string ⟨#[120]⟩)).store 17 8 ⟨#[120]⟩)
  obtain ⟨d0, d1, d2, _, _⟩ := fin2.use
  exact bodyPost_ret (v := .tuple #[.agg #[.int .i64 17, .int .i64 8, .string ⟨#[120]⟩], .bool true]) (by simp only [results, Try.results15]; simp [go_sem, d0, d1, d2]) rfl ⟨rfl, below_store (below_store B3.out B1.out.size _ _ _) (Nat.le_refl _) _ _ _⟩

theorem alive07 (w : World) : Calls Try.prog 18 #[] w fun e w' => e = .returned (.bool true) ∧ Below w.heap.size w w' := by
  go_enter Try.func18, Try.ntmps18
  go_wp2_with fail
  refine (three_any w).mono ?_
  rintro e w1 ⟨rfl, hb1⟩
  have B1 := Lib.hid hb1
  clear hb1
  have hv := fun w => veq 17 8 17 8 ⟨#[120]⟩ ⟨#[120]⟩ w
  go_wp2
  go_ret
  exact ⟨rfl, B1.out.alloc B1.out.size _⟩
end Go.Proofs.Ytaajfilecmgcnaa
