/-
  The walk of VoteVotes.
-/
import Derived.Test.YtaajfilecmgcnaaVoteRef
import Derived.Laws.StructEq
import Derived.Deep.RegionHeld3
namespace Go.Proofs.Ytaajfilecmgcnaa
open Go.RowKit Bal
set_option maxHeartbeats 1000000
set_option maxRecDepth 100000
set_option linter.unusedVariables false

theorem veq (a b a' b' : Int) (s s' : ByteArray) (w : World) : (binOp .eql 23 (.agg #[.int .i64 a, .int .i64 b, .string s]) (.agg #[.int .i64 a', .int .i64 b', .string s'])).run Try.prog w = .ok (.bool (a == a' && (b == b' && s.toList == s'.toList))) w := by
  have h0 : Try.prog.stoodInHeld 23 = false := by kernel_rfl
  have h1 : Try.prog.underlying 23 = some (.struct (Try.prog.fieldsOf 23)) := by kernel_rfl
  have h2 := run_equalIn_struct (P := Try.prog) w 9999 23 #[.int .i64 a, .int .i64 b, .string s] #[.int .i64 a', .int .i64 b', .string s'] h1 h0
  rw [run_eql_struct, show (10000 : Nat) = 9999 + 1 from rfl, h2]
  clear h0 h2 h1
  have p1 : ∀ (x y : Int) (z : ByteArray) (w : World), (part 3 #[.int .i64 x, .int .i64 y, .string z] 0).run Try.prog w = .ok (.int .i64 x) w := fun _ _ _ _ => by kernel_rfl
  have p2 : ∀ (x y : Int) (z : ByteArray) (w : World), (part 3 #[.int .i64 x, .int .i64 y, .string z] 1).run Try.prog w = .ok (.int .i64 y) w := fun _ _ _ _ => by kernel_rfl
  have p3 : ∀ (x y : Int) (z : ByteArray) (w : World), (part 9 #[.int .i64 x, .int .i64 y, .string z] 2).run Try.prog w = .ok (.string z) w := fun _ _ _ _ => by kernel_rfl
  have q1 : ∀ (x y : Int) (w : World), (Op.equalIn 9999 3 (.int .i64 x) (.int .i64 y)).run Try.prog w = .ok (x == y) w := fun x y w => run_equalIn_int w 9998 3 .i64 .i64 x y Try.underlying3
  have q2 : ∀ (x y : ByteArray) (w : World), (Op.equalIn 9999 9 (.string x) (.string y)).run Try.prog w = .ok (x.toList == y.toList) w := fun x y w => run_equalIn_string w 9998 9 x y Try.underlying9
  simp only [Program.fieldsOf, Try.underlying23, Op.eqFields]
  simp only [Sem.run_bind, p1, p2, p3, q1, q2, Result.andThen_ok, ne_eq, Sem.run_ite, Sem.run_pure]
  cases (a == a') <;> cases (b == b') <;> cases (s.toList == s'.toList) <;> simp

/-- A vote that lies in a block of its own. -/
def Vb (w : World) (g : Nat) (a b : Int) (s : ByteArray) : Prop := Blk w g 23 #[.int .i64 a, .int .i64 b, .string s]
theorem Vb.use {w : World} {g : Nat} {a b : Int} {s : ByteArray} (h : Vb w g a b s) : w.cell? ⟨g, 0, none⟩ = some (.int .i64 a) ∧ w.cell? ⟨g, 1, none⟩ = some (.int .i64 b) ∧ w.cell? ⟨g, 2, none⟩ = some (.string s) ∧ ¬ g = w.heap.size ∧ g < w.heap.size := by
  have hl := Blk.lt h
  exact ⟨(Blk.cell h 0).trans rfl, (Blk.cell h 1).trans rfl, (Blk.cell h 2).trans rfl, by omega, hl⟩
theorem Vb.new {w w1 : World} {a b : Int} {s : ByteArray} (hb : Below (w.alloc (.cells #[.int .i64 a, .int .i64 b, .string s] 23)).heap.size (w.alloc (.cells #[.int .i64 a, .int .i64 b, .string s] 23)) w1) : Vb w1 w.heap.size a b s :=
  (Blk.new w _ _).below hb (by simp)
theorem Vb.next {w w1 : World} {g : Nat} {a b : Int} {s : ByteArray} {o : Obj} (h : Vb w g a b s) (hb : Below (w.alloc o).heap.size (w.alloc o) w1) : Vb w1 g a b s :=
  (Blk.alloc h o).below hb (by have := Blk.lt h; simp; omega)
theorem Vb.kept {w w1 : World} {g : Nat} {a b : Int} {s : ByteArray} (h : Vb w g a b s) (hb : Below w.heap.size w w1) : Vb w1 g a b s :=
  Blk.below h hb (Blk.lt h)

/-- The five votes of VoteVotes, as they lie while the last statement runs. -/
structure VSt (W w : World) (g0 g1 g2 g3 g4 : Nat) (p q : Int) (s : ByteArray) (pa qa : Int) (sa : ByteArray) (pb qb : Int) (sb : ByteArray) : Prop where
  bel : Below W.heap.size W w
  v0 : Vb w g0 p q s
  v1 : Vb w g1 pa qa sa
  v2 : Vb w g2 pa qa sa
  v3 : Vb w g3 pb qb sb
  v4 : Vb w g4 pb qb sb
section
variable {W w : World} {g0 g1 g2 g3 g4 : Nat} {p q : Int} {s : ByteArray} {pa qa : Int} {sa : ByteArray} {pb qb : Int} {sb : ByteArray}
theorem VSt.cells (h : VSt W w g0 g1 g2 g3 g4 p q s pa qa sa pb qb sb) :
    w.cell? ⟨g0, 0, none⟩ = some (.int .i64 p) ∧ w.cell? ⟨g0, 1, none⟩ = some (.int .i64 q) ∧ w.cell? ⟨g0, 2, none⟩ = some (.string s) ∧
    w.cell? ⟨g1, 0, none⟩ = some (.int .i64 pa) ∧ w.cell? ⟨g1, 1, none⟩ = some (.int .i64 qa) ∧ w.cell? ⟨g1, 2, none⟩ = some (.string sa) ∧
    w.cell? ⟨g2, 0, none⟩ = some (.int .i64 pa) ∧ w.cell? ⟨g2, 1, none⟩ = some (.int .i64 qa) ∧ w.cell? ⟨g2, 2, none⟩ = some (.string sa) ∧
    w.cell? ⟨g3, 0, none⟩ = some (.int .i64 pb) ∧ w.cell? ⟨g3, 1, none⟩ = some (.int .i64 qb) ∧ w.cell? ⟨g3, 2, none⟩ = some (.string sb) ∧
    w.cell? ⟨g4, 0, none⟩ = some (.int .i64 pb) ∧ w.cell? ⟨g4, 1, none⟩ = some (.int .i64 qb) ∧ w.cell? ⟨g4, 2, none⟩ = some (.string sb) := by
  obtain ⟨_, k0, k1, k2, k3, k4⟩ := h
  exact ⟨k0.use.1, k0.use.2.1, k0.use.2.2.1, k1.use.1, k1.use.2.1, k1.use.2.2.1, k2.use.1, k2.use.2.1, k2.use.2.2.1, k3.use.1, k3.use.2.1, k3.use.2.2.1, k4.use.1, k4.use.2.1, k4.use.2.2.1⟩
theorem VSt.all (h : VSt W w g0 g1 g2 g3 g4 p q s pa qa sa pb qb sb) :
    w.cell? ⟨g0, 0, none⟩ = some (.int .i64 p) ∧ w.cell? ⟨g0, 1, none⟩ = some (.int .i64 q) ∧ w.cell? ⟨g0, 2, none⟩ = some (.string s) ∧
    w.cell? ⟨g1, 0, none⟩ = some (.int .i64 pa) ∧ w.cell? ⟨g1, 1, none⟩ = some (.int .i64 qa) ∧ w.cell? ⟨g1, 2, none⟩ = some (.string sa) ∧
    w.cell? ⟨g2, 0, none⟩ = some (.int .i64 pa) ∧ w.cell? ⟨g2, 1, none⟩ = some (.int .i64 qa) ∧ w.cell? ⟨g2, 2, none⟩ = some (.string sa) ∧
    w.cell? ⟨g3, 0, none⟩ = some (.int .i64 pb) ∧ w.cell? ⟨g3, 1, none⟩ = some (.int .i64 qb) ∧ w.cell? ⟨g3, 2, none⟩ = some (.string sb) ∧
    w.cell? ⟨g4, 0, none⟩ = some (.int .i64 pb) ∧ w.cell? ⟨g4, 1, none⟩ = some (.int .i64 qb) ∧ w.cell? ⟨g4, 2, none⟩ = some (.string sb) ∧ VSt W w g0 g1 g2 g3 g4 p q s pa qa sa pb qb sb := by
  obtain ⟨a, b, c, d, e, f, g, i, j, k, l, m, n, o, r⟩ := h.cells
  exact ⟨a, b, c, d, e, f, g, i, j, k, l, m, n, o, r, h⟩
theorem VSt.drewN (h : VSt W w g0 g1 g2 g3 g4 p q s pa qa sa pb qb sb) (n : Nat) : VSt W (w.drewN n) g0 g1 g2 g3 g4 p q s pa qa sa pb qb sb := ⟨below_drewN h.bel n, h.v0, h.v1, h.v2, h.v3, h.v4⟩
theorem VSt.drew (h : VSt W w g0 g1 g2 g3 g4 p q s pa qa sa pb qb sb) : VSt W w.drew g0 g1 g2 g3 g4 p q s pa qa sa pb qb sb := ⟨h.bel.drew, h.v0, h.v1, h.v2, h.v3, h.v4⟩
theorem VSt.next {w' : World} (h : VSt W w g0 g1 g2 g3 g4 p q s pa qa sa pb qb sb) (hb : Below w.heap.size w w') : VSt W w' g0 g1 g2 g3 g4 p q s pa qa sa pb qb sb :=
  ⟨then_ h.bel hb, h.v0.kept hb, h.v1.kept hb, h.v2.kept hb, h.v3.kept hb, h.v4.kept hb⟩
theorem VSt.next2 {w' w'' : World} (h : VSt W w g0 g1 g2 g3 g4 p q s pa qa sa pb qb sb) (hb : Below w.heap.size w w') (hb' : Below w'.heap.size w' w'') : VSt W w'' g0 g1 g2 g3 g4 p q s pa qa sa pb qb sb := (h.next hb).next hb'
end

/-- A call that returns a vote and an error's number. -/
def GivesVote (f : FuncId) (args : Array Value) (p q : Int) (s : ByteArray) (x : Int) (w : World) : Prop :=
  Calls Try.prog f args w fun e w' => e = .returned (.tuple #[.agg #[.int .i64 p, .int .i64 q, .string s], .int .i64 x]) ∧ Below w.heap.size w w'
theorem prep_tri (p q : Int) (s : ByteArray) (b : Int) (hs : s.size ≤ 9223372036854775807) (p1 : -9223372036854775808 ≤ p) (p2 : p ≤ 9223372036854775807) (q1 : -9223372036854775808 ≤ q) (q2 : q ≤ 9223372036854775807) (b1 : -9223372036854775808 ≤ b) (b2 : b ≤ 9223372036854775807) :
    ∃ (p' q' : Int) (s' : ByteArray) (x : Int), (∀ w, GivesVote 17 #[.agg #[.int .i64 p, .int .i64 q, .string s], .int .i64 b] p' q' s' x w) ∧ ∀ w, GivesVote 20 #[.agg #[.int .i64 p, .int .i64 q, .string s], .int .i64 b] p' q' s' x w := by
  by_cases h : askE p q s b ⟨#[]⟩ = 0
  · exact ⟨b, q, s, 0, fun w => vprep_ok p q s b w hs p1 p2 q1 q2 b1 b2 h, fun w => rprep_ok p q s b w hs p1 p2 q1 q2 b1 b2 h⟩
  · exact ⟨0, 0, ⟨#[]⟩, _, fun w => vprep_bad p q s b w hs p1 p2 q1 q2 b1 b2 _ rfl h, fun w => rprep_bad p q s b w hs p1 p2 q1 q2 b1 b2 _ rfl h⟩
theorem acc_tri (p q : Int) (s : ByteArray) (b : Int) (t : ByteArray) (hs : s.size ≤ 9223372036854775807) (ht : t.size ≤ 9223372036854775807) (p1 : -9223372036854775808 ≤ p) (p2 : p ≤ 9223372036854775807) (q1 : -9223372036854775808 ≤ q) (q2 : q ≤ 9223372036854775807) (b1 : -9223372036854775808 ≤ b) (b2 : b ≤ 9223372036854775807) :
    ∃ (p' q' : Int) (s' : ByteArray) (x : Int), (∀ w, GivesVote 16 #[.agg #[.int .i64 p, .int .i64 q, .string s], .int .i64 b, .string t] p' q' s' x w) ∧ ∀ w, GivesVote 21 #[.agg #[.int .i64 p, .int .i64 q, .string s], .int .i64 b, .string t] p' q' s' x w := by
  by_cases h : askE p q s b t = 0
  · exact ⟨b, b, t, 0, fun w => vacc_ok p q s b t w hs ht p1 p2 q1 q2 b1 b2 h, fun w => racc_ok p q s b t w hs ht p1 p2 q1 q2 b1 b2 h⟩
  · exact ⟨0, 0, ⟨#[]⟩, _, fun w => vacc_bad p q s b t w hs ht p1 p2 q1 q2 b1 b2 _ rfl h, fun w => racc_bad p q s b t w hs ht p1 p2 q1 q2 b1 b2 _ rfl h⟩

theorem voteVotes_walk (p q : Int) (s : ByteArray) (b : Int) (t : ByteArray) (w : World) (hs : s.size ≤ 9223372036854775807) (ht : t.size ≤ 9223372036854775807) (p1 : -9223372036854775808 ≤ p) (p2 : p ≤ 9223372036854775807) (q1 : -9223372036854775808 ≤ q) (q2 : q ≤ 9223372036854775807) (b1 : -9223372036854775808 ≤ b) (b2 : b ≤ 9223372036854775807) :
    Calls Try.prog 4 #[.agg #[.int .i64 p, .int .i64 q, .string s], .int .i64 b, .string t] w fun e w' => e = .returned (.bool true) ∧ Below w.heap.size w w' := by
  obtain ⟨pa, qa, sa, xa, h1, h2⟩ := prep_tri p q s b hs p1 p2 q1 q2 b1 b2
  obtain ⟨pb, qb, sb, xb, h3, h4⟩ := acc_tri p q s b t hs ht p1 p2 q1 q2 b1 b2
  have H1 := Lib.hid h1
  have H2 := Lib.hid h2
  have H3 := Lib.hid h3
  have H4 := Lib.hid h4
  clear h1 h2 h3 h4
  go_enter Try.func4, Try.ntmps4
  go_wp2_with fail
  refine (H1.out _).mono ?_
  rintro e w1 ⟨rfl, hb1⟩
  have K0 := Lib.hid (Vb.new hb1)
  have B1 := Lib.hid (below_of_alloc (hb1.mono (B' := w.heap.size) (by simp)) (Nat.le_refl _))
  obtain ⟨c00, c01, c02, n0, l0⟩ := K0.out.use
  clear hb1
  go_wp2_with fail
  refine (H2.out _).mono ?_
  rintro e w2 ⟨rfl, hb2⟩
  have K1 := Lib.hid (Vb.new hb2)
  have K0 := Lib.hid (K0.out.next hb2)
  have B2 := Lib.hid (B1.out.trans (below_of_alloc (hb2.mono (B' := w.heap.size) (by simp; omega)) (by omega)))
  clear c00 c01 c02 n0 l0 hb2
  obtain ⟨c00, c01, c02, n0, l0⟩ := K0.out.use
  obtain ⟨c10, c11, c12, n1, l1⟩ := K1.out.use
  go_wp2_with fail
  refine (H3.out _).mono ?_
  rintro e w3 ⟨rfl, hb3⟩
  have K2 := Lib.hid (Vb.new hb3)
  have K0 := Lib.hid (K0.out.next hb3)
  have K1 := Lib.hid (K1.out.next hb3)
  have B3 := Lib.hid (B2.out.trans (below_of_alloc (hb3.mono (B' := w.heap.size) (by simp; omega)) (by omega)))
  clear c00 c01 c02 n0 l0 c10 c11 c12 n1 l1 hb3
  obtain ⟨c00, c01, c02, n0, l0⟩ := K0.out.use
  obtain ⟨c10, c11, c12, n1, l1⟩ := K1.out.use
  obtain ⟨c20, c21, c22, n2, l2⟩ := K2.out.use
  go_wp2_with fail
  refine (H4.out _).mono ?_
  rintro e w4 ⟨rfl, hb4⟩
  have K3 := Lib.hid (Vb.new hb4)
  have K0 := Lib.hid (K0.out.next hb4)
  have K1 := Lib.hid (K1.out.next hb4)
  have K2 := Lib.hid (K2.out.next hb4)
  have B4 := Lib.hid (B3.out.trans (below_of_alloc (hb4.mono (B' := w.heap.size) (by simp; omega)) (by omega)))
  clear c00 c01 c02 n0 l0 c10 c11 c12 n1 l1 c20 c21 c22 n2 l2 hb4
  obtain ⟨c00, c01, c02, n0, l0⟩ := K0.out.use
  obtain ⟨c10, c11, c12, n1, l1⟩ := K1.out.use
  obtain ⟨c20, c21, c22, n2, l2⟩ := K2.out.use
  obtain ⟨c30, c31, c32, n3, l3⟩ := K3.out.use
  go_wp2_with fail
  have J0 := (Blk.alloc K0.out (.cells #[.int .i64 pb, .int .i64 qb, .string sb] 23) : Vb _ _ _ _ _)
  have J1 := (Blk.alloc K1.out (.cells #[.int .i64 pb, .int .i64 qb, .string sb] 23) : Vb _ _ _ _ _)
  have J2 := (Blk.alloc K2.out (.cells #[.int .i64 pb, .int .i64 qb, .string sb] 23) : Vb _ _ _ _ _)
  have J3 := (Blk.alloc K3.out (.cells #[.int .i64 pb, .int .i64 qb, .string sb] 23) : Vb _ _ _ _ _)
  have J4 : Vb (w4.alloc (.cells #[.int .i64 pb, .int .i64 qb, .string sb] 23)) w4.heap.size pb qb sb := Blk.new _ _ _
  have B5 := B4.out.alloc (Nat.le_trans (Nat.le_of_lt l0) (Nat.le_refl _)) (.cells #[.int .i64 pb, .int .i64 qb, .string sb] 23)
  clear c00 c01 c02 n0 l0 c10 c11 c12 n1 l1 c20 c21 c22 n2 l2 c30 c31 c32 n3 l3
  generalize w4.alloc (.cells #[.int .i64 pb, .int .i64 qb, .string sb] 23) = W at *
  have BW := Lib.hid B5
  have hS : VSt W W (w.heap.size) (w1.heap.size) (w2.heap.size) (w3.heap.size) (w4.heap.size) p q s pa qa sa pb qb sb := ⟨Below.refl _ _, J0, J1, J2, J3, J4⟩
  have HS := Lib.hid hS
  clear J0 J1 J2 J3 J4 B5
  obtain ⟨c00, c01, c02, c10, c11, c12, c20, c21, c22, c30, c31, c32, c40, c41, c42⟩ := hS.cells
  have ve1 := fun w => veq pa qa pa qa sa sa w
  have ve2 := fun w => veq pb qb pb qb sb sb w
  clear hS
  clear c00 c01 c02 c10 c11 c12 c20 c21 c22 c30 c31 c32 c40 c41 c42
  go_region_held3 (fun w' => w'.cell? ⟨w.heap.size, 0, none⟩ = some (.int .i64 p) ∧ w'.cell? ⟨w.heap.size, 1, none⟩ = some (.int .i64 q) ∧ w'.cell? ⟨w.heap.size, 2, none⟩ = some (.string s) ∧ w'.cell? ⟨w1.heap.size, 0, none⟩ = some (.int .i64 pa) ∧ w'.cell? ⟨w1.heap.size, 1, none⟩ = some (.int .i64 qa) ∧ w'.cell? ⟨w1.heap.size, 2, none⟩ = some (.string sa) ∧ w'.cell? ⟨w2.heap.size, 0, none⟩ = some (.int .i64 pa) ∧ w'.cell? ⟨w2.heap.size, 1, none⟩ = some (.int .i64 qa) ∧ w'.cell? ⟨w2.heap.size, 2, none⟩ = some (.string sa) ∧ w'.cell? ⟨w3.heap.size, 0, none⟩ = some (.int .i64 pb) ∧ w'.cell? ⟨w3.heap.size, 1, none⟩ = some (.int .i64 qb) ∧ w'.cell? ⟨w3.heap.size, 2, none⟩ = some (.string sb) ∧ w'.cell? ⟨w4.heap.size, 0, none⟩ = some (.int .i64 pb) ∧ w'.cell? ⟨w4.heap.size, 1, none⟩ = some (.int .i64 qb) ∧ w'.cell? ⟨w4.heap.size, 2, none⟩ = some (.string sb) ∧ VSt W w' w.heap.size w1.heap.size w2.heap.size w3.heap.size w4.heap.size p q s pa qa sa pb qb sb) (first | exact HS.out.all | exact HS.out.drew.all | exact (VSt.next HS.out.drew (by assumption)).all | exact (VSt.next2 HS.out.drew (by assumption) (by assumption)).all) (first | (go_at_call 19; refine (vcheck_any p q s _ hs p1 p2 q1 q2).mono ?_; rintro e w' ⟨rfl, hbq⟩) | (go_at_call 22; refine (rmay07_any p q s _ hs p1 p2 q1 q2).mono ?_; rintro e w' ⟨rfl, hbq⟩))
  have hfin : ((vE p q s == 0) == mayV p q s) = true := by cases h : mayV p q s <;> simp [vE, h]
  have HF := Lib.hid hfin
  clear hfin
  go_wp2
  go_ret
  exact ⟨congrArg (fun b => Ending.returned (.bool b)) HF.out, then_ BW.out (VSt.next2 HS.out.drew (by assumption) hbq).bel⟩

/-! ### a vote that comes in -/
def IsVote (p q : Int) (s : ByteArray) : Prop := s.size ≤ 9223372036854775807 ∧ (-9223372036854775808 ≤ p ∧ p ≤ 9223372036854775807) ∧ (-9223372036854775808 ≤ q ∧ q ≤ 9223372036854775807)
theorem cellsVote : Try.prog.cellsOf 23 = 3 := by kernel_rfl
open Go.ChangeShapes Go.WideShapes Go.Joins in
theorem open_vote {H : Type} {enc : TypeId × Value → H} {w : World} {base : Nat} {spare : Nat → Bool} {held : Bool} {r : Reach} {b0 : Nat} {v : Value} {d : DataW H} {ps : List MemPlace}
    (hv : Value.okWide Try.prog w r b0 23 v) (h : DataW.Trod enc Try.prog w base spare held 23 v d ps) : ∃ (p q : Int) (s : ByteArray), v = .agg #[.int .i64 p, .int .i64 q, .string s] ∧ IsVote p q s := by
  obtain ⟨c0, c1, c2, y0, y1, y2, m, rfl, _, _, hy0, hy1, hy2⟩ := open_agg3 Try.underlying23 (by kernel_rfl) cellsVote hv h
  obtain ⟨a, e0, _, wa⟩ := DataW.trod_int Try.underlying3 hy0
  obtain ⟨b, e1, _, wb⟩ := DataW.trod_int Try.underlying3 hy1
  obtain ⟨s, e2, _, hs⟩ := DataW.trod_string Try.underlying9 hy2
  simp at e0 e1 e2
  subst e0 e1 e2
  exact ⟨a, b, s, rfl, hs, bounds_i64 wa, bounds_i64 wb⟩
theorem voteVotes_walk' (p q : Int) (s : ByteArray) (b : Int) (t : ByteArray) (w : World) (hv : IsVote p q s) (hb : -9223372036854775808 ≤ b ∧ b ≤ 9223372036854775807) (ht : t.size ≤ maxLen) :
    Calls Try.prog 4 #[.agg #[.int .i64 p, .int .i64 q, .string s], .int .i64 b, .string t] w fun e w' => e = .returned (.bool true) ∧ Below w.heap.size w w' :=
  voteVotes_walk p q s b t w hv.1 ht hv.2.1.1 hv.2.1.2 hv.2.2.1 hv.2.2.2 hb.1 hb.2
end Go.Proofs.Ytaajfilecmgcnaa
