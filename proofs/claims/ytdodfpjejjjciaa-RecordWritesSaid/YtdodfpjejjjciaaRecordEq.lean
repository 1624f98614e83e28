/-
  Records as values: compared, opened where they come in, in a box of their own.
-/
import Derived.Test.YtdodfpjejjjciaaRecordWrite
namespace Go.Proofs.Ytdodfpjejjjciaa
open Go.RowKit Bal
set_option maxHeartbeats 1000000
set_option maxRecDepth 100000
set_option linter.unusedVariables false
set_option linter.unusedSimpArgs false

theorem rec_eqIn (k g s b k' g' s' b' : Int) (v v' : ByteArray) (w : World) : (Op.equalIn 10000 36 (.agg #[.int .u8 k, .int .i64 g, .int .i64 s, .int .i64 b, .string v]) (.agg #[.int .u8 k', .int .i64 g', .int .i64 s', .int .i64 b', .string v'])).run Try.prog w = .ok (k == k' && (g == g' && (s == s' && (b == b' && v.toList == v'.toList)))) w := by
  have h0 : Try.prog.stoodInHeld 36 = false := by kernel_rfl
  have h1 : Try.prog.underlying 36 = some (.struct (Try.prog.fieldsOf 36)) := by kernel_rfl
  have h2 := run_equalIn_struct (P := Try.prog) w 9999 36 #[.int .u8 k, .int .i64 g, .int .i64 s, .int .i64 b, .string v] #[.int .u8 k', .int .i64 g', .int .i64 s', .int .i64 b', .string v'] h1 h0
  rw [show (10000 : Nat) = 9999 + 1 from rfl, h2]
  clear h0 h2 h1
  have p1 : ∀ (k g s b : Int) (v : ByteArray) (w : World), (part 5 #[.int .u8 k, .int .i64 g, .int .i64 s, .int .i64 b, .string v] 0).run Try.prog w = .ok (.int .u8 k) w := fun _ _ _ _ _ _ => by kernel_rfl
  have p2 : ∀ (k g s b : Int) (v : ByteArray) (w : World), (part 3 #[.int .u8 k, .int .i64 g, .int .i64 s, .int .i64 b, .string v] 1).run Try.prog w = .ok (.int .i64 g) w := fun _ _ _ _ _ _ => by kernel_rfl
  have p3 : ∀ (k g s b : Int) (v : ByteArray) (w : World), (part 3 #[.int .u8 k, .int .i64 g, .int .i64 s, .int .i64 b, .string v] 2).run Try.prog w = .ok (.int .i64 s) w := fun _ _ _ _ _ _ => by kernel_rfl
  have p4 : ∀ (k g s b : Int) (v : ByteArray) (w : World), (part 3 #[.int .u8 k, .int .i64 g, .int .i64 s, .int .i64 b, .string v] 3).run Try.prog w = .ok (.int .i64 b) w := fun _ _ _ _ _ _ => by kernel_rfl
  have p5 : ∀ (k g s b : Int) (v : ByteArray) (w : World), (part 9 #[.int .u8 k, .int .i64 g, .int .i64 s, .int .i64 b, .string v] 4).run Try.prog w = .ok (.string v) w := fun _ _ _ _ _ _ => by kernel_rfl
  have q0 : ∀ (x y : Int) (w : World), (Op.equalIn 9999 5 (.int .u8 x) (.int .u8 y)).run Try.prog w = .ok (x == y) w := fun x y w => run_equalIn_int w 9998 5 .u8 .u8 x y Try.underlying5
  have q1 : ∀ (x y : Int) (w : World), (Op.equalIn 9999 3 (.int .i64 x) (.int .i64 y)).run Try.prog w = .ok (x == y) w := fun x y w => run_equalIn_int w 9998 3 .i64 .i64 x y Try.underlying3
  have q2 : ∀ (x y : ByteArray) (w : World), (Op.equalIn 9999 9 (.string x) (.string y)).run Try.prog w = .ok (x.toList == y.toList) w := fun x y w => run_equalIn_string w 9998 9 x y Try.underlying9
  simp only [Program.fieldsOf, Try.underlying36, Op.eqFields]
  simp only [Sem.run_bind, p1, p2, p3, p4, p5, q0, q1, q2, Result.andThen_ok, ne_eq, Sem.run_ite, Sem.run_pure]
  cases (k == k') <;> cases (g == g') <;> cases (s == s') <;> cases (b == b') <;> cases (v.toList == v'.toList) <;> simp
theorem rec_eq (k g s b k' g' s' b' : Int) (v v' : ByteArray) (w : World) : (binOp .eql 36 (.agg #[.int .u8 k, .int .i64 g, .int .i64 s, .int .i64 b, .string v]) (.agg #[.int .u8 k', .int .i64 g', .int .i64 s', .int .i64 b', .string v'])).run Try.prog w = .ok (.bool (k == k' && (g == g' && (s == s' && (b == b' && v.toList == v'.toList))))) w := by
  rw [run_eql_struct, rec_eqIn]
  rfl
theorem rec_neq (k g s b k' g' s' b' : Int) (v v' : ByteArray) (w : World) : (binOp .neq 36 (.agg #[.int .u8 k, .int .i64 g, .int .i64 s, .int .i64 b, .string v]) (.agg #[.int .u8 k', .int .i64 g', .int .i64 s', .int .i64 b', .string v'])).run Try.prog w = .ok (.bool (!(k == k' && (g == g' && (s == s' && (b == b' && v.toList == v'.toList)))))) w := by
  rw [run_neq_struct, rec_eqIn]
  rfl
/-- A record is itself. -/
theorem rec_self (k g s b : Int) (v : ByteArray) : (k == k && (g == g && (s == s && (b == b && v.toList == v.toList)))) = true := by simp

section
open Go.Joins Go.ChangeShapes Go.WideShapes Go.Deep
variable {H : Type} {enc : TypeId × Value → H} {P : Program} {w : World} {base : Nat} {spare : Nat → Bool} {held : Bool}
theorem open_agg5 {r : Reach} {b0 : Nat} {t : TypeId} {f0 f1 f2 f3 f4 : Field} {v : Value} {d : DataW H} {p : List MemPlace} (hs : P.underlying t = some (.struct #[f0, f1, f2, f3, f4])) (hone : oneCellFields P #[f0, f1, f2, f3, f4] = true) (hC : P.cellsOf t = 5)
    (hv : Value.okWide P w r b0 t v) (h : DataW.Trod enc P w base spare held t v d p) :
    ∃ (v0 v1 v2 v3 v4 : Value) (y0 y1 y2 y3 y4 : DataW H × List MemPlace) (n : Nat), v = .agg #[v0, v1, v2, v3, v4] ∧ d = .agg [y0.1, y1.1, y2.1, y3.1, y4.1] ∧ p = y0.2 ++ (y1.2 ++ (y2.2 ++ (y3.2 ++ y4.2))) ∧
      DataW.trod enc P w base spare held n f0.type [v0] = some y0 ∧ DataW.trod enc P w base spare held n f1.type [v1] = some y1 ∧ DataW.trod enc P w base spare held n f2.type [v2] = some y2 ∧ DataW.trod enc P w base spare held n f3.type [v3] = some y3 ∧ DataW.trod enc P w base spare held n f4.type [v4] = some y4 := by
  obtain ⟨cs, rfl, hsz⟩ := okWide_struct hs hv
  obtain ⟨l⟩ := cs
  match l, hsz.trans hC with
  | [c0, c1, c2, c3, c4], _ =>
    obtain ⟨fuel, hf⟩ := h
    obtain ⟨xs, n, _, hx, _, hlen, hg⟩ := DataW.trod_struct hs hf
    obtain ⟨o0, k0⟩ := hone_of hone 0 f0 rfl
    obtain ⟨o1, k1⟩ := hone_of hone 1 f1 rfl
    obtain ⟨o2, k2⟩ := hone_of hone 2 f2 rfl
    obtain ⟨o3, k3⟩ := hone_of hone 3 f3 rfl
    obtain ⟨o4, k4⟩ := hone_of hone 4 f4 rfl
    match xs, hlen with
    | [y0, y1, y2, y3, y4], _ =>
      simp only [Prod.mk.injEq] at hx
      exact ⟨c0, c1, c2, c3, c4, y0, y1, y2, y3, y4, n, rfl, by simpa using hx.1, by simpa using hx.2, by simpa [Value.cells, o0, k0] using hg 0 f0 rfl, by simpa [Value.cells, o1, k1] using hg 1 f1 rfl, by simpa [Value.cells, o2, k2] using hg 2 f2 rfl, by simpa [Value.cells, o3, k3] using hg 3 f3 rfl, by simpa [Value.cells, o4, k4] using hg 4 f4 rfl⟩
end
def IsRec (k g s b : Int) (v : ByteArray) : Prop := v.size ≤ maxLen ∧ (0 ≤ k ∧ k ≤ 255) ∧ (-9223372036854775808 ≤ g ∧ g ≤ 9223372036854775807) ∧ (-9223372036854775808 ≤ s ∧ s ≤ 9223372036854775807) ∧ (-9223372036854775808 ≤ b ∧ b ≤ 9223372036854775807)
theorem cellsRecord : Try.prog.cellsOf 36 = 5 := by kernel_rfl
open Go.ChangeShapes Go.WideShapes Go.Joins in
theorem open_record {H : Type} {enc : TypeId × Value → H} {w : World} {base : Nat} {spare : Nat → Bool} {held : Bool} {r : Reach} {b0 : Nat} {v : Value} {d : DataW H} {ps : List MemPlace}
    (hv : Value.okWide Try.prog w r b0 36 v) (h : DataW.Trod enc Try.prog w base spare held 36 v d ps) : ∃ (k g s b : Int) (t : ByteArray), v = .agg #[.int .u8 k, .int .i64 g, .int .i64 s, .int .i64 b, .string t] ∧ IsRec k g s b t := by
  obtain ⟨c0, c1, c2, c3, c4, y0, y1, y2, y3, y4, m, rfl, _, _, hy0, hy1, hy2, hy3, hy4⟩ := open_agg5 Try.underlying36 (by kernel_rfl) cellsRecord hv h
  obtain ⟨k, e0, _, w0⟩ := DataW.trod_int Try.underlying5 hy0
  obtain ⟨g, e1, _, w1⟩ := DataW.trod_int Try.underlying3 hy1
  obtain ⟨s, e2, _, w2⟩ := DataW.trod_int Try.underlying3 hy2
  obtain ⟨b, e3, _, w3⟩ := DataW.trod_int Try.underlying3 hy3
  obtain ⟨t, e4, _, hs⟩ := DataW.trod_string Try.underlying9 hy4
  simp at e0 e1 e2 e3 e4
  subst e0 e1 e2 e3 e4
  exact ⟨k, g, s, b, t, rfl, hs, bounds_u8 w0, bounds_i64 w1, bounds_i64 w2, bounds_i64 w3⟩
end Go.Proofs.Ytdodfpjejjjciaa
