/-
  A command that comes in.
-/
import Derived.Test.YtaoekfgeggopbaaCmdMem
import Derived.Test.YtaoekfgeggopbaaOpen
import Derived.Deep.Slices
import Derived.Deep.Fields
namespace Go.Proofs.Ytaoekfgeggopbaa
open Go.RowKit
set_option maxRecDepth 100000
set_option linter.unusedVariables false
set_option linter.unusedSimpArgs false

theorem cellsCmd : Try.prog.cellsOf 26 = 12 := by kernel_rfl
theorem cellsMsg : Try.prog.cellsOf 24 = 5 := by kernel_rfl
theorem cellsInt : Try.prog.cellsOf 3 = 1 := by kernel_rfl
theorem cellsU8 : Try.prog.cellsOf 5 = 1 := by kernel_rfl
theorem cellsStr : Try.prog.cellsOf 9 = 1 := by kernel_rfl
theorem cellsInts : Try.prog.cellsOf 22 = 1 := by kernel_rfl
open Go.ChangeShapes Go.WideShapes Go.Joins in
theorem open_cmd {H : Type} {enc : TypeId × Value → H} {w : World} {base : Nat} {spare : Nat → Bool} {held : Bool} {r : Reach} {b0 : Nat} {v : Value} {d : DataW H} {ps : List MemPlace}
    (hv : Value.okWide Try.prog w r b0 26 v) (h : DataW.Trod enc Try.prog w base spare held 26 v d ps) : ∃ D : HC, v = .agg #[.int .u8 D.k, .int .i64 D.mi, .slice D.GA D.Gn D.Gc, .int .i64 D.mt, .string D.key, .string D.body, .int .i64 D.i, .int .i64 D.tm, .slice D.MA D.Mn D.Mc, .int .i64 D.tp, .int .i64 D.who, .int .i64 D.n] ∧ CmdAt w w.heap.size D := by
  obtain ⟨cs, rfl, hsz⟩ := okWide_struct Try.underlying26 hv
  obtain ⟨l⟩ := cs
  match l, hsz.trans cellsCmd with
  | [c0, c1, c2, c3, c4, c5, c6, c7, c8, c9, c10, c11], _ =>
    obtain ⟨fuel, hf⟩ := h
    obtain ⟨xs, n, _, hx, _, hlen, hg⟩ := DataW.trod_struct Try.underlying26 hf
    match xs, hlen with
    | [y0, y1, y2, y3, y4, y5, y6, y7], _ =>
      have h0 : DataW.trod enc Try.prog w base spare held n 5 [c0] = some y0 := by
        have e : DataW.trod enc Try.prog w base spare held n 5 (([c0, c1, c2, c3, c4, c5, c6, c7, c8, c9, c10, c11].drop 0).take (Try.prog.cellsOf 5)) = some y0 := hg 0 _ rfl
        rw [cellsU8] at e
        exact e
      have h1 : DataW.trod enc Try.prog w base spare held n 24 [c1, c2, c3, c4, c5] = some y1 := by
        have e : DataW.trod enc Try.prog w base spare held n 24 (([c0, c1, c2, c3, c4, c5, c6, c7, c8, c9, c10, c11].drop 1).take (Try.prog.cellsOf 24)) = some y1 := hg 1 _ rfl
        rw [cellsMsg] at e
        exact e
      have h2 : DataW.trod enc Try.prog w base spare held n 3 [c6] = some y2 := by
        have e : DataW.trod enc Try.prog w base spare held n 3 (([c0, c1, c2, c3, c4, c5, c6, c7, c8, c9, c10, c11].drop 6).take (Try.prog.cellsOf 3)) = some y2 := hg 2 _ rfl
        rw [cellsInt] at e
        exact e
      have h3 : DataW.trod enc Try.prog w base spare held n 3 [c7] = some y3 := by
        have e : DataW.trod enc Try.prog w base spare held n 3 (([c0, c1, c2, c3, c4, c5, c6, c7, c8, c9, c10, c11].drop 7).take (Try.prog.cellsOf 3)) = some y3 := hg 3 _ rfl
        rw [cellsInt] at e
        exact e
      have h4 : DataW.trod enc Try.prog w base spare held n 22 [c8] = some y4 := by
        have e : DataW.trod enc Try.prog w base spare held n 22 (([c0, c1, c2, c3, c4, c5, c6, c7, c8, c9, c10, c11].drop 8).take (Try.prog.cellsOf 22)) = some y4 := hg 4 _ rfl
        rw [cellsInts] at e
        exact e
      have h5 : DataW.trod enc Try.prog w base spare held n 3 [c9] = some y5 := by
        have e : DataW.trod enc Try.prog w base spare held n 3 (([c0, c1, c2, c3, c4, c5, c6, c7, c8, c9, c10, c11].drop 9).take (Try.prog.cellsOf 3)) = some y5 := hg 5 _ rfl
        rw [cellsInt] at e
        exact e
      have h6 : DataW.trod enc Try.prog w base spare held n 3 [c10] = some y6 := by
        have e : DataW.trod enc Try.prog w base spare held n 3 (([c0, c1, c2, c3, c4, c5, c6, c7, c8, c9, c10, c11].drop 10).take (Try.prog.cellsOf 3)) = some y6 := hg 6 _ rfl
        rw [cellsInt] at e
        exact e
      have h7 : DataW.trod enc Try.prog w base spare held n 3 [c11] = some y7 := by
        have e : DataW.trod enc Try.prog w base spare held n 3 (([c0, c1, c2, c3, c4, c5, c6, c7, c8, c9, c10, c11].drop 11).take (Try.prog.cellsOf 3)) = some y7 := hg 7 _ rfl
        rw [cellsInt] at e
        exact e
      obtain ⟨zs, n2, _, hx2, _, hlen2, hg2⟩ := DataW.trod_struct Try.underlying24 h1
      match zs, hlen2 with
      | [z0, z1, z2, z3, z4], _ =>
        have m0 : DataW.trod enc Try.prog w base spare held n2 3 [c1] = some z0 := by
          have e : DataW.trod enc Try.prog w base spare held n2 3 (([c1, c2, c3, c4, c5].drop 0).take (Try.prog.cellsOf 3)) = some z0 := hg2 0 _ rfl
          rw [cellsInt] at e
          exact e
        have m1 : DataW.trod enc Try.prog w base spare held n2 22 [c2] = some z1 := by
          have e : DataW.trod enc Try.prog w base spare held n2 22 (([c1, c2, c3, c4, c5].drop 1).take (Try.prog.cellsOf 22)) = some z1 := hg2 1 _ rfl
          rw [cellsInts] at e
          exact e
        have m2 : DataW.trod enc Try.prog w base spare held n2 3 [c3] = some z2 := by
          have e : DataW.trod enc Try.prog w base spare held n2 3 (([c1, c2, c3, c4, c5].drop 2).take (Try.prog.cellsOf 3)) = some z2 := hg2 2 _ rfl
          rw [cellsInt] at e
          exact e
        have m3 : DataW.trod enc Try.prog w base spare held n2 9 [c4] = some z3 := by
          have e : DataW.trod enc Try.prog w base spare held n2 9 (([c1, c2, c3, c4, c5].drop 3).take (Try.prog.cellsOf 9)) = some z3 := hg2 3 _ rfl
          rw [cellsStr] at e
          exact e
        have m4 : DataW.trod enc Try.prog w base spare held n2 9 [c5] = some z4 := by
          have e : DataW.trod enc Try.prog w base spare held n2 9 (([c1, c2, c3, c4, c5].drop 4).take (Try.prog.cellsOf 9)) = some z4 := hg2 4 _ rfl
          rw [cellsStr] at e
          exact e
        obtain ⟨k, e0, _, w0⟩ := DataW.trod_int Try.underlying5 h0
        obtain ⟨i, e2, _, w2⟩ := DataW.trod_int Try.underlying3 h2
        obtain ⟨tm, e3, _, w3⟩ := DataW.trod_int Try.underlying3 h3
        obtain ⟨tp, e5, _, w5⟩ := DataW.trod_int Try.underlying3 h5
        obtain ⟨who, e6, _, w6⟩ := DataW.trod_int Try.underlying3 h6
        obtain ⟨nn, e7, _, w7⟩ := DataW.trod_int Try.underlying3 h7
        obtain ⟨mi, f0, _, u0⟩ := DataW.trod_int Try.underlying3 m0
        obtain ⟨mt, f2, _, u2⟩ := DataW.trod_int Try.underlying3 m2
        obtain ⟨key, f3, _, u3⟩ := DataW.trod_string Try.underlying9 m3
        obtain ⟨body, f4, _, u4⟩ := DataW.trod_string Try.underlying9 m4
        obtain ⟨MA, Mn, Mc, mem, e4, w4⟩ := ints_trod Try.underlying22 Try.underlying3 (by kernel_rfl) h4
        obtain ⟨GA, Gn, Gc, gs, f1, u1⟩ := ints_trod Try.underlying22 Try.underlying3 (by kernel_rfl) m1
        simp at e0 e2 e3 e5 e6 e7 f0 f2 f3 f4
        subst e0 e2 e3 e5 e6 e7 f0 f2 f3 f4 e4 f1
        obtain ⟨p1, p2, p3, p4⟩ := w4
        obtain ⟨q1, q2, q3, q4⟩ := u1
        unfold maxLen at p3 q3 u3 u4
        exact ⟨⟨k, mi, GA, Gn, Gc, gs, mt, key, body, i, tm, MA, Mn, Mc, mem, tp, who, nn⟩, rfl, ⟨q1, p1, q2, q3, p2, p3, bounds_u8 w0, u3, u4, q4, p4, bounds_i64 u0, bounds_i64 u2, bounds_i64 w2, bounds_i64 w3, bounds_i64 w5, bounds_i64 w6, bounds_i64 w7⟩⟩
end Go.Proofs.Ytaoekfgeggopbaa
