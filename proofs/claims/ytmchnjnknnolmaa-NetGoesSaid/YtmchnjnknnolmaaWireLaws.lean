/-
  Layer 23: WireNames', WireBack's, WireOnly's walks; mail that comes in.
-/
import Derived.Test.YtmchnjnknnolmaaWireReadW
import Derived.Test.YtmchnjnknnolmaaMake
namespace Go.Proofs.Ytmchnjnknnolmaa
open Go.RowKit Bal
set_option maxHeartbeats 8000000
set_option maxRecDepth 100000
set_option linter.unusedVariables false
set_option linter.unusedSimpArgs false

theorem mayM_Is {m : Wp.Mail} (h : Wp.mayM m = true) : IsMailM m := by
  obtain ⟨h1, h2, h3, h4, h5, h6, h7, h8, h9, h10, _⟩ := Wp.mayM_cases h
  exact ⟨⟨by omega, by omega⟩, by omega, ⟨by omega, by omega⟩, ⟨by omega, by omega⟩, ⟨by omega, by omega⟩, ⟨by omega, by omega⟩, ⟨by omega, by omega⟩, ⟨by omega, by omega⟩, ⟨by omega, by omega⟩, ⟨by omega, by omega⟩⟩
theorem bytesM_small {m : Wp.Mail} (h : Wp.mayM m = true) : (Wp.bytesM m).length ≤ 4096 := by
  obtain ⟨h1, h2, h3, h4, h5, h6, h7, h8, h9, h10, _⟩ := Wp.mayM_cases h
  have e1 := hd_len m 4 h1.2 h2.2 (by omega) h3.2
  have g1 := Nm.enc_len6 (n := (m.get 115).toNat) (by have := mayM_get h 115; omega)
  have g2 := Nm.enc_len6 (n := (m.get 98).toNat) (by have := mayM_get h 98; omega)
  have g3 := Nm.enc_len6 (n := (m.get 112).toNat) (by have := mayM_get h 112; omega)
  have g4 := Nm.enc_len6 (n := (m.get 105).toNat) (by have := mayM_get h 105; omega)
  have g5 := Nm.enc_len6 (n := (m.get 116).toNat) (by have := mayM_get h 116; omega)
  have g6 := Nm.enc_len6 (n := m.v.length) (by omega)
  have g7 : (Nm.txt m.v).length ≤ 1030 := by simp only [Nm.txt, List.length_append]; omega
  have e2 : (Wp.wrF (Wp.fieldsL m.k) m).length ≤ 2000 := by
    unfold Wp.fieldsL
    repeat' split
    all_goals simp [Wp.wrF]
    all_goals omega
  rw [bytesM_hd, List.length_append]
  omega
theorem wcheck_is (m : Wp.Mail) (w : World) (hm : IsMailM m) (b : Bool) (h : Wp.mayM m = b) :
    Calls Try.prog 96 #[.agg (mA m)] w fun e w' => e = .returned (.int .i64 (if b then 0 else 8)) ∧ Below w.heap.size w w' := by
  have := wcheck_any m w hm
  rw [h] at this
  exact this
theorem lit_reads (w : World) (cs : Array Value) (l : List UInt8) (n : Nat) (h : cs.toList = cb l) (hn : cs.size = n) : Reads (w.alloc (.cells cs 5)) (w.alloc (.cells cs 5)).heap.size 1 (some ⟨w.heap.size, 0, none⟩) n (cb l) := by
  have := Reads.new w 5 cs
  rw [h, hn] at this
  rw [World.size_alloc]
  exact this
section
open Go.Joins Go.ChangeShapes Go.WideShapes Go.Deep
variable {H : Type} {enc : TypeId × Value → H} {P : Program} {w : World} {base : Nat} {spare : Nat → Bool} {held : Bool}
theorem open_agg10 {r : Reach} {b0 : Nat} {t : TypeId} {f0 f1 f2 f3 f4 f5 f6 f7 f8 f9 : Field} {v : Value} {d : DataW H} {p : List MemPlace} (hs : P.underlying t = some (.struct #[f0, f1, f2, f3, f4, f5, f6, f7, f8, f9])) (hone : oneCellFields P #[f0, f1, f2, f3, f4, f5, f6, f7, f8, f9] = true) (hC : P.cellsOf t = 10)
    (hv : Value.okWide P w r b0 t v) (h : DataW.Trod enc P w base spare held t v d p) :
    ∃ (v0 v1 v2 v3 v4 v5 v6 v7 v8 v9 : Value) (y0 y1 y2 y3 y4 y5 y6 y7 y8 y9 : DataW H × List MemPlace) (n : Nat), v = .agg #[v0, v1, v2, v3, v4, v5, v6, v7, v8, v9] ∧ DataW.trod enc P w base spare held n f0.type [v0] = some y0 ∧ DataW.trod enc P w base spare held n f1.type [v1] = some y1 ∧ DataW.trod enc P w base spare held n f2.type [v2] = some y2 ∧ DataW.trod enc P w base spare held n f3.type [v3] = some y3 ∧ DataW.trod enc P w base spare held n f4.type [v4] = some y4 ∧ DataW.trod enc P w base spare held n f5.type [v5] = some y5 ∧ DataW.trod enc P w base spare held n f6.type [v6] = some y6 ∧ DataW.trod enc P w base spare held n f7.type [v7] = some y7 ∧ DataW.trod enc P w base spare held n f8.type [v8] = some y8 ∧ DataW.trod enc P w base spare held n f9.type [v9] = some y9 := by
  obtain ⟨cs, rfl, hsz⟩ := okWide_struct hs hv
  obtain ⟨l⟩ := cs
  match l, hsz.trans hC with
  | [c0, c1, c2, c3, c4, c5, c6, c7, c8, c9], _ =>
    obtain ⟨fuel, hf⟩ := h
    obtain ⟨xs, n, _, hx, _, hlen, hg⟩ := DataW.trod_struct hs hf
    obtain ⟨o0, k0⟩ := hone_of hone 0 f0 rfl
    obtain ⟨o1, k1⟩ := hone_of hone 1 f1 rfl
    obtain ⟨o2, k2⟩ := hone_of hone 2 f2 rfl
    obtain ⟨o3, k3⟩ := hone_of hone 3 f3 rfl
    obtain ⟨o4, k4⟩ := hone_of hone 4 f4 rfl
    obtain ⟨o5, k5⟩ := hone_of hone 5 f5 rfl
    obtain ⟨o6, k6⟩ := hone_of hone 6 f6 rfl
    obtain ⟨o7, k7⟩ := hone_of hone 7 f7 rfl
    obtain ⟨o8, k8⟩ := hone_of hone 8 f8 rfl
    obtain ⟨o9, k9⟩ := hone_of hone 9 f9 rfl
    match xs, hlen with
    | [y0, y1, y2, y3, y4, y5, y6, y7, y8, y9], _ =>
      exact ⟨c0, c1, c2, c3, c4, c5, c6, c7, c8, c9, y0, y1, y2, y3, y4, y5, y6, y7, y8, y9, n, rfl, by simpa [Value.cells, o0, k0] using hg 0 f0 rfl, by simpa [Value.cells, o1, k1] using hg 1 f1 rfl, by simpa [Value.cells, o2, k2] using hg 2 f2 rfl, by simpa [Value.cells, o3, k3] using hg 3 f3 rfl, by simpa [Value.cells, o4, k4] using hg 4 f4 rfl, by simpa [Value.cells, o5, k5] using hg 5 f5 rfl, by simpa [Value.cells, o6, k6] using hg 6 f6 rfl, by simpa [Value.cells, o7, k7] using hg 7 f7 rfl, by simpa [Value.cells, o8, k8] using hg 8 f8 rfl, by simpa [Value.cells, o9, k9] using hg 9 f9 rfl⟩
end
def IsMail (f t k g s b p : Int) (u : ByteArray) (i tm : Int) : Prop := u.size ≤ maxLen ∧ IsMailM ⟨f, t, k, g, s, b, p, u.data.toList, i, tm⟩
theorem cellsMail : Try.prog.cellsOf 25 = 10 := by kernel_rfl
open Go.ChangeShapes Go.WideShapes Go.Joins in
theorem open_mail {H : Type} {enc : TypeId × Value → H} {w : World} {base : Nat} {spare : Nat → Bool} {held : Bool} {r : Reach} {b0 : Nat} {v : Value} {d : DataW H} {ps : List MemPlace}
    (hv : Value.okWide Try.prog w r b0 25 v) (h : DataW.Trod enc Try.prog w base spare held 25 v d ps) : ∃ (f t k g s b p : Int) (u : ByteArray) (i tm : Int), v = .agg #[.int .i64 f, .int .i64 t, .int .u8 k, .int .i64 g, .int .i64 s, .int .i64 b, .int .i64 p, .string u, .int .i64 i, .int .i64 tm] ∧ IsMail f t k g s b p u i tm := by
  obtain ⟨c0, c1, c2, c3, c4, c5, c6, c7, c8, c9, y0, y1, y2, y3, y4, y5, y6, y7, y8, y9, n, rfl, h0, h1, h2, h3, h4, h5, h6, h7, h8, h9⟩ := open_agg10 Try.underlying25 (by kernel_rfl) cellsMail hv h
  obtain ⟨f, e0, _, w0⟩ := DataW.trod_int Try.underlying3 h0
  obtain ⟨t, e1, _, w1⟩ := DataW.trod_int Try.underlying3 h1
  obtain ⟨k, e2, _, w2⟩ := DataW.trod_int Try.underlying5 h2
  obtain ⟨g, e3, _, w3⟩ := DataW.trod_int Try.underlying3 h3
  obtain ⟨s, e4, _, w4⟩ := DataW.trod_int Try.underlying3 h4
  obtain ⟨b, e5, _, w5⟩ := DataW.trod_int Try.underlying3 h5
  obtain ⟨p, e6, _, w6⟩ := DataW.trod_int Try.underlying3 h6
  obtain ⟨u, e7, _, w7⟩ := DataW.trod_string Try.underlying9 h7
  obtain ⟨i, e8, _, w8⟩ := DataW.trod_int Try.underlying3 h8
  obtain ⟨tm, e9, _, w9⟩ := DataW.trod_int Try.underlying3 h9
  simp at e0 e1 e2 e3 e4 e5 e6 e7 e8 e9
  subst e0 e1 e2 e3 e4 e5 e6 e7 e8 e9
  have w7b := w7
  unfold maxLen at w7b
  exact ⟨f, t, k, g, s, b, p, u, i, tm, rfl, w7, bounds_u8 w2, by show u.data.toList.length ≤ _; rw [size_data]; omega, bounds_i64 w0, bounds_i64 w1, bounds_i64 w3, bounds_i64 w4, bounds_i64 w5, bounds_i64 w6, bounds_i64 w8, bounds_i64 w9⟩
end Go.Proofs.Ytmchnjnknnolmaa
