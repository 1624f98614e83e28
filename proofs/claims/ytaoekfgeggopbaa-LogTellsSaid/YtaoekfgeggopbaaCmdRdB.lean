/-
  command's reader: texts and lists; a command's box that is filled.
-/
import Derived.Test.YtaoekfgeggopbaaCmdRd
import Derived.Test.YtaoekfgeggopbaaCmdMem
namespace Go.Proofs.Ytaoekfgeggopbaa
open Go.RowKit
set_option maxHeartbeats 8000000
set_option maxRecDepth 100000
set_option linter.unusedVariables false
set_option linter.unusedSimpArgs false

theorem own_keepC {w w' : World} {base n size : Nat} {e : TypeId} {v : Value} {xs : List Value} (h : w.ownsRow base e size v n xs) (hk : ∀ g, v.ownBlock = some g → w'.heap[g]? = w.heap[g]?) : w'.ownsRow base e size v n xs := by
  refine ⟨h.1, ?_⟩
  rcases h.2 with h2 | ⟨g, cap, cur, h2, h3, h4, h5⟩
  · exact Or.inl h2
  · exact Or.inr ⟨g, cap, cur, h2, h3, (hk g (by rw [h2]; rfl)).trans h4, h5⟩
theorem own_setC {w : World} {base n size g : Nat} {e t : TypeId} {v : Value} {xs : List Value} {cs : Array Value} (h : w.ownsRow base e size v n xs) (hb : Blk w g t cs) (hne : e ≠ t) (i : Nat) (u : Value) : (w.setCell ⟨g, i, none⟩ u).ownsRow base e size v n xs := by
  refine own_keepC h fun g' hgb => Below.heap_setCell w ⟨g, i, none⟩ u g' ?_
  show g' ≠ g
  rintro rfl
  exact own_blk_ne h hb hne hgb
theorem own_grownC {a b : World} {base n size g : Nat} {e t : TypeId} {v : Value} {xs : List Value} {cs : Array Value} (h : a.ownsRow base e size v n xs) (k : a.grownBy b (some g)) (hb : Blk a g t cs) (hne : e ≠ t) : b.ownsRow base e size v n xs := by
  refine own_keepC h fun g' hg => k.block g' (h.lt g' hg).2 ?_
  intro e
  injection e with e
  subst e
  exact own_blk_ne h hb hne hg

theorem RSt.blk {B gr : Nat} {l : List UInt8} {bad : Bool} {w : World} (h : RSt B gr l bad w) : ∃ cs, Blk w gr 88 cs := by
  obtain ⟨A, n, c, h1, _⟩ := h
  exact ⟨_, h1⟩

theorem ctextR_any (B gr : Nat) (l : List UInt8) (bad : Bool) (w : World) (h : RSt B gr l bad w) (t : List UInt8) (l' : List UInt8) (bad' : Bool) (hx : Wp.textK (l, bad) = (t, (l', bad'))) :
    Calls Try.prog 83 #[.pointer (some ⟨gr, 0, none⟩)] w fun e w' => e = .returned (.string (S t)) ∧ RSt B gr l' bad' w' ∧ w.grownBy w' (some gr) := by
  have H := Lib.hid h
  obtain ⟨A, n, c, h1, h2, h3, h4, h5, h6⟩ := h
  have c0 := h1.cell 0
  have HG := Lib.hid (getText_any A n c B l w h2 h3 (by omega))
  clear h1 h2 h3 h4 h6
  unfold Wp.textK at hx
  cases hg : Nm.getText l with
  | none =>
    rw [hg] at hx HG
    simp only [Prod.mk.injEq] at hx
    obtain ⟨rfl, rfl, rfl⟩ := hx
    have HT := Lib.hid (ctake_any B gr l bad 0 8 w H.out (Nat.zero_le _) true (by simp))
    clear hg
    go_enter Try.func83, Try.ntmps83
    go_wp2_with fail
    refine HG.out.mono ?_
    rintro e w' ⟨rfl, rfl⟩
    simp only [getTextV]
    go_wp2_with fail
    refine HT.out.mono ?_
    rintro e w2 ⟨rfl, hs, hgr⟩
    have HS2 := Lib.hid hs
    have HGR := Lib.hid hgr
    clear hs hgr c0
    go_wp2
    go_ret
    exact ⟨rfl, HS2.out, HGR.out⟩
  | some p =>
    obtain ⟨v, k⟩ := p
    rw [hg] at hx HG
    simp only [Prod.mk.injEq] at hx
    obtain ⟨rfl, rfl, rfl⟩ := hx
    have hkl := (Nm.getText_back hg).2.2.1
    have HT := Lib.hid (ctake_any B gr l bad k 0 w H.out hkl bad (by simp))
    obtain ⟨U, hU⟩ : ∃ U, S v = U := ⟨_, rfl⟩
    rw [show getTextV (some (v, k)) = .tuple #[.string (S v), .int .i64 (k : Int), .int .i64 0] from rfl, hU] at HG
    rw [hU]
    clear hg hU
    go_enter Try.func83, Try.ntmps83
    go_wp2_with fail
    refine HG.out.mono ?_
    rintro e w' ⟨rfl, rfl⟩
    go_wp2_with fail
    refine HT.out.mono ?_
    rintro e w2 ⟨rfl, hs, hgr⟩
    have HS2 := Lib.hid hs
    have HGR := Lib.hid hgr
    clear hs hgr c0
    go_wp2
    go_ret
    exact ⟨rfl, HS2.out, HGR.out⟩

theorem cintsR_any (B gr most : Nat) (l : List UInt8) (bad : Bool) (w : World) (h : RSt B gr l bad w) (hm : most ≤ 4096) (r : List Int) (l' : List UInt8) (bad' : Bool) (hx : Cp.intsK most (l, bad) = (r, (l', bad'))) :
    Calls Try.prog 82 #[.pointer (some ⟨gr, 0, none⟩), .int .i64 (most : Int)] w fun e w' => (∃ A c, e = .returned (.slice A r.length c) ∧ w'.ownsRow w.heap.size 3 1 (.slice A r.length c) r.length (ci r)) ∧ RSt B gr l' bad' w' ∧ w.grownBy w' (some gr) := by
  have H := Lib.hid h
  obtain ⟨A, n, c, h1, h2, h3, h4, h5, h6⟩ := h
  have c0 := h1.cell 0
  have HG := Lib.hid (ngetInts_any A n c l most w (h2.more (by have := h1.lt; omega)) h3 (by omega) hm)
  clear h1 h2 h3 h4 h6
  unfold Cp.intsK at hx
  cases hg : Nm.getInts l most with
  | none =>
    rw [hg] at hx HG
    simp only [Prod.mk.injEq] at hx
    obtain ⟨rfl, rfl, rfl⟩ := hx
    clear hg
    go_enter Try.func82, Try.ntmps82
    go_wp2_with fail
    refine HG.out.mono ?_
    rintro e w1 ⟨rfl, hb⟩
    have HB := Lib.hid hb
    have HT := Lib.hid (ctake_any B gr l bad 0 8 w1 (H.out.below hb) (Nat.zero_le _) true (by simp))
    clear hb
    go_wp2_with fail
    refine HT.out.mono ?_
    rintro e w2 ⟨rfl, hs, hgr⟩
    have HS2 := Lib.hid hs
    have HGR := Lib.hid hgr
    clear hs hgr c0
    go_wp2
    go_ret
    exact ⟨⟨none, 0, rfl, World.ownsRow_nil _ _ _ _⟩, HS2.out, grown_below HB.out HGR.out⟩
  | some p =>
    obtain ⟨v, k⟩ := p
    rw [hg] at hx HG
    simp only [Prod.mk.injEq] at hx
    obtain ⟨rfl, rfl, rfl⟩ := hx
    have hkl := (Nm.getInts_back hg).2.2.2.1
    clear hg
    go_enter Try.func82, Try.ntmps82
    go_wp2_with fail
    refine HG.out.mono ?_
    rintro e w1 ⟨A1, c1, rfl, ho, hb⟩
    have HB := Lib.hid hb
    have HO := Lib.hid ho
    have H1 := Lib.hid (H.out.below hb)
    have HT := Lib.hid (ctake_any B gr l bad k 0 w1 H1.out hkl bad (by simp))
    clear hb ho
    go_wp2_with fail
    refine HT.out.mono ?_
    rintro e w2 ⟨rfl, hs, hgr⟩
    have HS2 := Lib.hid hs
    have HGR := Lib.hid hgr
    clear hs hgr c0
    go_wp2
    go_ret
    obtain ⟨cs, hbk⟩ := H1.out.blk
    exact ⟨⟨A1, c1, rfl, own_grownC HO.out HGR.out hbk (by decide)⟩, HS2.out, grown_below HB.out HGR.out⟩

/-- A command whose lists are the call's own. -/
structure OwnC (w : World) (base : Nat) (D : HC) : Prop where
  og : w.ownsRow base 3 1 (.slice D.GA D.Gn D.Gc) D.Gn (ci D.gs)
  om : w.ownsRow base 3 1 (.slice D.MA D.Mn D.Mc) D.Mn (ci D.mem)
  kk : 0 ≤ D.k ∧ D.k ≤ 255
  bk : D.key.size ≤ 4096
  bb : D.body.size ≤ 4096
  ig : ∀ x ∈ D.gs, Nm.inR x = true
  im : ∀ x ∈ D.mem, Nm.inR x = true
  a1 : Nm.inR D.mi = true
  a2 : Nm.inR D.mt = true
  a3 : Nm.inR D.i = true
  a4 : Nm.inR D.tm = true
  a5 : Nm.inR D.tp = true
  a6 : Nm.inR D.who = true
  a7 : Nm.inR D.n = true
theorem i64_of {x : Int} (h : Nm.inR x = true) : i64 x := by have := Nm.inR_yes h; exact ⟨by omega, by omega⟩
section
variable {w w' : World} {base : Nat} {D : HC}
theorem OwnC.at_ (h : OwnC w base D) : CmdAt w w.heap.size D := by
  have c1 := own_cap h.og
  have c2 := own_cap h.om
  unfold maxLen at c1 c2
  exact ⟨Reads.of_own h.og, Reads.of_own h.om, c1.1, c1.2, c2.1, c2.2, h.kk, by have := h.bk; omega, by have := h.bb; omega, fun x hx => i64_of (h.ig x hx), fun x hx => i64_of (h.im x hx), i64_of h.a1, i64_of h.a2, i64_of h.a3, i64_of h.a4, i64_of h.a5, i64_of h.a6, i64_of h.a7⟩
theorem OwnC.below (h : OwnC w base D) (hb : Below w.heap.size w w') : OwnC w' base D := { h with og := own_kept h.og hb, om := own_kept h.om hb }
theorem OwnC.grown {g : Nat} {cs : Array Value} {t : TypeId} (h : OwnC w base D) (k : w.grownBy w' (some g)) (hb : Blk w g t cs) (hne : 3 ≠ t) : OwnC w' base D := { h with og := own_grownC h.og k hb hne, om := own_grownC h.om k hb hne }
theorem OwnC.set_ {g : Nat} {cs : Array Value} {t : TypeId} (h : OwnC w base D) (hb : Blk w g t cs) (hne : 3 ≠ t) (i : Nat) (u : Value) : OwnC (w.setCell ⟨g, i, none⟩ u) base D := { h with og := own_setC h.og hb hne i u, om := own_setC h.om hb hne i u }
theorem OwnC.mono {b2 : Nat} (h : OwnC w base D) (hb : b2 ≤ base) : OwnC w b2 D := { h with og := own_mono h.og hb, om := own_mono h.om hb }
end
theorem inR_zero : Nm.inR 0 = true := by decide
theorem zeroHC_own (w : World) (base : Nat) {k : Int} (h : 0 ≤ k ∧ k ≤ 255) : OwnC w base (zeroHC k) :=
  ⟨World.ownsRow_nil _ _ _ _, World.ownsRow_nil _ _ _ _, h, Nat.zero_le _, Nat.zero_le _, fun x hx => (by simp [zeroHC] at hx), fun x hx => (by simp [zeroHC] at hx), inR_zero, inR_zero, inR_zero, inR_zero, inR_zero, inR_zero, inR_zero⟩

/-- The reader and the command's box. -/
def RC (base B gr gc : Nat) (l : List UInt8) (bad : Bool) (D : HC) (w0 w : World) : Prop := RSt B gr l bad w ∧ Blk w gc 26 #[.int .u8 D.k, .int .i64 D.mi, .slice D.GA D.Gn D.Gc, .int .i64 D.mt, .string D.key, .string D.body, .int .i64 D.i, .int .i64 D.tm, .slice D.MA D.Mn D.Mc, .int .i64 D.tp, .int .i64 D.who, .int .i64 D.n] ∧ OwnC w base D ∧ w0.grownBy w (some gr) ∧ w0.heap.size < gc ∧ base ≤ w.heap.size ∧ gr < w0.heap.size ∧ Blk w w0.heap.size 26 #[.int .u8 (zeroHC 0).k, .int .i64 (zeroHC 0).mi, .slice (zeroHC 0).GA (zeroHC 0).Gn (zeroHC 0).Gc, .int .i64 (zeroHC 0).mt, .string (zeroHC 0).key, .string (zeroHC 0).body, .int .i64 (zeroHC 0).i, .int .i64 (zeroHC 0).tm, .slice (zeroHC 0).MA (zeroHC 0).Mn (zeroHC 0).Mc, .int .i64 (zeroHC 0).tp, .int .i64 (zeroHC 0).who, .int .i64 (zeroHC 0).n]
section
variable {base B gr gc : Nat} {l l' : List UInt8} {bad bad' : Bool} {D : HC} {w0 w w1 : World}
theorem RC.step (h : RC base B gr gc l bad D w0 w) (hs : RSt B gr l' bad' w1) (hg : w.grownBy w1 (some gr)) : RC base B gr gc l' bad' D w0 w1 := by
  obtain ⟨h1, h2, h3, h4, h5, h6, h7, h8⟩ := h
  obtain ⟨cs, hb⟩ := h1.blk
  exact ⟨hs, h2.grown hg (by intro e; injection e with e; omega), h3.grown hg hb (by decide), ⟨hg.os.trans h4.os, hg.tape.trans h4.tape, hg.output.trans h4.output, Nat.le_trans h4.size hg.size, fun i hi hne => (hg.block i (Nat.lt_of_lt_of_le hi h4.size) hne).trans (h4.block i hi hne)⟩, h5, Nat.le_trans h6 hg.size, h7, h8.grown hg (by intro e; injection e with e; omega)⟩
theorem RC.num {m : Nat} (h : RC base B gr gc l bad D w0 w) (hx : Rp.next (l, bad) = (m, (l', bad'))) :
    Calls Try.prog 81 #[.pointer (some ⟨gr, 0, none⟩)] w fun e w' => e = .returned (.int .i64 (m : Int)) ∧ RC base B gr gc l' bad' D w0 w' := by
  refine (cnum_any B gr l bad w h.1 m l' bad' hx).mono ?_
  rintro e w' ⟨rfl, hs, hg⟩
  exact ⟨rfl, h.step hs hg⟩
theorem RC.text {t : List UInt8} (h : RC base B gr gc l bad D w0 w) (hx : Wp.textK (l, bad) = (t, (l', bad'))) :
    Calls Try.prog 83 #[.pointer (some ⟨gr, 0, none⟩)] w fun e w' => e = .returned (.string (S t)) ∧ RC base B gr gc l' bad' D w0 w' := by
  refine (ctextR_any B gr l bad w h.1 t l' bad' hx).mono ?_
  rintro e w' ⟨rfl, hs, hg⟩
  exact ⟨rfl, h.step hs hg⟩
theorem RC.ints {most : Nat} {r : List Int} (h : RC base B gr gc l bad D w0 w) (hm : most ≤ 4096) (hx : Cp.intsK most (l, bad) = (r, (l', bad'))) :
    Calls Try.prog 82 #[.pointer (some ⟨gr, 0, none⟩), .int .i64 (most : Int)] w fun e w' => (∃ A c, e = .returned (.slice A r.length c) ∧ w'.ownsRow base 3 1 (.slice A r.length c) r.length (ci r)) ∧ RC base B gr gc l' bad' D w0 w' := by
  refine (cintsR_any B gr most l bad w h.1 hm r l' bad' hx).mono ?_
  rintro e w' ⟨⟨A, c, rfl, ho⟩, hs, hg⟩
  exact ⟨⟨A, c, rfl, own_mono ho h.2.2.2.2.2.1⟩, h.step hs hg⟩
/-- A field is stored. -/
theorem RC.set_ {E : HC} {i : Nat} {v : Value} (h : RC base B gr gc l bad D w0 w) (he : (#[.int .u8 D.k, .int .i64 D.mi, .slice D.GA D.Gn D.Gc, .int .i64 D.mt, .string D.key, .string D.body, .int .i64 D.i, .int .i64 D.tm, .slice D.MA D.Mn D.Mc, .int .i64 D.tp, .int .i64 D.who, .int .i64 D.n]).setIfInBounds i v = #[.int .u8 E.k, .int .i64 E.mi, .slice E.GA E.Gn E.Gc, .int .i64 E.mt, .string E.key, .string E.body, .int .i64 E.i, .int .i64 E.tm, .slice E.MA E.Mn E.Mc, .int .i64 E.tp, .int .i64 E.who, .int .i64 E.n]) (ho : OwnC w base D → OwnC w base E) : RC base B gr gc l bad E w0 (w.setCell ⟨gc, i, none⟩ v) := by
  obtain ⟨h1, h2, h3, h4, h5, h6, h7, h8⟩ := h
  refine ⟨h1.far (by show gr < gc; omega) v, ?_, (ho h3).set_ h2 (by decide) i v, ?_, h5, by simpa [World.setCell] using h6, h7, h8.far (by show w0.heap.size ≠ gc; omega) v⟩
  · rw [← he]; exact h2.set_ i v
  · exact only_setCell h4 (Or.inr (Nat.le_of_lt h5)) v
end
end Go.Proofs.Ytaoekfgeggopbaa
