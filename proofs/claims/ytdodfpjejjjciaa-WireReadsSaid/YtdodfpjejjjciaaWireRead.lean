/-
  wire.Read: its closure by a contract of its own: what is left of the bytes lies in a box, and whether all was well in another one.
-/
import Derived.Test.YtdodfpjejjjciaaWireWrite
import Derived.Test.YtdodfpjejjjciaaRecordRead
namespace Go.Proofs.Ytdodfpjejjjciaa
open Go.RowKit Bal
set_option maxHeartbeats 4000000
set_option maxRecDepth 100000
set_option linter.unusedVariables false
set_option linter.unusedSimpArgs false

/-- Two blocks alone have turned; nothing is new. -/
def Only2 (a b : Nat) (w w' : World) : Prop := w'.os = w.os ∧ w'.tape = w.tape ∧ w'.output = w.output ∧ w'.heap.size = w.heap.size ∧ ∀ g, g ≠ a → g ≠ b → w'.heap[g]? = w.heap[g]?
theorem Only2.below {a b B : Nat} {w w' : World} (h : Only2 a b w w') (ha : B ≤ a) (hb : B ≤ b) : Below B w w' :=
  ⟨h.1, h.2.1, h.2.2.1, Nat.le_of_eq h.2.2.2.1.symm, fun k hk => h.2.2.2.2 k (by omega) (by omega)⟩
theorem Only2.blk {a b g : Nat} {t : TypeId} {cs : Array Value} {w w' : World} (h : Only2 a b w w') (hb : Blk w g t cs) (h1 : g ≠ a) (h2 : g ≠ b) : Blk w' g t cs := (h.2.2.2.2 g h1 h2).trans hb
theorem Only2.cv {a b g cap : Nat} {s : ByteArray} {w w' : World} (h : Only2 a b w w') (hb : CvB w g s cap) (h1 : g ≠ a) (h2 : g ≠ b) : CvB w' g s cap := (h.2.2.2.2 g h1 h2).trans hb
theorem Only2.refl (a b : Nat) (w : World) : Only2 a b w w := ⟨rfl, rfl, rfl, rfl, fun _ _ _ => rfl⟩
theorem Only2.set1 {a b : Nat} {w w' : World} (h : Only2 a b w w') (u : Value) : Only2 a b w (w'.setCell ⟨a, 0, none⟩ u) :=
  ⟨h.1, h.2.1, h.2.2.1, (by rw [← h.2.2.2.1]; simp [World.setCell]), fun g h1 h2 => (Below.heap_setCell w' ⟨a, 0, none⟩ u g h1).trans (h.2.2.2.2 g h1 h2)⟩
theorem Only2.set2 {a b : Nat} {w w' : World} (h : Only2 a b w w') (u : Value) : Only2 a b w (w'.setCell ⟨b, 0, none⟩ u) :=
  ⟨h.1, h.2.1, h.2.2.1, (by rw [← h.2.2.2.1]; simp [World.setCell]), fun g h1 h2 => (Below.heap_setCell w' ⟨b, 0, none⟩ u g h2).trans (h.2.2.2.2 g h1 h2)⟩
theorem Only2.drew {a b : Nat} {w w' : World} (h : Only2 a b w w') : Only2 a b w w'.drew := h

/-- What the two boxes hold behind a reading, in whichever order they were written. -/
theorem two_set (gb gk : Nat) (w : World) (x x' y y' : Value) (h1 : Blk w gb 24 #[x]) (h2 : Blk w gk 4 #[y]) :
    (Blk ((w.setCell ⟨gb, 0, none⟩ x').setCell ⟨gk, 0, none⟩ y') gb 24 #[x'] ∧ Blk ((w.setCell ⟨gb, 0, none⟩ x').setCell ⟨gk, 0, none⟩ y') gk 4 #[y'] ∧ Only2 gb gk w ((w.setCell ⟨gb, 0, none⟩ x').setCell ⟨gk, 0, none⟩ y')) ∧
    (Blk ((w.setCell ⟨gk, 0, none⟩ y').setCell ⟨gb, 0, none⟩ x') gb 24 #[x'] ∧ Blk ((w.setCell ⟨gk, 0, none⟩ y').setCell ⟨gb, 0, none⟩ x') gk 4 #[y'] ∧ Only2 gb gk w ((w.setCell ⟨gk, 0, none⟩ y').setCell ⟨gb, 0, none⟩ x')) := by
  have n12 := h1.ne_ h2 (by decide)
  have a1 : Blk (w.setCell ⟨gb, 0, none⟩ x') gb 24 #[x'] := by simpa using h1.set_ 0 x'
  have a2 : Blk (w.setCell ⟨gb, 0, none⟩ x') gk 4 #[y] := h2.far (Ne.symm n12) x'
  have b1 : Blk (w.setCell ⟨gk, 0, none⟩ y') gb 24 #[x] := h1.far n12 y'
  have b2 : Blk (w.setCell ⟨gk, 0, none⟩ y') gk 4 #[y'] := by simpa using h2.set_ 0 y'
  refine ⟨⟨a1.far n12 y', by simpa using a2.set_ 0 y', ((Only2.refl _ _ _).set1 _).set2 _⟩, ⟨by simpa using b1.set_ 0 x', b2.far (Ne.symm n12) x', ((Only2.refl _ _ _).set2 _).set1 _⟩⟩

theorem wget_any (gb gk : Nat) (A : Option Addr) (n c D : Nat) (l l' : List UInt8) (m : Nat) (b b' : Bool) (w : World) (h1 : Blk w gb 24 #[.slice A n c]) (h2 : Blk w gk 4 #[.bool !b]) (hr : Reads w D 1 A n (cb l)) (hc : n ≤ c) (hn : n ≤ 1000000)
    (h : Rp.next (l, b) = (m, (l', b'))) :
    Calls Try.prog 47 #[.pointer (some ⟨gb, 0, none⟩), .pointer (some ⟨gk, 0, none⟩)] w fun e w' => e = .returned (.int .i64 (m : Int)) ∧ Blk w' gb 24 #[.slice (cutA A c (nk l)) (n - nk l) (c - nk l)] ∧ Blk w' gk 4 #[.bool !b'] ∧ Only2 gb gk w w' := by
  have c1 := h1.cell 0
  have f1 := h1.frozen 0
  have c2 := h2.cell 0
  have f2 := h2.frozen 0
  have n12 := h1.ne_ h2 (by decide)
  have n21 := Ne.symm n12
  have hl := hr.len_b
  have hkl : nk l ≤ n := by have := nk_le l; omega
  have hs := fun w => run_slice_from (P := Try.prog) Try.underlying24 A n c (nk l) hkl w u8_size
  have H1 := Lib.hid h1
  have H2 := Lib.hid h2
  cases hg : Nm.get l with
  | none =>
    have e1 : nk l = 0 := by unfold nk; rw [hg]
    have e2 : m = 0 ∧ b' = true := by
      unfold Rp.next at h
      simp only [hg] at h
      injection h with h h'
      injection h' with h' h''
      exact ⟨h.symm, h''.symm⟩
    obtain ⟨rfl, rfl⟩ := e2
    have HG := Lib.hid (get_no A n c D l w hr (by omega) hg)
    have HE := Lib.hid e1
    rw [e1, cutA_zero, Nat.sub_zero, Nat.sub_zero, Int.natCast_zero] at hs
    rw [e1, cutA_zero, Nat.sub_zero, Nat.sub_zero]
    clear h hg e1 hr h1 h2 hl hkl
    have hpos := (0 : Nat)
    cases b with
    | true =>
      simp only [Bool.not_true] at c2 H2 ⊢
      go_enter Try.func47, Try.ntmps47
      go_wp2_with (first | (with_reducible refine HG.out.mono ?_; rintro e w' ⟨rfl, rfl⟩))
      go_region
      all_goals (go_wp2; go_ret; refine ⟨rfl, ?_⟩; first | exact (two_set gb gk w _ _ _ _ H1.out H2.out).1 | exact (two_set gb gk w _ _ _ _ H1.out H2.out).2)
    | false =>
      simp only [Bool.not_true, Bool.not_false] at c2 H2 ⊢
      go_enter Try.func47, Try.ntmps47
      go_wp2_with (first | (with_reducible refine HG.out.mono ?_; rintro e w' ⟨rfl, rfl⟩))
      go_region
      all_goals (go_wp2; go_ret; refine ⟨rfl, ?_⟩; first | exact (two_set gb gk w _ _ _ _ H1.out H2.out).1 | exact (two_set gb gk w _ _ _ _ H1.out H2.out).2)
  | some p =>
    obtain ⟨m2, k⟩ := p
    have e1 : nk l = k := by unfold nk; rw [hg]
    have e2 : m = m2 ∧ b' = b := by
      unfold Rp.next at h
      simp only [hg] at h
      injection h with h h'
      injection h' with h' h''
      exact ⟨h.symm, h''.symm⟩
    obtain ⟨rfl, rfl⟩ := e2
    have HG := Lib.hid (get_is A n c D l m k w hr (by omega) hg)
    rw [e1] at hs hkl
    rw [e1]
    have hi0 : (0 : Int) ≤ (k : Int) := by omega
    have hi1 : (k : Int) ≤ (n : Int) := by omega
    have hi2 : (n : Int) ≤ (c : Int) := by omega
    clear h hg e1 hr h1 h2 hl
    cases b' with
    | true =>
      simp only [Bool.not_true] at c2 H2 ⊢
      go_enter Try.func47, Try.ntmps47
      go_wp2_with (first | (with_reducible refine HG.out.mono ?_; rintro e w' ⟨rfl, rfl⟩))
      go_region
      all_goals (go_wp2; go_ret; refine ⟨rfl, ?_⟩; first | exact (two_set gb gk w _ _ _ _ H1.out H2.out).1 | exact (two_set gb gk w _ _ _ _ H1.out H2.out).2)
    | false =>
      simp only [Bool.not_false] at c2 H2 ⊢
      go_enter Try.func47, Try.ntmps47
      go_wp2_with (first | (with_reducible refine HG.out.mono ?_; rintro e w' ⟨rfl, rfl⟩))
      go_region
      all_goals (go_wp2; go_ret; refine ⟨rfl, ?_⟩; first | exact (two_set gb gk w _ _ _ _ H1.out H2.out).1 | exact (two_set gb gk w _ _ _ _ H1.out H2.out).2)
end Go.Proofs.Ytdodfpjejjjciaa
