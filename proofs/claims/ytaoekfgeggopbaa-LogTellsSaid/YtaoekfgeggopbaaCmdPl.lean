/-
  command.plain: what a kind has alone of a command, and whether that may be.
-/
import Derived.Test.YtaoekfgeggopbaaCmdMsg
import Derived.Test.YtaoekfgeggopbaaQuorum
import Derived.Test.YtaoekfgeggopbaaHeld2
import Derived.Deep.RegionHeld3
namespace Go.Proofs.Ytaoekfgeggopbaa
open Go.RowKit Go.Sort Go.BigFrame
set_option maxHeartbeats 8000000
set_option maxRecDepth 100000
set_option linter.unusedVariables false
set_option linter.unusedSimpArgs false

def ZC : Array Value := #[.int .u8 0, .int .i64 0, .slice none 0 0, .int .i64 0, .string ⟨#[]⟩, .string ⟨#[]⟩, .int .i64 0, .int .i64 0, .slice none 0 0, .int .i64 0, .int .i64 0, .int .i64 0]
def KC (k : Int) : Array Value := #[.int .u8 k, .int .i64 0, .slice none 0 0, .int .i64 0, .string ⟨#[]⟩, .string ⟨#[]⟩, .int .i64 0, .int .i64 0, .slice none 0 0, .int .i64 0, .int .i64 0, .int .i64 0]

namespace Cp
theorem plain_else {c : Cmd} (h : c.k < 1 ∨ 6 < c.k) : plainC c = zeroC c.k := by
  unfold plainC fieldsC
  rw [if_neg (by omega), if_neg (by omega), if_neg (by omega), if_neg (by omega), if_neg (by omega), if_neg (by omega)]
  rfl
theorem plain_1 {c : Cmd} (h : c.k = 1) : plainC c = ⟨c.k, c.mi, c.gs, c.mt, c.key, c.body, 0, 0, [], 0, 0, 0⟩ := by
  unfold plainC
  rw [h, fields1]
  rfl
theorem plain_2 {c : Cmd} (h : c.k = 2) : plainC c = ⟨c.k, 0, [], 0, [], [], c.i, c.tm, [], 0, 0, 0⟩ := by
  unfold plainC
  rw [h, fields2]
  rfl
theorem plain_3 {c : Cmd} (h : c.k = 3) : plainC c = ⟨c.k, 0, [], 0, [], [], 0, 0, c.mem, 0, 0, 0⟩ := by
  unfold plainC
  rw [h, fields3]
  rfl
theorem plain_4 {c : Cmd} (h : c.k = 4) : plainC c = ⟨c.k, 0, [], 0, [], [], c.i, 0, [], c.tp, c.who, c.n⟩ := by
  unfold plainC
  rw [h, fields4]
  rfl
theorem plain_5 {c : Cmd} (h : c.k = 5) : plainC c = ⟨c.k, 0, [], 0, [], [], c.i, 0, [], c.tp, 0, c.n⟩ := by
  unfold plainC
  rw [h, fields5]
  rfl
theorem plain_6 {c : Cmd} (h : c.k = 6) : plainC c = ⟨c.k, 0, [], 0, [], [], c.i, 0, [], c.tp, 0, c.n⟩ := by
  unfold plainC
  rw [h, fields6]
  rfl
theorem okK_0 {c : Cmd} (h : c.k = 0) : okK c = true := by unfold okK; rw [if_pos h]
theorem okK_1 {c : Cmd} (h : c.k = 1) : okK c = msgB c := by unfold okK; rw [if_neg (by omega), if_pos h]
theorem okK_2 {c : Cmd} (h : c.k = 2) : okK c = (Wp.idB c.i && inB 1 1073741824 c.tm) := by unfold okK; rw [if_neg (by omega), if_neg (by omega), if_pos h]
theorem okK_3 {c : Cmd} (h : c.k = 3) : okK c = (Qm.check c.mem == 0) := by unfold okK; rw [if_neg (by omega), if_neg (by omega), if_neg (by omega), if_pos h]
theorem okK_4 {c : Cmd} (h : c.k = 4) : okK c = ((Wp.idB c.i && (inB 0 3 c.tp && inB 0 1073741824 c.n)) && inB 0 7 c.who) := by unfold okK; rw [if_neg (by omega), if_neg (by omega), if_neg (by omega), if_neg (by omega), if_pos h]
theorem okK_5 {c : Cmd} (h : c.k = 5 ∨ c.k = 6) : okK c = (Wp.idB c.i && (inB 0 3 c.tp && inB 0 1073741824 c.n)) := by unfold okK; rw [if_neg (by omega), if_neg (by omega), if_neg (by omega), if_neg (by omega), if_neg (by omega), if_pos h]
theorem okK_else {c : Cmd} (h : 6 < c.k) : okK c = false := by unfold okK; rw [if_neg (by omega), if_neg (by omega), if_neg (by omega), if_neg (by omega), if_neg (by omega), if_neg (by omega)]
end Cp

theorem below_set12 {B : Nat} {a w : World} (h : Below B a w) {g : Nat} (hg : B ≤ g) (v0 v1 v2 v3 v4 v5 v6 v7 v8 v9 v10 v11 : Value) : Below B a (((((((((((((w.setCell ⟨g, 0, none⟩ v0).setCell ⟨g, 1, none⟩ v1).setCell ⟨g, 2, none⟩ v2).setCell ⟨g, 3, none⟩ v3).setCell ⟨g, 4, none⟩ v4).setCell ⟨g, 5, none⟩ v5).setCell ⟨g, 6, none⟩ v6).setCell ⟨g, 7, none⟩ v7).setCell ⟨g, 8, none⟩ v8).setCell ⟨g, 9, none⟩ v9).setCell ⟨g, 10, none⟩ v10).setCell ⟨g, 11, none⟩ v11)) :=
  (Below.setCell (Below.setCell (Below.setCell (Below.setCell (Below.setCell (Below.setCell (Below.setCell (Below.setCell (Below.setCell (Below.setCell (Below.setCell (Below.setCell h hg _) hg _) hg _) hg _) hg _) hg _) hg _) hg _) hg _) hg _) hg _) hg _)
theorem below_set5 {B : Nat} {a w : World} (h : Below B a w) {g : Nat} (hg : B ≤ g) (v1 v2 v3 v4 v5 : Value) : Below B a ((((((w.setCell ⟨g, 1, none⟩ v1).setCell ⟨g, 2, none⟩ v2).setCell ⟨g, 3, none⟩ v3).setCell ⟨g, 4, none⟩ v4).setCell ⟨g, 5, none⟩ v5)) :=
  (Below.setCell (Below.setCell (Below.setCell (Below.setCell (Below.setCell h hg _) hg _) hg _) hg _) hg _)
theorem blk_far12 {w : World} {g g1 : Nat} {t : TypeId} {cs : Array Value} (h : Blk w g1 t cs) (hne : g1 ≠ g) (v0 v1 v2 v3 v4 v5 v6 v7 v8 v9 v10 v11 : Value) : Blk ((((((((((((w.setCell ⟨g, 0, none⟩ v0).setCell ⟨g, 1, none⟩ v1).setCell ⟨g, 2, none⟩ v2).setCell ⟨g, 3, none⟩ v3).setCell ⟨g, 4, none⟩ v4).setCell ⟨g, 5, none⟩ v5).setCell ⟨g, 6, none⟩ v6).setCell ⟨g, 7, none⟩ v7).setCell ⟨g, 8, none⟩ v8).setCell ⟨g, 9, none⟩ v9).setCell ⟨g, 10, none⟩ v10).setCell ⟨g, 11, none⟩ v11) g1 t cs :=
  (Blk.far (Blk.far (Blk.far (Blk.far (Blk.far (Blk.far (Blk.far (Blk.far (Blk.far (Blk.far (Blk.far (Blk.far h (p := ⟨g, 0, none⟩) hne v0) (p := ⟨g, 1, none⟩) hne v1) (p := ⟨g, 2, none⟩) hne v2) (p := ⟨g, 3, none⟩) hne v3) (p := ⟨g, 4, none⟩) hne v4) (p := ⟨g, 5, none⟩) hne v5) (p := ⟨g, 6, none⟩) hne v6) (p := ⟨g, 7, none⟩) hne v7) (p := ⟨g, 8, none⟩) hne v8) (p := ⟨g, 9, none⟩) hne v9) (p := ⟨g, 10, none⟩) hne v10) (p := ⟨g, 11, none⟩) hne v11)
theorem blk_set5 {w : World} {g : Nat} {t : TypeId} {v0 v1 v2 v3 v4 v5 v6 v7 v8 v9 v10 v11 : Value} (h : Blk w g t #[v0, v1, v2, v3, v4, v5, v6, v7, v8, v9, v10, v11]) (u1 u2 u3 u4 u5 : Value) : Blk ((((((w.setCell ⟨g, 1, none⟩ u1).setCell ⟨g, 2, none⟩ u2).setCell ⟨g, 3, none⟩ u3).setCell ⟨g, 4, none⟩ u4).setCell ⟨g, 5, none⟩ u5)) g t #[v0, u1, u2, u3, u4, u5, v6, v7, v8, v9, v10, v11] :=
  ((((h.set_ 1 u1).set_ 2 u2).set_ 3 u3).set_ 4 u4).set_ 5 u5
theorem cplain_any (D : HC) (w : World) (hD : CmdAt w w.heap.size D) :
    Calls Try.prog 50 #[.agg #[.int .u8 D.k, .int .i64 D.mi, .slice D.GA D.Gn D.Gc, .int .i64 D.mt, .string D.key, .string D.body, .int .i64 D.i, .int .i64 D.tm, .slice D.MA D.Mn D.Mc, .int .i64 D.tp, .int .i64 D.who, .int .i64 D.n]] w fun e w' => ∃ E : HC, e = .returned (.tuple #[.agg #[.int .u8 E.k, .int .i64 E.mi, .slice E.GA E.Gn E.Gc, .int .i64 E.mt, .string E.key, .string E.body, .int .i64 E.i, .int .i64 E.tm, .slice E.MA E.Mn E.Mc, .int .i64 E.tp, .int .i64 E.who, .int .i64 E.n], .bool (Cp.okK D.cmd)]) ∧ E.cmd = Cp.plainC D.cmd ∧ CmdAt w w.heap.size E ∧ Below w.heap.size w w' := by
  obtain ⟨T, hT⟩ : ∃ T, (Wp.idB D.i && (Cp.inB 0 3 D.tp && Cp.inB 0 1073741824 D.n)) = T := ⟨_, rfl⟩
  obtain ⟨W, hW⟩ : ∃ W, ((w.alloc (.cells #[.int .u8 D.k, .int .i64 D.mi, .slice D.GA D.Gn D.Gc, .int .i64 D.mt, .string D.key, .string D.body, .int .i64 D.i, .int .i64 D.tm, .slice D.MA D.Mn D.Mc, .int .i64 D.tp, .int .i64 D.who, .int .i64 D.n] 26)).alloc (.cells #[.int .u8 0, .int .i64 0, .slice none 0 0, .int .i64 0, .string ⟨#[]⟩, .string ⟨#[]⟩, .int .i64 0, .int .i64 0, .slice none 0 0, .int .i64 0, .int .i64 0, .int .i64 0] 26)).alloc (.cells #[.int .u8 D.k, .int .i64 0, .slice none 0 0, .int .i64 0, .string ⟨#[]⟩, .string ⟨#[]⟩, .int .i64 0, .int .i64 0, .slice none 0 0, .int .i64 0, .int .i64 0, .int .i64 0] 26) = W := ⟨_, rfl⟩
  have K1 : Hid (Blk W w.heap.size 26 #[.int .u8 D.k, .int .i64 D.mi, .slice D.GA D.Gn D.Gc, .int .i64 D.mt, .string D.key, .string D.body, .int .i64 D.i, .int .i64 D.tm, .slice D.MA D.Mn D.Mc, .int .i64 D.tp, .int .i64 D.who, .int .i64 D.n]) := by rw [Hid, ← hW]; exact ((Blk.new w _ _).alloc _).alloc _
  have K2 : Hid (Blk W (w.heap.size + 1) 26 #[.int .u8 0, .int .i64 0, .slice none 0 0, .int .i64 0, .string ⟨#[]⟩, .string ⟨#[]⟩, .int .i64 0, .int .i64 0, .slice none 0 0, .int .i64 0, .int .i64 0, .int .i64 0]) := by rw [Hid, ← hW]; exact (Blk.newN (by simp) _ _).alloc _
  have K4 : Hid (Blk W (w.heap.size + 1 + 1) 26 #[.int .u8 D.k, .int .i64 0, .slice none 0 0, .int .i64 0, .string ⟨#[]⟩, .string ⟨#[]⟩, .int .i64 0, .int .i64 0, .slice none 0 0, .int .i64 0, .int .i64 0, .int .i64 0]) := by rw [Hid, ← hW]; exact Blk.newN (by simp) _ _
  have B0 : Hid (Below w.heap.size w W) := by rw [Hid, ← hW]; exact (((Below.refl _ w).alloc (Nat.le_refl _) _).alloc (by simp) _).alloc (by simp; omega) _
  have hz : W.heap.size = w.heap.size + 3 := by rw [← hW]; simp
  have HD1 := Lib.hid hD
  have HD0 := Lib.hid ((hD.below B0.out).more B0.out.size)
  have HT := Lib.hid hT
  have hk := hD.kk
  have HW := Lib.hid hW
  clear hD hT hW
  have c0 := K1.out.cell 0
  have c1 := K1.out.cell 1
  have c2 := K1.out.cell 2
  have c3 := K1.out.cell 3
  have c4 := K1.out.cell 4
  have c5 := K1.out.cell 5
  have c6 := K1.out.cell 6
  have c7 := K1.out.cell 7
  have c8 := K1.out.cell 8
  have c9 := K1.out.cell 9
  have c10 := K1.out.cell 10
  have c11 := K1.out.cell 11
  go_enter Try.func50, Try.ntmps50
  go_upto_region 2 with fail
  rw [HW.out]
  go_cut [5] (fun s5 wx => s5 = .bool T ∧ wx = W)
  case first =>
    go_wp2_with fail
    refine (cid_any D.i _ _ rfl).mono ?_
    rintro e w' ⟨rfl, rfl⟩
    cases h1 : Wp.idB D.i with
    | false =>
      have F : Hid (T = false) := by rw [Hid, ← HT.out, h1]; rfl
      clear h1
      go_wp2_with fail
      go_meet
      exact ⟨by rw [F.out], rfl⟩
    | true =>
      have HT2 := Lib.hid HT.out
      rw [h1] at HT2
      clear h1
      go_wp2_with fail
      refine (cin_any D.tp 0 3 _ _ rfl).mono ?_
      rintro e w' ⟨rfl, rfl⟩
      cases h2 : Cp.inB 0 3 D.tp with
      | false =>
        have F : Hid (T = false) := by rw [Hid, ← HT2.out, h2]; rfl
        clear h2
        go_wp2_with fail
        go_meet
        exact ⟨by rw [F.out], rfl⟩
      | true =>
        rw [h2] at HT2
        clear h2
        go_wp2_with fail
        refine (cin_any D.n 0 1073741824 _ _ rfl).mono ?_
        rintro e w' ⟨rfl, rfl⟩
        have F : Hid (T = Cp.inB 0 1073741824 D.n) := by rw [Hid, ← HT2.out]; rfl
        go_wp2_with fail
        go_meet
        exact ⟨by rw [F.out], rfl⟩
  case rest =>
    obtain ⟨rfl, rfl⟩ := hcut
    have p0 := K4.out.cell 0
    have p1 := K4.out.cell 1
    have p2 := K4.out.cell 2
    have p3 := K4.out.cell 3
    have p4 := K4.out.cell 4
    have p5 := K4.out.cell 5
    have p6 := K4.out.cell 6
    have p7 := K4.out.cell 7
    have p8 := K4.out.cell 8
    have p9 := K4.out.cell 9
    have p10 := K4.out.cell 10
    have p11 := K4.out.cell 11
    have r0 := K2.out.cell 0
    have r1 := K2.out.cell 1
    have r2 := K2.out.cell 2
    have r3 := K2.out.cell 3
    have r4 := K2.out.cell 4
    have r5 := K2.out.cell 5
    have r6 := K2.out.cell 6
    have r7 := K2.out.cell 7
    have r8 := K2.out.cell 8
    have r9 := K2.out.cell 9
    have r10 := K2.out.cell 10
    have r11 := K2.out.cell 11
    have fr := K2.out.frozen
    have fp := K4.out.frozen
    rcases (by omega : D.k = 0 ∨ D.k = 1 ∨ D.k = 2 ∨ D.k = 3 ∨ D.k = 4 ∨ D.k = 5 ∨ D.k = 6 ∨ 7 ≤ D.k) with h | h | h | h | h | h | h | h
    · have HK := Lib.hid h
      clear h
      have q0 : (D.k == 0) = true := beq_iff_eq.2 (by have := HK.out; omega)
      have q1 : (D.k == 1) = false := beq_eq_false_iff_ne.2 (by have := HK.out; omega)
      have q2 : (D.k == 2) = false := beq_eq_false_iff_ne.2 (by have := HK.out; omega)
      have q3 : (D.k == 3) = false := beq_eq_false_iff_ne.2 (by have := HK.out; omega)
      have q4 : (D.k == 4) = false := beq_eq_false_iff_ne.2 (by have := HK.out; omega)
      have q5 : (D.k == 5) = false := beq_eq_false_iff_ne.2 (by have := HK.out; omega)
      have q6 : (D.k == 6) = false := beq_eq_false_iff_ne.2 (by have := HK.out; omega)
      go_wp2_with fail
      have FK : Hid (Cp.okK D.cmd = true) := Cp.okK_0 HK.out
      rw [FK.out]
      refine bodyPost_ret (v := .tuple #[.agg #[.int .u8 D.k, .int .i64 0, .slice none 0 0, .int .i64 0, .string ⟨#[]⟩, .string ⟨#[]⟩, .int .i64 0, .int .i64 0, .slice none 0 0, .int .i64 0, .int .i64 0, .int .i64 0], .bool true]) (by simp [results, Try.results50, go_sem, r0, r1, r2, r3, r4, r5, r6, r7, r8, r9, r10, r11]) rfl ⟨zeroHC D.k, rfl, ?E1, zeroHC_at _ _ hk, below_set12 B0.out (by omega) _ _ _ _ _ _ _ _ _ _ _ _⟩
      case E1 => rw [Cp.plain_else (by have := HK.out; simp only [HC.cmd]; omega)]; rfl
    · have HK := Lib.hid h
      clear h
      have q0 : (D.k == 0) = false := beq_eq_false_iff_ne.2 (by have := HK.out; omega)
      have q1 : (D.k == 1) = true := beq_iff_eq.2 (by have := HK.out; omega)
      have q2 : (D.k == 2) = false := beq_eq_false_iff_ne.2 (by have := HK.out; omega)
      have q3 : (D.k == 3) = false := beq_eq_false_iff_ne.2 (by have := HK.out; omega)
      have q4 : (D.k == 4) = false := beq_eq_false_iff_ne.2 (by have := HK.out; omega)
      have q5 : (D.k == 5) = false := beq_eq_false_iff_ne.2 (by have := HK.out; omega)
      have q6 : (D.k == 6) = false := beq_eq_false_iff_ne.2 (by have := HK.out; omega)
      have PK : Hid (HC.cmd ⟨D.k, D.mi, D.GA, D.Gn, D.Gc, D.gs, D.mt, D.key, D.body, 0, 0, none, 0, 0, [], 0, 0, 0⟩ = Cp.plainC D.cmd) := (Cp.plain_1 (c := D.cmd) HK.out).symm
      go_wp2_with fail
      clear c0 c1 c2 c3 c4 c5 c6 c7 c8 c9 c10 c11
      have X1 : Hid (Blk (((((wc.setCell ⟨w.heap.size + 1 + 1, 1, none⟩ (.int .i64 D.mi)).setCell ⟨w.heap.size + 1 + 1, 2, none⟩ (.slice D.GA D.Gn D.Gc)).setCell ⟨w.heap.size + 1 + 1, 3, none⟩ (.int .i64 D.mt)).setCell ⟨w.heap.size + 1 + 1, 4, none⟩ (.string D.key)).setCell ⟨w.heap.size + 1 + 1, 5, none⟩ (.string D.body)) w.heap.size 26 #[.int .u8 D.k, .int .i64 D.mi, .slice D.GA D.Gn D.Gc, .int .i64 D.mt, .string D.key, .string D.body, .int .i64 D.i, .int .i64 D.tm, .slice D.MA D.Mn D.Mc, .int .i64 D.tp, .int .i64 D.who, .int .i64 D.n]) := (Blk.far (Blk.far (Blk.far (Blk.far (Blk.far K1.out (p := ⟨w.heap.size + 1 + 1, 1, none⟩) (by show w.heap.size ≠ w.heap.size + 1 + 1; omega) (.int .i64 D.mi)) (p := ⟨w.heap.size + 1 + 1, 2, none⟩) (by show w.heap.size ≠ w.heap.size + 1 + 1; omega) (.slice D.GA D.Gn D.Gc)) (p := ⟨w.heap.size + 1 + 1, 3, none⟩) (by show w.heap.size ≠ w.heap.size + 1 + 1; omega) (.int .i64 D.mt)) (p := ⟨w.heap.size + 1 + 1, 4, none⟩) (by show w.heap.size ≠ w.heap.size + 1 + 1; omega) (.string D.key)) (p := ⟨w.heap.size + 1 + 1, 5, none⟩) (by show w.heap.size ≠ w.heap.size + 1 + 1; omega) (.string D.body))
      have X2 : Hid (Blk (((((wc.setCell ⟨w.heap.size + 1 + 1, 1, none⟩ (.int .i64 D.mi)).setCell ⟨w.heap.size + 1 + 1, 2, none⟩ (.slice D.GA D.Gn D.Gc)).setCell ⟨w.heap.size + 1 + 1, 3, none⟩ (.int .i64 D.mt)).setCell ⟨w.heap.size + 1 + 1, 4, none⟩ (.string D.key)).setCell ⟨w.heap.size + 1 + 1, 5, none⟩ (.string D.body)) (w.heap.size + 1) 26 #[.int .u8 0, .int .i64 0, .slice none 0 0, .int .i64 0, .string ⟨#[]⟩, .string ⟨#[]⟩, .int .i64 0, .int .i64 0, .slice none 0 0, .int .i64 0, .int .i64 0, .int .i64 0]) := (Blk.far (Blk.far (Blk.far (Blk.far (Blk.far K2.out (p := ⟨w.heap.size + 1 + 1, 1, none⟩) (by show w.heap.size + 1 ≠ w.heap.size + 1 + 1; omega) (.int .i64 D.mi)) (p := ⟨w.heap.size + 1 + 1, 2, none⟩) (by show w.heap.size + 1 ≠ w.heap.size + 1 + 1; omega) (.slice D.GA D.Gn D.Gc)) (p := ⟨w.heap.size + 1 + 1, 3, none⟩) (by show w.heap.size + 1 ≠ w.heap.size + 1 + 1; omega) (.int .i64 D.mt)) (p := ⟨w.heap.size + 1 + 1, 4, none⟩) (by show w.heap.size + 1 ≠ w.heap.size + 1 + 1; omega) (.string D.key)) (p := ⟨w.heap.size + 1 + 1, 5, none⟩) (by show w.heap.size + 1 ≠ w.heap.size + 1 + 1; omega) (.string D.body))
      have X4 : Hid (Blk (((((wc.setCell ⟨w.heap.size + 1 + 1, 1, none⟩ (.int .i64 D.mi)).setCell ⟨w.heap.size + 1 + 1, 2, none⟩ (.slice D.GA D.Gn D.Gc)).setCell ⟨w.heap.size + 1 + 1, 3, none⟩ (.int .i64 D.mt)).setCell ⟨w.heap.size + 1 + 1, 4, none⟩ (.string D.key)).setCell ⟨w.heap.size + 1 + 1, 5, none⟩ (.string D.body)) (w.heap.size + 1 + 1) 26 #[.int .u8 D.k, .int .i64 D.mi, .slice D.GA D.Gn D.Gc, .int .i64 D.mt, .string D.key, .string D.body, .int .i64 0, .int .i64 0, .slice none 0 0, .int .i64 0, .int .i64 0, .int .i64 0]) := (((((K4.out.set_ 1 (.int .i64 D.mi)).set_ 2 (.slice D.GA D.Gn D.Gc)).set_ 3 (.int .i64 D.mt)).set_ 4 (.string D.key)).set_ 5 (.string D.body))
      have BX : Hid (Below w.heap.size w (((((wc.setCell ⟨w.heap.size + 1 + 1, 1, none⟩ (.int .i64 D.mi)).setCell ⟨w.heap.size + 1 + 1, 2, none⟩ (.slice D.GA D.Gn D.Gc)).setCell ⟨w.heap.size + 1 + 1, 3, none⟩ (.int .i64 D.mt)).setCell ⟨w.heap.size + 1 + 1, 4, none⟩ (.string D.key)).setCell ⟨w.heap.size + 1 + 1, 5, none⟩ (.string D.body))) := (Below.setCell (Below.setCell (Below.setCell (Below.setCell (Below.setCell B0.out (by show w.heap.size ≤ w.heap.size + 1 + 1; omega) _) (by show w.heap.size ≤ w.heap.size + 1 + 1; omega) _) (by show w.heap.size ≤ w.heap.size + 1 + 1; omega) _) (by show w.heap.size ≤ w.heap.size + 1 + 1; omega) _) (by show w.heap.size ≤ w.heap.size + 1 + 1; omega) _)
      clear p0 r0 p1 r1 p2 r2 p3 r3 p4 r4 p5 r5 p6 r6 p7 r7 p8 r8 p9 r9 p10 r10 p11 r11 fr fp K1 K2 K4 B0 HW HD0 hz
      generalize (((((wc.setCell ⟨w.heap.size + 1 + 1, 1, none⟩ (.int .i64 D.mi)).setCell ⟨w.heap.size + 1 + 1, 2, none⟩ (.slice D.GA D.Gn D.Gc)).setCell ⟨w.heap.size + 1 + 1, 3, none⟩ (.int .i64 D.mt)).setCell ⟨w.heap.size + 1 + 1, 4, none⟩ (.string D.key)).setCell ⟨w.heap.size + 1 + 1, 5, none⟩ (.string D.body)) = X at *
      have hzX : w.heap.size + 3 ≤ X.heap.size := by have := X4.out.lt; omega
      have p0 := X4.out.cell 0
      have p1 := X4.out.cell 1
      have p2 := X4.out.cell 2
      have p3 := X4.out.cell 3
      have p4 := X4.out.cell 4
      have p5 := X4.out.cell 5
      have p6 := X4.out.cell 6
      have p7 := X4.out.cell 7
      have p8 := X4.out.cell 8
      have p9 := X4.out.cell 9
      have p10 := X4.out.cell 10
      have p11 := X4.out.cell 11
      have c1 := X1.out.cell 1
      have c2 := X1.out.cell 2
      have c3 := X1.out.cell 3
      have c4 := X1.out.cell 4
      have c5 := X1.out.cell 5
      have HS : Hid ((fun w' => w'.cell? ⟨w.heap.size + 1 + 1, 0, none⟩ = some (.int .u8 D.k) ∧ w'.cell? ⟨w.heap.size + 1 + 1, 1, none⟩ = some (.int .i64 D.mi) ∧ w'.cell? ⟨w.heap.size + 1 + 1, 2, none⟩ = some (.slice D.GA D.Gn D.Gc) ∧ w'.cell? ⟨w.heap.size + 1 + 1, 3, none⟩ = some (.int .i64 D.mt) ∧ w'.cell? ⟨w.heap.size + 1 + 1, 4, none⟩ = some (.string D.key) ∧ w'.cell? ⟨w.heap.size + 1 + 1, 5, none⟩ = some (.string D.body) ∧ w'.cell? ⟨w.heap.size + 1 + 1, 6, none⟩ = some (.int .i64 0) ∧ w'.cell? ⟨w.heap.size + 1 + 1, 7, none⟩ = some (.int .i64 0) ∧ w'.cell? ⟨w.heap.size + 1 + 1, 8, none⟩ = some (.slice none 0 0) ∧ w'.cell? ⟨w.heap.size + 1 + 1, 9, none⟩ = some (.int .i64 0) ∧ w'.cell? ⟨w.heap.size + 1 + 1, 10, none⟩ = some (.int .i64 0) ∧ w'.cell? ⟨w.heap.size + 1 + 1, 11, none⟩ = some (.int .i64 0) ∧ w'.cell? ⟨w.heap.size, 1, none⟩ = some (.int .i64 D.mi) ∧ w'.cell? ⟨w.heap.size, 2, none⟩ = some (.slice D.GA D.Gn D.Gc) ∧ w'.cell? ⟨w.heap.size, 3, none⟩ = some (.int .i64 D.mt) ∧ w'.cell? ⟨w.heap.size, 4, none⟩ = some (.string D.key) ∧ w'.cell? ⟨w.heap.size, 5, none⟩ = some (.string D.body)) X.drew) := ⟨X4.out.cell 0, X4.out.cell 1, X4.out.cell 2, X4.out.cell 3, X4.out.cell 4, X4.out.cell 5, X4.out.cell 6, X4.out.cell 7, X4.out.cell 8, X4.out.cell 9, X4.out.cell 10, X4.out.cell 11, X1.out.cell 1, X1.out.cell 2, X1.out.cell 3, X1.out.cell 4, X1.out.cell 5⟩
      refine T_region 6 (fun w' => w'.cell? ⟨w.heap.size + 1 + 1, 0, none⟩ = some (.int .u8 D.k) ∧ w'.cell? ⟨w.heap.size + 1 + 1, 1, none⟩ = some (.int .i64 D.mi) ∧ w'.cell? ⟨w.heap.size + 1 + 1, 2, none⟩ = some (.slice D.GA D.Gn D.Gc) ∧ w'.cell? ⟨w.heap.size + 1 + 1, 3, none⟩ = some (.int .i64 D.mt) ∧ w'.cell? ⟨w.heap.size + 1 + 1, 4, none⟩ = some (.string D.key) ∧ w'.cell? ⟨w.heap.size + 1 + 1, 5, none⟩ = some (.string D.body) ∧ w'.cell? ⟨w.heap.size + 1 + 1, 6, none⟩ = some (.int .i64 0) ∧ w'.cell? ⟨w.heap.size + 1 + 1, 7, none⟩ = some (.int .i64 0) ∧ w'.cell? ⟨w.heap.size + 1 + 1, 8, none⟩ = some (.slice none 0 0) ∧ w'.cell? ⟨w.heap.size + 1 + 1, 9, none⟩ = some (.int .i64 0) ∧ w'.cell? ⟨w.heap.size + 1 + 1, 10, none⟩ = some (.int .i64 0) ∧ w'.cell? ⟨w.heap.size + 1 + 1, 11, none⟩ = some (.int .i64 0) ∧ w'.cell? ⟨w.heap.size, 1, none⟩ = some (.int .i64 D.mi) ∧ w'.cell? ⟨w.heap.size, 2, none⟩ = some (.slice D.GA D.Gn D.Gc) ∧ w'.cell? ⟨w.heap.size, 3, none⟩ = some (.int .i64 D.mt) ∧ w'.cell? ⟨w.heap.size, 4, none⟩ = some (.string D.key) ∧ w'.cell? ⟨w.heap.size, 5, none⟩ = some (.string D.body)) (by kernel_rfl) (by kernel_rfl) ?_
      refine T_takeL (i := 0) (v := ?_) rfl (by kernel_rfl) (fun _ _ _ h => h) (Or.inl ⟨by rfl, ?_⟩) HS.out ?_
      rotate_left
      · ((intro w hSw; (try dsimp only at hSw); go_simp) <;> with_reducible rfl)
      try simp only [Act.put, List.setIfInBounds_toArray, List.set_cons_zero, List.set_cons_succ]
      refine T_takeL (i := 1) (v := ?_) rfl (by kernel_rfl) (fun _ _ _ h => h) (Or.inl ⟨by rfl, ?_⟩) HS.out ?_
      rotate_left
      · ((intro w hSw; (try dsimp only at hSw); go_simp) <;> with_reducible rfl)
      try simp only [Act.put, List.setIfInBounds_toArray, List.set_cons_zero, List.set_cons_succ]
      refine T_takeL (i := 2) (v := ?_) rfl (by kernel_rfl) (fun _ _ _ h => h) (Or.inl ⟨by rfl, ?_⟩) HS.out ?_
      rotate_left
      · ((intro w hSw; (try dsimp only at hSw); go_simp) <;> with_reducible rfl)
      try simp only [Act.put, List.setIfInBounds_toArray, List.set_cons_zero, List.set_cons_succ]
      refine T_one (i := 3) rfl (by kernel_rfl) ?_
      have HDX := Lib.hid ((HD1.out.below (Below.drew BX.out)).more (Below.drew BX.out).size)
      cases hm : Cp.msgB D.cmd with
      | false =>
        go_wp2_with fail
        refine (ccheckMsg_any D _ HDX.out false hm).mono ?_
        rintro e Y ⟨rfl, hb⟩
        rw [show errK false = 120 from rfl]
        have HM := Lib.hid hm
        have Y1 := Lib.hid (X1.out.drew.below hb X1.out.lt)
        have Y2 := Lib.hid (X2.out.drew.below hb X2.out.lt)
        have Y4 := Lib.hid (X4.out.drew.below hb X4.out.lt)
        have BY := Lib.hid ((Below.drew BX.out).trans (hb.mono (Below.drew BX.out).size))
        have hzY : w.heap.size + 3 ≤ Y.heap.size := by have := Y4.out.lt; omega
        have HS1 : Hid ((fun w' => w'.cell? ⟨w.heap.size + 1 + 1, 0, none⟩ = some (.int .u8 D.k) ∧ w'.cell? ⟨w.heap.size + 1 + 1, 1, none⟩ = some (.int .i64 D.mi) ∧ w'.cell? ⟨w.heap.size + 1 + 1, 2, none⟩ = some (.slice D.GA D.Gn D.Gc) ∧ w'.cell? ⟨w.heap.size + 1 + 1, 3, none⟩ = some (.int .i64 D.mt) ∧ w'.cell? ⟨w.heap.size + 1 + 1, 4, none⟩ = some (.string D.key) ∧ w'.cell? ⟨w.heap.size + 1 + 1, 5, none⟩ = some (.string D.body) ∧ w'.cell? ⟨w.heap.size + 1 + 1, 6, none⟩ = some (.int .i64 0) ∧ w'.cell? ⟨w.heap.size + 1 + 1, 7, none⟩ = some (.int .i64 0) ∧ w'.cell? ⟨w.heap.size + 1 + 1, 8, none⟩ = some (.slice none 0 0) ∧ w'.cell? ⟨w.heap.size + 1 + 1, 9, none⟩ = some (.int .i64 0) ∧ w'.cell? ⟨w.heap.size + 1 + 1, 10, none⟩ = some (.int .i64 0) ∧ w'.cell? ⟨w.heap.size + 1 + 1, 11, none⟩ = some (.int .i64 0) ∧ w'.cell? ⟨w.heap.size, 1, none⟩ = some (.int .i64 D.mi) ∧ w'.cell? ⟨w.heap.size, 2, none⟩ = some (.slice D.GA D.Gn D.Gc) ∧ w'.cell? ⟨w.heap.size, 3, none⟩ = some (.int .i64 D.mt) ∧ w'.cell? ⟨w.heap.size, 4, none⟩ = some (.string D.key) ∧ w'.cell? ⟨w.heap.size, 5, none⟩ = some (.string D.body)) Y) := ⟨Y4.out.cell 0, Y4.out.cell 1, Y4.out.cell 2, Y4.out.cell 3, Y4.out.cell 4, Y4.out.cell 5, Y4.out.cell 6, Y4.out.cell 7, Y4.out.cell 8, Y4.out.cell 9, Y4.out.cell 10, Y4.out.cell 11, Y1.out.cell 1, Y1.out.cell 2, Y1.out.cell 3, Y1.out.cell 4, Y1.out.cell 5⟩
        clear hb hm HS HDX X1 X2 X4 BX p0 p1 p2 p3 p4 p5 p6 p7 p8 p9 p10 p11 c1 c2 c3 c4 c5
        go_wp2_with fail
        simp only [Qn]
        refine ⟨HS1.out, ?_⟩
        have HS2 : Hid ((fun w' => w'.cell? ⟨w.heap.size + 1 + 1, 0, none⟩ = some (.int .u8 D.k) ∧ w'.cell? ⟨w.heap.size + 1 + 1, 1, none⟩ = some (.int .i64 D.mi) ∧ w'.cell? ⟨w.heap.size + 1 + 1, 2, none⟩ = some (.slice D.GA D.Gn D.Gc) ∧ w'.cell? ⟨w.heap.size + 1 + 1, 3, none⟩ = some (.int .i64 D.mt) ∧ w'.cell? ⟨w.heap.size + 1 + 1, 4, none⟩ = some (.string D.key) ∧ w'.cell? ⟨w.heap.size + 1 + 1, 5, none⟩ = some (.string D.body) ∧ w'.cell? ⟨w.heap.size + 1 + 1, 6, none⟩ = some (.int .i64 0) ∧ w'.cell? ⟨w.heap.size + 1 + 1, 7, none⟩ = some (.int .i64 0) ∧ w'.cell? ⟨w.heap.size + 1 + 1, 8, none⟩ = some (.slice none 0 0) ∧ w'.cell? ⟨w.heap.size + 1 + 1, 9, none⟩ = some (.int .i64 0) ∧ w'.cell? ⟨w.heap.size + 1 + 1, 10, none⟩ = some (.int .i64 0) ∧ w'.cell? ⟨w.heap.size + 1 + 1, 11, none⟩ = some (.int .i64 0) ∧ w'.cell? ⟨w.heap.size, 1, none⟩ = some (.int .i64 D.mi) ∧ w'.cell? ⟨w.heap.size, 2, none⟩ = some (.slice D.GA D.Gn D.Gc) ∧ w'.cell? ⟨w.heap.size, 3, none⟩ = some (.int .i64 D.mt) ∧ w'.cell? ⟨w.heap.size, 4, none⟩ = some (.string D.key) ∧ w'.cell? ⟨w.heap.size, 5, none⟩ = some (.string D.body)) ((((((((((((Y.setCell ⟨w.heap.size + 1, 0, none⟩ (.int .u8 D.k)).setCell ⟨w.heap.size + 1, 1, none⟩ (.int .i64 D.mi)).setCell ⟨w.heap.size + 1, 2, none⟩ (.slice D.GA D.Gn D.Gc)).setCell ⟨w.heap.size + 1, 3, none⟩ (.int .i64 D.mt)).setCell ⟨w.heap.size + 1, 4, none⟩ (.string D.key)).setCell ⟨w.heap.size + 1, 5, none⟩ (.string D.body)).setCell ⟨w.heap.size + 1, 6, none⟩ (.int .i64 0)).setCell ⟨w.heap.size + 1, 7, none⟩ (.int .i64 0)).setCell ⟨w.heap.size + 1, 8, none⟩ (.slice none 0 0)).setCell ⟨w.heap.size + 1, 9, none⟩ (.int .i64 0)).setCell ⟨w.heap.size + 1, 10, none⟩ (.int .i64 0)).setCell ⟨w.heap.size + 1, 11, none⟩ (.int .i64 0))) := ⟨(blk_far12 Y4.out (by show w.heap.size + 1 + 1 ≠ w.heap.size + 1; omega) _ _ _ _ _ _ _ _ _ _ _ _).cell 0, (blk_far12 Y4.out (by show w.heap.size + 1 + 1 ≠ w.heap.size + 1; omega) _ _ _ _ _ _ _ _ _ _ _ _).cell 1, (blk_far12 Y4.out (by show w.heap.size + 1 + 1 ≠ w.heap.size + 1; omega) _ _ _ _ _ _ _ _ _ _ _ _).cell 2, (blk_far12 Y4.out (by show w.heap.size + 1 + 1 ≠ w.heap.size + 1; omega) _ _ _ _ _ _ _ _ _ _ _ _).cell 3, (blk_far12 Y4.out (by show w.heap.size + 1 + 1 ≠ w.heap.size + 1; omega) _ _ _ _ _ _ _ _ _ _ _ _).cell 4, (blk_far12 Y4.out (by show w.heap.size + 1 + 1 ≠ w.heap.size + 1; omega) _ _ _ _ _ _ _ _ _ _ _ _).cell 5, (blk_far12 Y4.out (by show w.heap.size + 1 + 1 ≠ w.heap.size + 1; omega) _ _ _ _ _ _ _ _ _ _ _ _).cell 6, (blk_far12 Y4.out (by show w.heap.size + 1 + 1 ≠ w.heap.size + 1; omega) _ _ _ _ _ _ _ _ _ _ _ _).cell 7, (blk_far12 Y4.out (by show w.heap.size + 1 + 1 ≠ w.heap.size + 1; omega) _ _ _ _ _ _ _ _ _ _ _ _).cell 8, (blk_far12 Y4.out (by show w.heap.size + 1 + 1 ≠ w.heap.size + 1; omega) _ _ _ _ _ _ _ _ _ _ _ _).cell 9, (blk_far12 Y4.out (by show w.heap.size + 1 + 1 ≠ w.heap.size + 1; omega) _ _ _ _ _ _ _ _ _ _ _ _).cell 10, (blk_far12 Y4.out (by show w.heap.size + 1 + 1 ≠ w.heap.size + 1; omega) _ _ _ _ _ _ _ _ _ _ _ _).cell 11, (blk_far12 Y1.out (by show w.heap.size ≠ w.heap.size + 1; omega) _ _ _ _ _ _ _ _ _ _ _ _).cell 1, (blk_far12 Y1.out (by show w.heap.size ≠ w.heap.size + 1; omega) _ _ _ _ _ _ _ _ _ _ _ _).cell 2, (blk_far12 Y1.out (by show w.heap.size ≠ w.heap.size + 1; omega) _ _ _ _ _ _ _ _ _ _ _ _).cell 3, (blk_far12 Y1.out (by show w.heap.size ≠ w.heap.size + 1; omega) _ _ _ _ _ _ _ _ _ _ _ _).cell 4, (blk_far12 Y1.out (by show w.heap.size ≠ w.heap.size + 1; omega) _ _ _ _ _ _ _ _ _ _ _ _).cell 5⟩
        have r0 := Y2.out.cell 0
        have r1 := Y2.out.cell 1
        have r2 := Y2.out.cell 2
        have r3 := Y2.out.cell 3
        have r4 := Y2.out.cell 4
        have r5 := Y2.out.cell 5
        have r6 := Y2.out.cell 6
        have r7 := Y2.out.cell 7
        have r8 := Y2.out.cell 8
        have r9 := Y2.out.cell 9
        have r10 := Y2.out.cell 10
        have r11 := Y2.out.cell 11
        have fr := Y2.out.frozen
        refine T_two (i := 4) (j := 5) rfl rfl (by kernel_rfl) ?_ ?_
        · go_wp2_with fail
          simp only [Qn]
          refine ⟨HS1.out, ?_⟩
          refine T_one (i := 5) rfl (by kernel_rfl) ?_
          go_wp2_with fail
          simp only [Qn]
          refine ⟨HS2.out, ?_⟩
          refine T_end (by kernel_rfl) ?_
          go_wp2_with fail
          have FK : Hid (Cp.okK D.cmd = false) := by rw [Hid, Cp.okK_1 HK.out]; exact HM.out
          rw [FK.out]
          refine bodyPost_ret (v := .tuple #[.agg #[.int .u8 D.k, .int .i64 D.mi, .slice D.GA D.Gn D.Gc, .int .i64 D.mt, .string D.key, .string D.body, .int .i64 0, .int .i64 0, .slice none 0 0, .int .i64 0, .int .i64 0, .int .i64 0], .bool false]) (by simp [results, Try.results50, go_sem, r0, r1, r2, r3, r4, r5, r6, r7, r8, r9, r10, r11]) rfl ⟨⟨D.k, D.mi, D.GA, D.Gn, D.Gc, D.gs, D.mt, D.key, D.body, 0, 0, none, 0, 0, [], 0, 0, 0⟩, rfl, ?E1, ⟨HD1.out.rg, (zeroHC_at w w.heap.size hk).rm, HD1.out.gc, HD1.out.gm, (zeroHC_at w w.heap.size hk).mc, (zeroHC_at w w.heap.size hk).mm, HD1.out.kk, HD1.out.bk, HD1.out.bb, HD1.out.ig, (zeroHC_at w w.heap.size hk).im, HD1.out.a1, HD1.out.a2, (zeroHC_at w w.heap.size hk).a3, (zeroHC_at w w.heap.size hk).a4, (zeroHC_at w w.heap.size hk).a5, (zeroHC_at w w.heap.size hk).a6, (zeroHC_at w w.heap.size hk).a7⟩, ?E3⟩
          case E1 => exact PK.out
          case E3 => exact below_set12 BY.out (by omega) _ _ _ _ _ _ _ _ _ _ _ _
        · go_wp2_with fail
          simp only [Qn]
          refine ⟨HS2.out, ?_⟩
          refine T_one (i := 4) rfl (by kernel_rfl) ?_
          go_wp2_with fail
          simp only [Qn]
          refine ⟨HS2.out, ?_⟩
          refine T_end (by kernel_rfl) ?_
          go_wp2_with fail
          have FK : Hid (Cp.okK D.cmd = false) := by rw [Hid, Cp.okK_1 HK.out]; exact HM.out
          rw [FK.out]
          refine bodyPost_ret (v := .tuple #[.agg #[.int .u8 D.k, .int .i64 D.mi, .slice D.GA D.Gn D.Gc, .int .i64 D.mt, .string D.key, .string D.body, .int .i64 0, .int .i64 0, .slice none 0 0, .int .i64 0, .int .i64 0, .int .i64 0], .bool false]) (by simp [results, Try.results50, go_sem, r0, r1, r2, r3, r4, r5, r6, r7, r8, r9, r10, r11]) rfl ⟨⟨D.k, D.mi, D.GA, D.Gn, D.Gc, D.gs, D.mt, D.key, D.body, 0, 0, none, 0, 0, [], 0, 0, 0⟩, rfl, ?E1, ⟨HD1.out.rg, (zeroHC_at w w.heap.size hk).rm, HD1.out.gc, HD1.out.gm, (zeroHC_at w w.heap.size hk).mc, (zeroHC_at w w.heap.size hk).mm, HD1.out.kk, HD1.out.bk, HD1.out.bb, HD1.out.ig, (zeroHC_at w w.heap.size hk).im, HD1.out.a1, HD1.out.a2, (zeroHC_at w w.heap.size hk).a3, (zeroHC_at w w.heap.size hk).a4, (zeroHC_at w w.heap.size hk).a5, (zeroHC_at w w.heap.size hk).a6, (zeroHC_at w w.heap.size hk).a7⟩, ?E3⟩
          case E1 => exact PK.out
          case E3 => exact below_set12 BY.out (by omega) _ _ _ _ _ _ _ _ _ _ _ _
      | true =>
        go_wp2_with fail
        refine (ccheckMsg_any D _ HDX.out true hm).mono ?_
        rintro e Y ⟨rfl, hb⟩
        rw [show errK true = 0 from rfl]
        have HM := Lib.hid hm
        have Y1 := Lib.hid (X1.out.drew.below hb X1.out.lt)
        have Y2 := Lib.hid (X2.out.drew.below hb X2.out.lt)
        have Y4 := Lib.hid (X4.out.drew.below hb X4.out.lt)
        have BY := Lib.hid ((Below.drew BX.out).trans (hb.mono (Below.drew BX.out).size))
        have hzY : w.heap.size + 3 ≤ Y.heap.size := by have := Y4.out.lt; omega
        have HS1 : Hid ((fun w' => w'.cell? ⟨w.heap.size + 1 + 1, 0, none⟩ = some (.int .u8 D.k) ∧ w'.cell? ⟨w.heap.size + 1 + 1, 1, none⟩ = some (.int .i64 D.mi) ∧ w'.cell? ⟨w.heap.size + 1 + 1, 2, none⟩ = some (.slice D.GA D.Gn D.Gc) ∧ w'.cell? ⟨w.heap.size + 1 + 1, 3, none⟩ = some (.int .i64 D.mt) ∧ w'.cell? ⟨w.heap.size + 1 + 1, 4, none⟩ = some (.string D.key) ∧ w'.cell? ⟨w.heap.size + 1 + 1, 5, none⟩ = some (.string D.body) ∧ w'.cell? ⟨w.heap.size + 1 + 1, 6, none⟩ = some (.int .i64 0) ∧ w'.cell? ⟨w.heap.size + 1 + 1, 7, none⟩ = some (.int .i64 0) ∧ w'.cell? ⟨w.heap.size + 1 + 1, 8, none⟩ = some (.slice none 0 0) ∧ w'.cell? ⟨w.heap.size + 1 + 1, 9, none⟩ = some (.int .i64 0) ∧ w'.cell? ⟨w.heap.size + 1 + 1, 10, none⟩ = some (.int .i64 0) ∧ w'.cell? ⟨w.heap.size + 1 + 1, 11, none⟩ = some (.int .i64 0) ∧ w'.cell? ⟨w.heap.size, 1, none⟩ = some (.int .i64 D.mi) ∧ w'.cell? ⟨w.heap.size, 2, none⟩ = some (.slice D.GA D.Gn D.Gc) ∧ w'.cell? ⟨w.heap.size, 3, none⟩ = some (.int .i64 D.mt) ∧ w'.cell? ⟨w.heap.size, 4, none⟩ = some (.string D.key) ∧ w'.cell? ⟨w.heap.size, 5, none⟩ = some (.string D.body)) Y) := ⟨Y4.out.cell 0, Y4.out.cell 1, Y4.out.cell 2, Y4.out.cell 3, Y4.out.cell 4, Y4.out.cell 5, Y4.out.cell 6, Y4.out.cell 7, Y4.out.cell 8, Y4.out.cell 9, Y4.out.cell 10, Y4.out.cell 11, Y1.out.cell 1, Y1.out.cell 2, Y1.out.cell 3, Y1.out.cell 4, Y1.out.cell 5⟩
        clear hb hm HS HDX X1 X2 X4 BX p0 p1 p2 p3 p4 p5 p6 p7 p8 p9 p10 p11 c1 c2 c3 c4 c5
        go_wp2_with fail
        simp only [Qn]
        refine ⟨HS1.out, ?_⟩
        have HS2 : Hid ((fun w' => w'.cell? ⟨w.heap.size + 1 + 1, 0, none⟩ = some (.int .u8 D.k) ∧ w'.cell? ⟨w.heap.size + 1 + 1, 1, none⟩ = some (.int .i64 D.mi) ∧ w'.cell? ⟨w.heap.size + 1 + 1, 2, none⟩ = some (.slice D.GA D.Gn D.Gc) ∧ w'.cell? ⟨w.heap.size + 1 + 1, 3, none⟩ = some (.int .i64 D.mt) ∧ w'.cell? ⟨w.heap.size + 1 + 1, 4, none⟩ = some (.string D.key) ∧ w'.cell? ⟨w.heap.size + 1 + 1, 5, none⟩ = some (.string D.body) ∧ w'.cell? ⟨w.heap.size + 1 + 1, 6, none⟩ = some (.int .i64 0) ∧ w'.cell? ⟨w.heap.size + 1 + 1, 7, none⟩ = some (.int .i64 0) ∧ w'.cell? ⟨w.heap.size + 1 + 1, 8, none⟩ = some (.slice none 0 0) ∧ w'.cell? ⟨w.heap.size + 1 + 1, 9, none⟩ = some (.int .i64 0) ∧ w'.cell? ⟨w.heap.size + 1 + 1, 10, none⟩ = some (.int .i64 0) ∧ w'.cell? ⟨w.heap.size + 1 + 1, 11, none⟩ = some (.int .i64 0) ∧ w'.cell? ⟨w.heap.size, 1, none⟩ = some (.int .i64 D.mi) ∧ w'.cell? ⟨w.heap.size, 2, none⟩ = some (.slice D.GA D.Gn D.Gc) ∧ w'.cell? ⟨w.heap.size, 3, none⟩ = some (.int .i64 D.mt) ∧ w'.cell? ⟨w.heap.size, 4, none⟩ = some (.string D.key) ∧ w'.cell? ⟨w.heap.size, 5, none⟩ = some (.string D.body)) ((((((((((((Y.setCell ⟨w.heap.size + 1, 0, none⟩ (.int .u8 D.k)).setCell ⟨w.heap.size + 1, 1, none⟩ (.int .i64 D.mi)).setCell ⟨w.heap.size + 1, 2, none⟩ (.slice D.GA D.Gn D.Gc)).setCell ⟨w.heap.size + 1, 3, none⟩ (.int .i64 D.mt)).setCell ⟨w.heap.size + 1, 4, none⟩ (.string D.key)).setCell ⟨w.heap.size + 1, 5, none⟩ (.string D.body)).setCell ⟨w.heap.size + 1, 6, none⟩ (.int .i64 0)).setCell ⟨w.heap.size + 1, 7, none⟩ (.int .i64 0)).setCell ⟨w.heap.size + 1, 8, none⟩ (.slice none 0 0)).setCell ⟨w.heap.size + 1, 9, none⟩ (.int .i64 0)).setCell ⟨w.heap.size + 1, 10, none⟩ (.int .i64 0)).setCell ⟨w.heap.size + 1, 11, none⟩ (.int .i64 0))) := ⟨(blk_far12 Y4.out (by show w.heap.size + 1 + 1 ≠ w.heap.size + 1; omega) _ _ _ _ _ _ _ _ _ _ _ _).cell 0, (blk_far12 Y4.out (by show w.heap.size + 1 + 1 ≠ w.heap.size + 1; omega) _ _ _ _ _ _ _ _ _ _ _ _).cell 1, (blk_far12 Y4.out (by show w.heap.size + 1 + 1 ≠ w.heap.size + 1; omega) _ _ _ _ _ _ _ _ _ _ _ _).cell 2, (blk_far12 Y4.out (by show w.heap.size + 1 + 1 ≠ w.heap.size + 1; omega) _ _ _ _ _ _ _ _ _ _ _ _).cell 3, (blk_far12 Y4.out (by show w.heap.size + 1 + 1 ≠ w.heap.size + 1; omega) _ _ _ _ _ _ _ _ _ _ _ _).cell 4, (blk_far12 Y4.out (by show w.heap.size + 1 + 1 ≠ w.heap.size + 1; omega) _ _ _ _ _ _ _ _ _ _ _ _).cell 5, (blk_far12 Y4.out (by show w.heap.size + 1 + 1 ≠ w.heap.size + 1; omega) _ _ _ _ _ _ _ _ _ _ _ _).cell 6, (blk_far12 Y4.out (by show w.heap.size + 1 + 1 ≠ w.heap.size + 1; omega) _ _ _ _ _ _ _ _ _ _ _ _).cell 7, (blk_far12 Y4.out (by show w.heap.size + 1 + 1 ≠ w.heap.size + 1; omega) _ _ _ _ _ _ _ _ _ _ _ _).cell 8, (blk_far12 Y4.out (by show w.heap.size + 1 + 1 ≠ w.heap.size + 1; omega) _ _ _ _ _ _ _ _ _ _ _ _).cell 9, (blk_far12 Y4.out (by show w.heap.size + 1 + 1 ≠ w.heap.size + 1; omega) _ _ _ _ _ _ _ _ _ _ _ _).cell 10, (blk_far12 Y4.out (by show w.heap.size + 1 + 1 ≠ w.heap.size + 1; omega) _ _ _ _ _ _ _ _ _ _ _ _).cell 11, (blk_far12 Y1.out (by show w.heap.size ≠ w.heap.size + 1; omega) _ _ _ _ _ _ _ _ _ _ _ _).cell 1, (blk_far12 Y1.out (by show w.heap.size ≠ w.heap.size + 1; omega) _ _ _ _ _ _ _ _ _ _ _ _).cell 2, (blk_far12 Y1.out (by show w.heap.size ≠ w.heap.size + 1; omega) _ _ _ _ _ _ _ _ _ _ _ _).cell 3, (blk_far12 Y1.out (by show w.heap.size ≠ w.heap.size + 1; omega) _ _ _ _ _ _ _ _ _ _ _ _).cell 4, (blk_far12 Y1.out (by show w.heap.size ≠ w.heap.size + 1; omega) _ _ _ _ _ _ _ _ _ _ _ _).cell 5⟩
        have r0 := Y2.out.cell 0
        have r1 := Y2.out.cell 1
        have r2 := Y2.out.cell 2
        have r3 := Y2.out.cell 3
        have r4 := Y2.out.cell 4
        have r5 := Y2.out.cell 5
        have r6 := Y2.out.cell 6
        have r7 := Y2.out.cell 7
        have r8 := Y2.out.cell 8
        have r9 := Y2.out.cell 9
        have r10 := Y2.out.cell 10
        have r11 := Y2.out.cell 11
        have fr := Y2.out.frozen
        refine T_two (i := 4) (j := 5) rfl rfl (by kernel_rfl) ?_ ?_
        · go_wp2_with fail
          simp only [Qn]
          refine ⟨HS1.out, ?_⟩
          refine T_one (i := 5) rfl (by kernel_rfl) ?_
          go_wp2_with fail
          simp only [Qn]
          refine ⟨HS2.out, ?_⟩
          refine T_end (by kernel_rfl) ?_
          go_wp2_with fail
          have FK : Hid (Cp.okK D.cmd = true) := by rw [Hid, Cp.okK_1 HK.out]; exact HM.out
          rw [FK.out]
          refine bodyPost_ret (v := .tuple #[.agg #[.int .u8 D.k, .int .i64 D.mi, .slice D.GA D.Gn D.Gc, .int .i64 D.mt, .string D.key, .string D.body, .int .i64 0, .int .i64 0, .slice none 0 0, .int .i64 0, .int .i64 0, .int .i64 0], .bool true]) (by simp [results, Try.results50, go_sem, r0, r1, r2, r3, r4, r5, r6, r7, r8, r9, r10, r11]) rfl ⟨⟨D.k, D.mi, D.GA, D.Gn, D.Gc, D.gs, D.mt, D.key, D.body, 0, 0, none, 0, 0, [], 0, 0, 0⟩, rfl, ?E1, ⟨HD1.out.rg, (zeroHC_at w w.heap.size hk).rm, HD1.out.gc, HD1.out.gm, (zeroHC_at w w.heap.size hk).mc, (zeroHC_at w w.heap.size hk).mm, HD1.out.kk, HD1.out.bk, HD1.out.bb, HD1.out.ig, (zeroHC_at w w.heap.size hk).im, HD1.out.a1, HD1.out.a2, (zeroHC_at w w.heap.size hk).a3, (zeroHC_at w w.heap.size hk).a4, (zeroHC_at w w.heap.size hk).a5, (zeroHC_at w w.heap.size hk).a6, (zeroHC_at w w.heap.size hk).a7⟩, ?E3⟩
          case E1 => exact PK.out
          case E3 => exact below_set12 BY.out (by omega) _ _ _ _ _ _ _ _ _ _ _ _
        · go_wp2_with fail
          simp only [Qn]
          refine ⟨HS2.out, ?_⟩
          refine T_one (i := 4) rfl (by kernel_rfl) ?_
          go_wp2_with fail
          simp only [Qn]
          refine ⟨HS2.out, ?_⟩
          refine T_end (by kernel_rfl) ?_
          go_wp2_with fail
          have FK : Hid (Cp.okK D.cmd = true) := by rw [Hid, Cp.okK_1 HK.out]; exact HM.out
          rw [FK.out]
          refine bodyPost_ret (v := .tuple #[.agg #[.int .u8 D.k, .int .i64 D.mi, .slice D.GA D.Gn D.Gc, .int .i64 D.mt, .string D.key, .string D.body, .int .i64 0, .int .i64 0, .slice none 0 0, .int .i64 0, .int .i64 0, .int .i64 0], .bool true]) (by simp [results, Try.results50, go_sem, r0, r1, r2, r3, r4, r5, r6, r7, r8, r9, r10, r11]) rfl ⟨⟨D.k, D.mi, D.GA, D.Gn, D.Gc, D.gs, D.mt, D.key, D.body, 0, 0, none, 0, 0, [], 0, 0, 0⟩, rfl, ?E1, ⟨HD1.out.rg, (zeroHC_at w w.heap.size hk).rm, HD1.out.gc, HD1.out.gm, (zeroHC_at w w.heap.size hk).mc, (zeroHC_at w w.heap.size hk).mm, HD1.out.kk, HD1.out.bk, HD1.out.bb, HD1.out.ig, (zeroHC_at w w.heap.size hk).im, HD1.out.a1, HD1.out.a2, (zeroHC_at w w.heap.size hk).a3, (zeroHC_at w w.heap.size hk).a4, (zeroHC_at w w.heap.size hk).a5, (zeroHC_at w w.heap.size hk).a6, (zeroHC_at w w.heap.size hk).a7⟩, ?E3⟩
          case E1 => exact PK.out
          case E3 => exact below_set12 BY.out (by omega) _ _ _ _ _ _ _ _ _ _ _ _
    · have HK := Lib.hid h
      clear h
      have q0 : (D.k == 0) = false := beq_eq_false_iff_ne.2 (by have := HK.out; omega)
      have q1 : (D.k == 1) = false := beq_eq_false_iff_ne.2 (by have := HK.out; omega)
      have q2 : (D.k == 2) = true := beq_iff_eq.2 (by have := HK.out; omega)
      have q3 : (D.k == 3) = false := beq_eq_false_iff_ne.2 (by have := HK.out; omega)
      have q4 : (D.k == 4) = false := beq_eq_false_iff_ne.2 (by have := HK.out; omega)
      have q5 : (D.k == 5) = false := beq_eq_false_iff_ne.2 (by have := HK.out; omega)
      have q6 : (D.k == 6) = false := beq_eq_false_iff_ne.2 (by have := HK.out; omega)
      have PK : Hid (HC.cmd ⟨D.k, 0, none, 0, 0, [], 0, ⟨#[]⟩, ⟨#[]⟩, D.i, D.tm, none, 0, 0, [], 0, 0, 0⟩ = Cp.plainC D.cmd) := (Cp.plain_2 (c := D.cmd) HK.out).symm
      go_wp2_with fail
      clear c0 c1 c2 c3 c4 c5 c8 c9 c10 c11
      go_region_held3 (fun w' => w'.cell? ⟨w.heap.size, 6, none⟩ = some (.int .i64 D.i) ∧ w'.cell? ⟨w.heap.size, 7, none⟩ = some (.int .i64 D.tm)) (simp [go_sem, c6, c7]) (fail)
      clear c6 c7
      have X1 : Hid (Blk ((wc.setCell ⟨w.heap.size + 1 + 1, 6, none⟩ (.int .i64 D.i)).setCell ⟨w.heap.size + 1 + 1, 7, none⟩ (.int .i64 D.tm)).drew w.heap.size 26 #[.int .u8 D.k, .int .i64 D.mi, .slice D.GA D.Gn D.Gc, .int .i64 D.mt, .string D.key, .string D.body, .int .i64 D.i, .int .i64 D.tm, .slice D.MA D.Mn D.Mc, .int .i64 D.tp, .int .i64 D.who, .int .i64 D.n]) := (Blk.far (Blk.far K1.out (p := ⟨w.heap.size + 1 + 1, 6, none⟩) (by show w.heap.size ≠ w.heap.size + 1 + 1; omega) (.int .i64 D.i)) (p := ⟨w.heap.size + 1 + 1, 7, none⟩) (by show w.heap.size ≠ w.heap.size + 1 + 1; omega) (.int .i64 D.tm))
      have X2 : Hid (Blk ((wc.setCell ⟨w.heap.size + 1 + 1, 6, none⟩ (.int .i64 D.i)).setCell ⟨w.heap.size + 1 + 1, 7, none⟩ (.int .i64 D.tm)).drew (w.heap.size + 1) 26 #[.int .u8 0, .int .i64 0, .slice none 0 0, .int .i64 0, .string ⟨#[]⟩, .string ⟨#[]⟩, .int .i64 0, .int .i64 0, .slice none 0 0, .int .i64 0, .int .i64 0, .int .i64 0]) := (Blk.far (Blk.far K2.out (p := ⟨w.heap.size + 1 + 1, 6, none⟩) (by show w.heap.size + 1 ≠ w.heap.size + 1 + 1; omega) (.int .i64 D.i)) (p := ⟨w.heap.size + 1 + 1, 7, none⟩) (by show w.heap.size + 1 ≠ w.heap.size + 1 + 1; omega) (.int .i64 D.tm))
      have X4 : Hid (Blk ((wc.setCell ⟨w.heap.size + 1 + 1, 6, none⟩ (.int .i64 D.i)).setCell ⟨w.heap.size + 1 + 1, 7, none⟩ (.int .i64 D.tm)).drew (w.heap.size + 1 + 1) 26 #[.int .u8 D.k, .int .i64 0, .slice none 0 0, .int .i64 0, .string ⟨#[]⟩, .string ⟨#[]⟩, .int .i64 D.i, .int .i64 D.tm, .slice none 0 0, .int .i64 0, .int .i64 0, .int .i64 0]) := ((K4.out.set_ 6 (.int .i64 D.i)).set_ 7 (.int .i64 D.tm))
      have BX : Hid (Below w.heap.size w ((wc.setCell ⟨w.heap.size + 1 + 1, 6, none⟩ (.int .i64 D.i)).setCell ⟨w.heap.size + 1 + 1, 7, none⟩ (.int .i64 D.tm)).drew) := (Below.drew (Below.setCell (Below.setCell B0.out (by show w.heap.size ≤ w.heap.size + 1 + 1; omega) _) (by show w.heap.size ≤ w.heap.size + 1 + 1; omega) _))
      clear p0 r0 p1 r1 p2 r2 p3 r3 p4 r4 p5 r5 p6 r6 p7 r7 p8 r8 p9 r9 p10 r10 p11 r11 fr fp K1 K2 K4 B0 HW HD0 hz
      generalize ((wc.setCell ⟨w.heap.size + 1 + 1, 6, none⟩ (.int .i64 D.i)).setCell ⟨w.heap.size + 1 + 1, 7, none⟩ (.int .i64 D.tm)).drew = X at *
      have hzX : w.heap.size + 3 ≤ X.heap.size := by have := X4.out.lt; omega
      have p0 := X4.out.cell 0
      have p1 := X4.out.cell 1
      have p2 := X4.out.cell 2
      have p3 := X4.out.cell 3
      have p4 := X4.out.cell 4
      have p5 := X4.out.cell 5
      have p6 := X4.out.cell 6
      have p7 := X4.out.cell 7
      have p8 := X4.out.cell 8
      have p9 := X4.out.cell 9
      have p10 := X4.out.cell 10
      have p11 := X4.out.cell 11
      have c6 := X1.out.cell 6
      have c7 := X1.out.cell 7
      go_wp2_with fail
      have HS : Hid ((fun w' => w'.cell? ⟨w.heap.size + 1 + 1, 0, none⟩ = some (.int .u8 D.k) ∧ w'.cell? ⟨w.heap.size + 1 + 1, 1, none⟩ = some (.int .i64 0) ∧ w'.cell? ⟨w.heap.size + 1 + 1, 2, none⟩ = some (.slice none 0 0) ∧ w'.cell? ⟨w.heap.size + 1 + 1, 3, none⟩ = some (.int .i64 0) ∧ w'.cell? ⟨w.heap.size + 1 + 1, 4, none⟩ = some (.string ⟨#[]⟩) ∧ w'.cell? ⟨w.heap.size + 1 + 1, 5, none⟩ = some (.string ⟨#[]⟩) ∧ w'.cell? ⟨w.heap.size + 1 + 1, 6, none⟩ = some (.int .i64 D.i) ∧ w'.cell? ⟨w.heap.size + 1 + 1, 7, none⟩ = some (.int .i64 D.tm) ∧ w'.cell? ⟨w.heap.size + 1 + 1, 8, none⟩ = some (.slice none 0 0) ∧ w'.cell? ⟨w.heap.size + 1 + 1, 9, none⟩ = some (.int .i64 0) ∧ w'.cell? ⟨w.heap.size + 1 + 1, 10, none⟩ = some (.int .i64 0) ∧ w'.cell? ⟨w.heap.size + 1 + 1, 11, none⟩ = some (.int .i64 0) ∧ w'.cell? ⟨w.heap.size, 6, none⟩ = some (.int .i64 D.i) ∧ w'.cell? ⟨w.heap.size, 7, none⟩ = some (.int .i64 D.tm)) X.drew) := ⟨X4.out.cell 0, X4.out.cell 1, X4.out.cell 2, X4.out.cell 3, X4.out.cell 4, X4.out.cell 5, X4.out.cell 6, X4.out.cell 7, X4.out.cell 8, X4.out.cell 9, X4.out.cell 10, X4.out.cell 11, X1.out.cell 6, X1.out.cell 7⟩
      refine T_region 10 (fun w' => w'.cell? ⟨w.heap.size + 1 + 1, 0, none⟩ = some (.int .u8 D.k) ∧ w'.cell? ⟨w.heap.size + 1 + 1, 1, none⟩ = some (.int .i64 0) ∧ w'.cell? ⟨w.heap.size + 1 + 1, 2, none⟩ = some (.slice none 0 0) ∧ w'.cell? ⟨w.heap.size + 1 + 1, 3, none⟩ = some (.int .i64 0) ∧ w'.cell? ⟨w.heap.size + 1 + 1, 4, none⟩ = some (.string ⟨#[]⟩) ∧ w'.cell? ⟨w.heap.size + 1 + 1, 5, none⟩ = some (.string ⟨#[]⟩) ∧ w'.cell? ⟨w.heap.size + 1 + 1, 6, none⟩ = some (.int .i64 D.i) ∧ w'.cell? ⟨w.heap.size + 1 + 1, 7, none⟩ = some (.int .i64 D.tm) ∧ w'.cell? ⟨w.heap.size + 1 + 1, 8, none⟩ = some (.slice none 0 0) ∧ w'.cell? ⟨w.heap.size + 1 + 1, 9, none⟩ = some (.int .i64 0) ∧ w'.cell? ⟨w.heap.size + 1 + 1, 10, none⟩ = some (.int .i64 0) ∧ w'.cell? ⟨w.heap.size + 1 + 1, 11, none⟩ = some (.int .i64 0) ∧ w'.cell? ⟨w.heap.size, 6, none⟩ = some (.int .i64 D.i) ∧ w'.cell? ⟨w.heap.size, 7, none⟩ = some (.int .i64 D.tm)) (by kernel_rfl) (by kernel_rfl) ?_
      refine T_takeL (i := 0) (v := ?_) rfl (by kernel_rfl) (fun _ _ _ h => h) (Or.inl ⟨by rfl, ?_⟩) HS.out ?_
      rotate_left
      · ((intro w hSw; (try dsimp only at hSw); go_simp) <;> with_reducible rfl)
      try simp only [Act.put, List.setIfInBounds_toArray, List.set_cons_zero, List.set_cons_succ]
      refine T_takeL (i := 1) (v := ?_) rfl (by kernel_rfl) (fun _ _ _ h => h) (Or.inl ⟨by rfl, ?_⟩) HS.out ?_
      rotate_left
      · ((intro w hSw; (try dsimp only at hSw); go_simp) <;> with_reducible rfl)
      try simp only [Act.put, List.setIfInBounds_toArray, List.set_cons_zero, List.set_cons_succ]
      refine T_takeL (i := 2) (v := ?_) rfl (by kernel_rfl) (fun _ _ _ h => h) (Or.inl ⟨by rfl, ?_⟩) HS.out ?_
      rotate_left
      · ((intro w hSw; (try dsimp only at hSw); go_simp) <;> with_reducible rfl)
      try simp only [Act.put, List.setIfInBounds_toArray, List.set_cons_zero, List.set_cons_succ]
      refine T_one (i := 3) rfl (by kernel_rfl) ?_
      cases h1 : Wp.idB D.i with
      | false =>
        have H1 := Lib.hid h1
        clear h1
        go_wp2_with fail
        refine (cid_any D.i _ false H1.out).mono ?_
        rintro e w' ⟨rfl, rfl⟩
        go_wp2_with fail
        simp only [Qn]
        refine ⟨HS.out, ?_⟩
        refine T_takeL (i := 4) (v := ?_) rfl (by kernel_rfl) (fun _ _ _ h => h) (Or.inl ⟨by rfl, ?_⟩) HS.out ?_
        rotate_left
        · ((intro w hSw; (try dsimp only at hSw); go_simp) <;> with_reducible rfl)
        try simp only [Act.put, List.setIfInBounds_toArray, List.set_cons_zero, List.set_cons_succ]
        refine T_takeL (i := 5) (v := undef) rfl (by kernel_rfl) (fun _ _ _ h => h) (Or.inr ⟨by rfl, rfl⟩) HS.out ?_
        try simp only [Act.put, List.setIfInBounds_toArray, List.set_cons_zero, List.set_cons_succ]
        refine T_takeL (i := 6) (v := undef) rfl (by kernel_rfl) (fun _ _ _ h => h) (Or.inr ⟨by rfl, rfl⟩) HS.out ?_
        try simp only [Act.put, List.setIfInBounds_toArray, List.set_cons_zero, List.set_cons_succ]
        refine T_takeL (i := 7) (v := undef) rfl (by kernel_rfl) (fun _ _ _ h => h) (Or.inr ⟨by rfl, rfl⟩) HS.out ?_
        try simp only [Act.put, List.setIfInBounds_toArray, List.set_cons_zero, List.set_cons_succ]
        have Y1 := Lib.hid X1.out.drew
        have Y2 := Lib.hid X2.out.drew
        have Y4 := Lib.hid X4.out.drew
        have BY := Lib.hid (Below.drew BX.out)
        have HS1 := Lib.hid HS.out
        have hzY : w.heap.size + 3 ≤ X.drew.heap.size := hzX
        generalize X.drew = Y at *
        clear HS X1 X2 X4 BX p0 p1 p2 p3 p4 p5 p6 p7 p8 p9 p10 p11 c6 c7
        have HS2 : Hid ((fun w' => w'.cell? ⟨w.heap.size + 1 + 1, 0, none⟩ = some (.int .u8 D.k) ∧ w'.cell? ⟨w.heap.size + 1 + 1, 1, none⟩ = some (.int .i64 0) ∧ w'.cell? ⟨w.heap.size + 1 + 1, 2, none⟩ = some (.slice none 0 0) ∧ w'.cell? ⟨w.heap.size + 1 + 1, 3, none⟩ = some (.int .i64 0) ∧ w'.cell? ⟨w.heap.size + 1 + 1, 4, none⟩ = some (.string ⟨#[]⟩) ∧ w'.cell? ⟨w.heap.size + 1 + 1, 5, none⟩ = some (.string ⟨#[]⟩) ∧ w'.cell? ⟨w.heap.size + 1 + 1, 6, none⟩ = some (.int .i64 D.i) ∧ w'.cell? ⟨w.heap.size + 1 + 1, 7, none⟩ = some (.int .i64 D.tm) ∧ w'.cell? ⟨w.heap.size + 1 + 1, 8, none⟩ = some (.slice none 0 0) ∧ w'.cell? ⟨w.heap.size + 1 + 1, 9, none⟩ = some (.int .i64 0) ∧ w'.cell? ⟨w.heap.size + 1 + 1, 10, none⟩ = some (.int .i64 0) ∧ w'.cell? ⟨w.heap.size + 1 + 1, 11, none⟩ = some (.int .i64 0) ∧ w'.cell? ⟨w.heap.size, 6, none⟩ = some (.int .i64 D.i) ∧ w'.cell? ⟨w.heap.size, 7, none⟩ = some (.int .i64 D.tm)) ((((((((((((Y.setCell ⟨w.heap.size + 1, 0, none⟩ (.int .u8 D.k)).setCell ⟨w.heap.size + 1, 1, none⟩ (.int .i64 0)).setCell ⟨w.heap.size + 1, 2, none⟩ (.slice none 0 0)).setCell ⟨w.heap.size + 1, 3, none⟩ (.int .i64 0)).setCell ⟨w.heap.size + 1, 4, none⟩ (.string ⟨#[]⟩)).setCell ⟨w.heap.size + 1, 5, none⟩ (.string ⟨#[]⟩)).setCell ⟨w.heap.size + 1, 6, none⟩ (.int .i64 D.i)).setCell ⟨w.heap.size + 1, 7, none⟩ (.int .i64 D.tm)).setCell ⟨w.heap.size + 1, 8, none⟩ (.slice none 0 0)).setCell ⟨w.heap.size + 1, 9, none⟩ (.int .i64 0)).setCell ⟨w.heap.size + 1, 10, none⟩ (.int .i64 0)).setCell ⟨w.heap.size + 1, 11, none⟩ (.int .i64 0))) := ⟨(blk_far12 Y4.out (by show w.heap.size + 1 + 1 ≠ w.heap.size + 1; omega) _ _ _ _ _ _ _ _ _ _ _ _).cell 0, (blk_far12 Y4.out (by show w.heap.size + 1 + 1 ≠ w.heap.size + 1; omega) _ _ _ _ _ _ _ _ _ _ _ _).cell 1, (blk_far12 Y4.out (by show w.heap.size + 1 + 1 ≠ w.heap.size + 1; omega) _ _ _ _ _ _ _ _ _ _ _ _).cell 2, (blk_far12 Y4.out (by show w.heap.size + 1 + 1 ≠ w.heap.size + 1; omega) _ _ _ _ _ _ _ _ _ _ _ _).cell 3, (blk_far12 Y4.out (by show w.heap.size + 1 + 1 ≠ w.heap.size + 1; omega) _ _ _ _ _ _ _ _ _ _ _ _).cell 4, (blk_far12 Y4.out (by show w.heap.size + 1 + 1 ≠ w.heap.size + 1; omega) _ _ _ _ _ _ _ _ _ _ _ _).cell 5, (blk_far12 Y4.out (by show w.heap.size + 1 + 1 ≠ w.heap.size + 1; omega) _ _ _ _ _ _ _ _ _ _ _ _).cell 6, (blk_far12 Y4.out (by show w.heap.size + 1 + 1 ≠ w.heap.size + 1; omega) _ _ _ _ _ _ _ _ _ _ _ _).cell 7, (blk_far12 Y4.out (by show w.heap.size + 1 + 1 ≠ w.heap.size + 1; omega) _ _ _ _ _ _ _ _ _ _ _ _).cell 8, (blk_far12 Y4.out (by show w.heap.size + 1 + 1 ≠ w.heap.size + 1; omega) _ _ _ _ _ _ _ _ _ _ _ _).cell 9, (blk_far12 Y4.out (by show w.heap.size + 1 + 1 ≠ w.heap.size + 1; omega) _ _ _ _ _ _ _ _ _ _ _ _).cell 10, (blk_far12 Y4.out (by show w.heap.size + 1 + 1 ≠ w.heap.size + 1; omega) _ _ _ _ _ _ _ _ _ _ _ _).cell 11, (blk_far12 Y1.out (by show w.heap.size ≠ w.heap.size + 1; omega) _ _ _ _ _ _ _ _ _ _ _ _).cell 6, (blk_far12 Y1.out (by show w.heap.size ≠ w.heap.size + 1; omega) _ _ _ _ _ _ _ _ _ _ _ _).cell 7⟩
        have r0 := Y2.out.cell 0
        have r1 := Y2.out.cell 1
        have r2 := Y2.out.cell 2
        have r3 := Y2.out.cell 3
        have r4 := Y2.out.cell 4
        have r5 := Y2.out.cell 5
        have r6 := Y2.out.cell 6
        have r7 := Y2.out.cell 7
        have r8 := Y2.out.cell 8
        have r9 := Y2.out.cell 9
        have r10 := Y2.out.cell 10
        have r11 := Y2.out.cell 11
        have fr := Y2.out.frozen
        refine T_two (i := 8) (j := 9) rfl rfl (by kernel_rfl) ?_ ?_
        · go_wp2_with fail
          simp only [Qn]
          refine ⟨HS1.out, ?_⟩
          refine T_one (i := 9) rfl (by kernel_rfl) ?_
          go_wp2_with fail
          simp only [Qn]
          refine ⟨HS2.out, ?_⟩
          refine T_end (by kernel_rfl) ?_
          go_wp2_with fail
          have FK : Hid (Cp.okK D.cmd = false) := by rw [Hid, Cp.okK_2 HK.out, show Wp.idB D.cmd.i = false from H1.out]; rfl
          rw [FK.out]
          refine bodyPost_ret (v := .tuple #[.agg #[.int .u8 D.k, .int .i64 0, .slice none 0 0, .int .i64 0, .string ⟨#[]⟩, .string ⟨#[]⟩, .int .i64 D.i, .int .i64 D.tm, .slice none 0 0, .int .i64 0, .int .i64 0, .int .i64 0], .bool false]) (by simp [results, Try.results50, go_sem, r0, r1, r2, r3, r4, r5, r6, r7, r8, r9, r10, r11]) rfl ⟨⟨D.k, 0, none, 0, 0, [], 0, ⟨#[]⟩, ⟨#[]⟩, D.i, D.tm, none, 0, 0, [], 0, 0, 0⟩, rfl, ?E1, ⟨(zeroHC_at w w.heap.size hk).rg, (zeroHC_at w w.heap.size hk).rm, (zeroHC_at w w.heap.size hk).gc, (zeroHC_at w w.heap.size hk).gm, (zeroHC_at w w.heap.size hk).mc, (zeroHC_at w w.heap.size hk).mm, HD1.out.kk, (zeroHC_at w w.heap.size hk).bk, (zeroHC_at w w.heap.size hk).bb, (zeroHC_at w w.heap.size hk).ig, (zeroHC_at w w.heap.size hk).im, (zeroHC_at w w.heap.size hk).a1, (zeroHC_at w w.heap.size hk).a2, HD1.out.a3, HD1.out.a4, (zeroHC_at w w.heap.size hk).a5, (zeroHC_at w w.heap.size hk).a6, (zeroHC_at w w.heap.size hk).a7⟩, ?E3⟩
          case E1 => exact PK.out
          case E3 => exact below_set12 BY.out (by omega) _ _ _ _ _ _ _ _ _ _ _ _
        · go_wp2_with fail
          simp only [Qn]
          refine ⟨HS2.out, ?_⟩
          refine T_one (i := 8) rfl (by kernel_rfl) ?_
          go_wp2_with fail
          simp only [Qn]
          refine ⟨HS2.out, ?_⟩
          refine T_end (by kernel_rfl) ?_
          go_wp2_with fail
          have FK : Hid (Cp.okK D.cmd = false) := by rw [Hid, Cp.okK_2 HK.out, show Wp.idB D.cmd.i = false from H1.out]; rfl
          rw [FK.out]
          refine bodyPost_ret (v := .tuple #[.agg #[.int .u8 D.k, .int .i64 0, .slice none 0 0, .int .i64 0, .string ⟨#[]⟩, .string ⟨#[]⟩, .int .i64 D.i, .int .i64 D.tm, .slice none 0 0, .int .i64 0, .int .i64 0, .int .i64 0], .bool false]) (by simp [results, Try.results50, go_sem, r0, r1, r2, r3, r4, r5, r6, r7, r8, r9, r10, r11]) rfl ⟨⟨D.k, 0, none, 0, 0, [], 0, ⟨#[]⟩, ⟨#[]⟩, D.i, D.tm, none, 0, 0, [], 0, 0, 0⟩, rfl, ?E1, ⟨(zeroHC_at w w.heap.size hk).rg, (zeroHC_at w w.heap.size hk).rm, (zeroHC_at w w.heap.size hk).gc, (zeroHC_at w w.heap.size hk).gm, (zeroHC_at w w.heap.size hk).mc, (zeroHC_at w w.heap.size hk).mm, HD1.out.kk, (zeroHC_at w w.heap.size hk).bk, (zeroHC_at w w.heap.size hk).bb, (zeroHC_at w w.heap.size hk).ig, (zeroHC_at w w.heap.size hk).im, (zeroHC_at w w.heap.size hk).a1, (zeroHC_at w w.heap.size hk).a2, HD1.out.a3, HD1.out.a4, (zeroHC_at w w.heap.size hk).a5, (zeroHC_at w w.heap.size hk).a6, (zeroHC_at w w.heap.size hk).a7⟩, ?E3⟩
          case E1 => exact PK.out
          case E3 => exact below_set12 BY.out (by omega) _ _ _ _ _ _ _ _ _ _ _ _
      | true =>
        have H1 := Lib.hid h1
        clear h1
        go_wp2_with fail
        refine (cid_any D.i _ true H1.out).mono ?_
        rintro e w' ⟨rfl, rfl⟩
        go_wp2_with fail
        simp only [Qn]
        refine ⟨HS.out, ?_⟩
        refine T_takeL (i := 4) (v := ?_) rfl (by kernel_rfl) (fun _ _ _ h => h) (Or.inl ⟨by rfl, ?_⟩) HS.out ?_
        rotate_left
        · ((intro w hSw; (try dsimp only at hSw); go_simp) <;> with_reducible rfl)
        try simp only [Act.put, List.setIfInBounds_toArray, List.set_cons_zero, List.set_cons_succ]
        refine T_takeL (i := 5) (v := ?_) rfl (by kernel_rfl) (fun _ _ _ h => h) (Or.inl ⟨by rfl, ?_⟩) HS.out ?_
        rotate_left
        · ((intro w hSw; (try dsimp only at hSw); go_simp) <;> with_reducible rfl)
        try simp only [Act.put, List.setIfInBounds_toArray, List.set_cons_zero, List.set_cons_succ]
        refine T_takeL (i := 6) (v := ?_) rfl (by kernel_rfl) (fun _ _ _ h => h) (Or.inl ⟨by rfl, ?_⟩) HS.out ?_
        rotate_left
        · ((intro w hSw; (try dsimp only at hSw); go_simp) <;> with_reducible rfl)
        try simp only [Act.put, List.setIfInBounds_toArray, List.set_cons_zero, List.set_cons_succ]
        refine T_one (i := 7) rfl (by kernel_rfl) ?_
        obtain ⟨b, hb⟩ : ∃ b, Cp.inB 1 1073741824 D.tm = b := ⟨_, rfl⟩
        have H2 := Lib.hid hb
        clear hb
        go_wp2_with fail
        refine (cin_any D.tm 1 1073741824 _ b H2.out).mono ?_
        rintro e w' ⟨rfl, rfl⟩
        go_wp2_with fail
        simp only [Qn]
        refine ⟨HS.out, ?_⟩
        have Y1 := Lib.hid X1.out.drew
        have Y2 := Lib.hid X2.out.drew
        have Y4 := Lib.hid X4.out.drew
        have BY := Lib.hid (Below.drew BX.out)
        have HS1 := Lib.hid HS.out
        have hzY : w.heap.size + 3 ≤ X.drew.heap.size := hzX
        generalize X.drew = Y at *
        clear HS X1 X2 X4 BX p0 p1 p2 p3 p4 p5 p6 p7 p8 p9 p10 p11 c6 c7
        have HS2 : Hid ((fun w' => w'.cell? ⟨w.heap.size + 1 + 1, 0, none⟩ = some (.int .u8 D.k) ∧ w'.cell? ⟨w.heap.size + 1 + 1, 1, none⟩ = some (.int .i64 0) ∧ w'.cell? ⟨w.heap.size + 1 + 1, 2, none⟩ = some (.slice none 0 0) ∧ w'.cell? ⟨w.heap.size + 1 + 1, 3, none⟩ = some (.int .i64 0) ∧ w'.cell? ⟨w.heap.size + 1 + 1, 4, none⟩ = some (.string ⟨#[]⟩) ∧ w'.cell? ⟨w.heap.size + 1 + 1, 5, none⟩ = some (.string ⟨#[]⟩) ∧ w'.cell? ⟨w.heap.size + 1 + 1, 6, none⟩ = some (.int .i64 D.i) ∧ w'.cell? ⟨w.heap.size + 1 + 1, 7, none⟩ = some (.int .i64 D.tm) ∧ w'.cell? ⟨w.heap.size + 1 + 1, 8, none⟩ = some (.slice none 0 0) ∧ w'.cell? ⟨w.heap.size + 1 + 1, 9, none⟩ = some (.int .i64 0) ∧ w'.cell? ⟨w.heap.size + 1 + 1, 10, none⟩ = some (.int .i64 0) ∧ w'.cell? ⟨w.heap.size + 1 + 1, 11, none⟩ = some (.int .i64 0) ∧ w'.cell? ⟨w.heap.size, 6, none⟩ = some (.int .i64 D.i) ∧ w'.cell? ⟨w.heap.size, 7, none⟩ = some (.int .i64 D.tm)) ((((((((((((Y.setCell ⟨w.heap.size + 1, 0, none⟩ (.int .u8 D.k)).setCell ⟨w.heap.size + 1, 1, none⟩ (.int .i64 0)).setCell ⟨w.heap.size + 1, 2, none⟩ (.slice none 0 0)).setCell ⟨w.heap.size + 1, 3, none⟩ (.int .i64 0)).setCell ⟨w.heap.size + 1, 4, none⟩ (.string ⟨#[]⟩)).setCell ⟨w.heap.size + 1, 5, none⟩ (.string ⟨#[]⟩)).setCell ⟨w.heap.size + 1, 6, none⟩ (.int .i64 D.i)).setCell ⟨w.heap.size + 1, 7, none⟩ (.int .i64 D.tm)).setCell ⟨w.heap.size + 1, 8, none⟩ (.slice none 0 0)).setCell ⟨w.heap.size + 1, 9, none⟩ (.int .i64 0)).setCell ⟨w.heap.size + 1, 10, none⟩ (.int .i64 0)).setCell ⟨w.heap.size + 1, 11, none⟩ (.int .i64 0))) := ⟨(blk_far12 Y4.out (by show w.heap.size + 1 + 1 ≠ w.heap.size + 1; omega) _ _ _ _ _ _ _ _ _ _ _ _).cell 0, (blk_far12 Y4.out (by show w.heap.size + 1 + 1 ≠ w.heap.size + 1; omega) _ _ _ _ _ _ _ _ _ _ _ _).cell 1, (blk_far12 Y4.out (by show w.heap.size + 1 + 1 ≠ w.heap.size + 1; omega) _ _ _ _ _ _ _ _ _ _ _ _).cell 2, (blk_far12 Y4.out (by show w.heap.size + 1 + 1 ≠ w.heap.size + 1; omega) _ _ _ _ _ _ _ _ _ _ _ _).cell 3, (blk_far12 Y4.out (by show w.heap.size + 1 + 1 ≠ w.heap.size + 1; omega) _ _ _ _ _ _ _ _ _ _ _ _).cell 4, (blk_far12 Y4.out (by show w.heap.size + 1 + 1 ≠ w.heap.size + 1; omega) _ _ _ _ _ _ _ _ _ _ _ _).cell 5, (blk_far12 Y4.out (by show w.heap.size + 1 + 1 ≠ w.heap.size + 1; omega) _ _ _ _ _ _ _ _ _ _ _ _).cell 6, (blk_far12 Y4.out (by show w.heap.size + 1 + 1 ≠ w.heap.size + 1; omega) _ _ _ _ _ _ _ _ _ _ _ _).cell 7, (blk_far12 Y4.out (by show w.heap.size + 1 + 1 ≠ w.heap.size + 1; omega) _ _ _ _ _ _ _ _ _ _ _ _).cell 8, (blk_far12 Y4.out (by show w.heap.size + 1 + 1 ≠ w.heap.size + 1; omega) _ _ _ _ _ _ _ _ _ _ _ _).cell 9, (blk_far12 Y4.out (by show w.heap.size + 1 + 1 ≠ w.heap.size + 1; omega) _ _ _ _ _ _ _ _ _ _ _ _).cell 10, (blk_far12 Y4.out (by show w.heap.size + 1 + 1 ≠ w.heap.size + 1; omega) _ _ _ _ _ _ _ _ _ _ _ _).cell 11, (blk_far12 Y1.out (by show w.heap.size ≠ w.heap.size + 1; omega) _ _ _ _ _ _ _ _ _ _ _ _).cell 6, (blk_far12 Y1.out (by show w.heap.size ≠ w.heap.size + 1; omega) _ _ _ _ _ _ _ _ _ _ _ _).cell 7⟩
        have r0 := Y2.out.cell 0
        have r1 := Y2.out.cell 1
        have r2 := Y2.out.cell 2
        have r3 := Y2.out.cell 3
        have r4 := Y2.out.cell 4
        have r5 := Y2.out.cell 5
        have r6 := Y2.out.cell 6
        have r7 := Y2.out.cell 7
        have r8 := Y2.out.cell 8
        have r9 := Y2.out.cell 9
        have r10 := Y2.out.cell 10
        have r11 := Y2.out.cell 11
        have fr := Y2.out.frozen
        refine T_two (i := 8) (j := 9) rfl rfl (by kernel_rfl) ?_ ?_
        · go_wp2_with fail
          simp only [Qn]
          refine ⟨HS1.out, ?_⟩
          refine T_one (i := 9) rfl (by kernel_rfl) ?_
          go_wp2_with fail
          simp only [Qn]
          refine ⟨HS2.out, ?_⟩
          refine T_end (by kernel_rfl) ?_
          go_wp2_with fail
          have FK : Hid (Cp.okK D.cmd = b) := by rw [Hid, Cp.okK_2 HK.out, show Wp.idB D.cmd.i = true from H1.out, show Cp.inB 1 1073741824 D.cmd.tm = b from H2.out]; rfl
          rw [FK.out]
          refine bodyPost_ret (v := .tuple #[.agg #[.int .u8 D.k, .int .i64 0, .slice none 0 0, .int .i64 0, .string ⟨#[]⟩, .string ⟨#[]⟩, .int .i64 D.i, .int .i64 D.tm, .slice none 0 0, .int .i64 0, .int .i64 0, .int .i64 0], .bool b]) (by simp [results, Try.results50, go_sem, r0, r1, r2, r3, r4, r5, r6, r7, r8, r9, r10, r11]) rfl ⟨⟨D.k, 0, none, 0, 0, [], 0, ⟨#[]⟩, ⟨#[]⟩, D.i, D.tm, none, 0, 0, [], 0, 0, 0⟩, rfl, ?E1, ⟨(zeroHC_at w w.heap.size hk).rg, (zeroHC_at w w.heap.size hk).rm, (zeroHC_at w w.heap.size hk).gc, (zeroHC_at w w.heap.size hk).gm, (zeroHC_at w w.heap.size hk).mc, (zeroHC_at w w.heap.size hk).mm, HD1.out.kk, (zeroHC_at w w.heap.size hk).bk, (zeroHC_at w w.heap.size hk).bb, (zeroHC_at w w.heap.size hk).ig, (zeroHC_at w w.heap.size hk).im, (zeroHC_at w w.heap.size hk).a1, (zeroHC_at w w.heap.size hk).a2, HD1.out.a3, HD1.out.a4, (zeroHC_at w w.heap.size hk).a5, (zeroHC_at w w.heap.size hk).a6, (zeroHC_at w w.heap.size hk).a7⟩, ?E3⟩
          case E1 => exact PK.out
          case E3 => exact below_set12 BY.out (by omega) _ _ _ _ _ _ _ _ _ _ _ _
        · go_wp2_with fail
          simp only [Qn]
          refine ⟨HS2.out, ?_⟩
          refine T_one (i := 8) rfl (by kernel_rfl) ?_
          go_wp2_with fail
          simp only [Qn]
          refine ⟨HS2.out, ?_⟩
          refine T_end (by kernel_rfl) ?_
          go_wp2_with fail
          have FK : Hid (Cp.okK D.cmd = b) := by rw [Hid, Cp.okK_2 HK.out, show Wp.idB D.cmd.i = true from H1.out, show Cp.inB 1 1073741824 D.cmd.tm = b from H2.out]; rfl
          rw [FK.out]
          refine bodyPost_ret (v := .tuple #[.agg #[.int .u8 D.k, .int .i64 0, .slice none 0 0, .int .i64 0, .string ⟨#[]⟩, .string ⟨#[]⟩, .int .i64 D.i, .int .i64 D.tm, .slice none 0 0, .int .i64 0, .int .i64 0, .int .i64 0], .bool b]) (by simp [results, Try.results50, go_sem, r0, r1, r2, r3, r4, r5, r6, r7, r8, r9, r10, r11]) rfl ⟨⟨D.k, 0, none, 0, 0, [], 0, ⟨#[]⟩, ⟨#[]⟩, D.i, D.tm, none, 0, 0, [], 0, 0, 0⟩, rfl, ?E1, ⟨(zeroHC_at w w.heap.size hk).rg, (zeroHC_at w w.heap.size hk).rm, (zeroHC_at w w.heap.size hk).gc, (zeroHC_at w w.heap.size hk).gm, (zeroHC_at w w.heap.size hk).mc, (zeroHC_at w w.heap.size hk).mm, HD1.out.kk, (zeroHC_at w w.heap.size hk).bk, (zeroHC_at w w.heap.size hk).bb, (zeroHC_at w w.heap.size hk).ig, (zeroHC_at w w.heap.size hk).im, (zeroHC_at w w.heap.size hk).a1, (zeroHC_at w w.heap.size hk).a2, HD1.out.a3, HD1.out.a4, (zeroHC_at w w.heap.size hk).a5, (zeroHC_at w w.heap.size hk).a6, (zeroHC_at w w.heap.size hk).a7⟩, ?E3⟩
          case E1 => exact PK.out
          case E3 => exact below_set12 BY.out (by omega) _ _ _ _ _ _ _ _ _ _ _ _
    · have HK := Lib.hid h
      clear h
      have q0 : (D.k == 0) = false := beq_eq_false_iff_ne.2 (by have := HK.out; omega)
      have q1 : (D.k == 1) = false := beq_eq_false_iff_ne.2 (by have := HK.out; omega)
      have q2 : (D.k == 2) = false := beq_eq_false_iff_ne.2 (by have := HK.out; omega)
      have q3 : (D.k == 3) = true := beq_iff_eq.2 (by have := HK.out; omega)
      have q4 : (D.k == 4) = false := beq_eq_false_iff_ne.2 (by have := HK.out; omega)
      have q5 : (D.k == 5) = false := beq_eq_false_iff_ne.2 (by have := HK.out; omega)
      have q6 : (D.k == 6) = false := beq_eq_false_iff_ne.2 (by have := HK.out; omega)
      have PK : Hid (HC.cmd ⟨D.k, 0, none, 0, 0, [], 0, ⟨#[]⟩, ⟨#[]⟩, 0, 0, D.MA, D.Mn, D.Mc, D.mem, 0, 0, 0⟩ = Cp.plainC D.cmd) := (Cp.plain_3 (c := D.cmd) HK.out).symm
      go_wp2_with fail
      clear c0 c1 c2 c3 c4 c5 c6 c7 c8 c9 c10 c11
      have X1 : Hid (Blk (wc.setCell ⟨w.heap.size + 1 + 1, 8, none⟩ (.slice D.MA D.Mn D.Mc)) w.heap.size 26 #[.int .u8 D.k, .int .i64 D.mi, .slice D.GA D.Gn D.Gc, .int .i64 D.mt, .string D.key, .string D.body, .int .i64 D.i, .int .i64 D.tm, .slice D.MA D.Mn D.Mc, .int .i64 D.tp, .int .i64 D.who, .int .i64 D.n]) := (Blk.far K1.out (p := ⟨w.heap.size + 1 + 1, 8, none⟩) (by show w.heap.size ≠ w.heap.size + 1 + 1; omega) (.slice D.MA D.Mn D.Mc))
      have X2 : Hid (Blk (wc.setCell ⟨w.heap.size + 1 + 1, 8, none⟩ (.slice D.MA D.Mn D.Mc)) (w.heap.size + 1) 26 #[.int .u8 0, .int .i64 0, .slice none 0 0, .int .i64 0, .string ⟨#[]⟩, .string ⟨#[]⟩, .int .i64 0, .int .i64 0, .slice none 0 0, .int .i64 0, .int .i64 0, .int .i64 0]) := (Blk.far K2.out (p := ⟨w.heap.size + 1 + 1, 8, none⟩) (by show w.heap.size + 1 ≠ w.heap.size + 1 + 1; omega) (.slice D.MA D.Mn D.Mc))
      have X4 : Hid (Blk (wc.setCell ⟨w.heap.size + 1 + 1, 8, none⟩ (.slice D.MA D.Mn D.Mc)) (w.heap.size + 1 + 1) 26 #[.int .u8 D.k, .int .i64 0, .slice none 0 0, .int .i64 0, .string ⟨#[]⟩, .string ⟨#[]⟩, .int .i64 0, .int .i64 0, .slice D.MA D.Mn D.Mc, .int .i64 0, .int .i64 0, .int .i64 0]) := (K4.out.set_ 8 (.slice D.MA D.Mn D.Mc))
      have BX : Hid (Below w.heap.size w (wc.setCell ⟨w.heap.size + 1 + 1, 8, none⟩ (.slice D.MA D.Mn D.Mc))) := (Below.setCell B0.out (by show w.heap.size ≤ w.heap.size + 1 + 1; omega) _)
      clear p0 r0 p1 r1 p2 r2 p3 r3 p4 r4 p5 r5 p6 r6 p7 r7 p8 r8 p9 r9 p10 r10 p11 r11 fr fp K1 K2 K4 B0 HW HD0 hz
      generalize (wc.setCell ⟨w.heap.size + 1 + 1, 8, none⟩ (.slice D.MA D.Mn D.Mc)) = X at *
      have hzX : w.heap.size + 3 ≤ X.heap.size := by have := X4.out.lt; omega
      have p0 := X4.out.cell 0
      have p1 := X4.out.cell 1
      have p2 := X4.out.cell 2
      have p3 := X4.out.cell 3
      have p4 := X4.out.cell 4
      have p5 := X4.out.cell 5
      have p6 := X4.out.cell 6
      have p7 := X4.out.cell 7
      have p8 := X4.out.cell 8
      have p9 := X4.out.cell 9
      have p10 := X4.out.cell 10
      have p11 := X4.out.cell 11
      have c8 := X1.out.cell 8
      have HS : Hid ((fun w' => w'.cell? ⟨w.heap.size + 1 + 1, 0, none⟩ = some (.int .u8 D.k) ∧ w'.cell? ⟨w.heap.size + 1 + 1, 1, none⟩ = some (.int .i64 0) ∧ w'.cell? ⟨w.heap.size + 1 + 1, 2, none⟩ = some (.slice none 0 0) ∧ w'.cell? ⟨w.heap.size + 1 + 1, 3, none⟩ = some (.int .i64 0) ∧ w'.cell? ⟨w.heap.size + 1 + 1, 4, none⟩ = some (.string ⟨#[]⟩) ∧ w'.cell? ⟨w.heap.size + 1 + 1, 5, none⟩ = some (.string ⟨#[]⟩) ∧ w'.cell? ⟨w.heap.size + 1 + 1, 6, none⟩ = some (.int .i64 0) ∧ w'.cell? ⟨w.heap.size + 1 + 1, 7, none⟩ = some (.int .i64 0) ∧ w'.cell? ⟨w.heap.size + 1 + 1, 8, none⟩ = some (.slice D.MA D.Mn D.Mc) ∧ w'.cell? ⟨w.heap.size + 1 + 1, 9, none⟩ = some (.int .i64 0) ∧ w'.cell? ⟨w.heap.size + 1 + 1, 10, none⟩ = some (.int .i64 0) ∧ w'.cell? ⟨w.heap.size + 1 + 1, 11, none⟩ = some (.int .i64 0) ∧ w'.cell? ⟨w.heap.size, 8, none⟩ = some (.slice D.MA D.Mn D.Mc)) X.drew) := ⟨X4.out.cell 0, X4.out.cell 1, X4.out.cell 2, X4.out.cell 3, X4.out.cell 4, X4.out.cell 5, X4.out.cell 6, X4.out.cell 7, X4.out.cell 8, X4.out.cell 9, X4.out.cell 10, X4.out.cell 11, X1.out.cell 8⟩
      refine T_region 6 (fun w' => w'.cell? ⟨w.heap.size + 1 + 1, 0, none⟩ = some (.int .u8 D.k) ∧ w'.cell? ⟨w.heap.size + 1 + 1, 1, none⟩ = some (.int .i64 0) ∧ w'.cell? ⟨w.heap.size + 1 + 1, 2, none⟩ = some (.slice none 0 0) ∧ w'.cell? ⟨w.heap.size + 1 + 1, 3, none⟩ = some (.int .i64 0) ∧ w'.cell? ⟨w.heap.size + 1 + 1, 4, none⟩ = some (.string ⟨#[]⟩) ∧ w'.cell? ⟨w.heap.size + 1 + 1, 5, none⟩ = some (.string ⟨#[]⟩) ∧ w'.cell? ⟨w.heap.size + 1 + 1, 6, none⟩ = some (.int .i64 0) ∧ w'.cell? ⟨w.heap.size + 1 + 1, 7, none⟩ = some (.int .i64 0) ∧ w'.cell? ⟨w.heap.size + 1 + 1, 8, none⟩ = some (.slice D.MA D.Mn D.Mc) ∧ w'.cell? ⟨w.heap.size + 1 + 1, 9, none⟩ = some (.int .i64 0) ∧ w'.cell? ⟨w.heap.size + 1 + 1, 10, none⟩ = some (.int .i64 0) ∧ w'.cell? ⟨w.heap.size + 1 + 1, 11, none⟩ = some (.int .i64 0) ∧ w'.cell? ⟨w.heap.size, 8, none⟩ = some (.slice D.MA D.Mn D.Mc)) (by kernel_rfl) (by kernel_rfl) ?_
      refine T_takeL (i := 0) (v := ?_) rfl (by kernel_rfl) (fun _ _ _ h => h) (Or.inl ⟨by rfl, ?_⟩) HS.out ?_
      rotate_left
      · ((intro w hSw; (try dsimp only at hSw); go_simp) <;> with_reducible rfl)
      try simp only [Act.put, List.setIfInBounds_toArray, List.set_cons_zero, List.set_cons_succ]
      refine T_takeL (i := 1) (v := ?_) rfl (by kernel_rfl) (fun _ _ _ h => h) (Or.inl ⟨by rfl, ?_⟩) HS.out ?_
      rotate_left
      · ((intro w hSw; (try dsimp only at hSw); go_simp) <;> with_reducible rfl)
      try simp only [Act.put, List.setIfInBounds_toArray, List.set_cons_zero, List.set_cons_succ]
      refine T_takeL (i := 2) (v := ?_) rfl (by kernel_rfl) (fun _ _ _ h => h) (Or.inl ⟨by rfl, ?_⟩) HS.out ?_
      rotate_left
      · ((intro w hSw; (try dsimp only at hSw); go_simp) <;> with_reducible rfl)
      try simp only [Act.put, List.setIfInBounds_toArray, List.set_cons_zero, List.set_cons_succ]
      refine T_one (i := 3) rfl (by kernel_rfl) ?_
      have HDX := Lib.hid ((HD1.out.below (Below.drew BX.out)).more (Below.drew BX.out).size)
      obtain ⟨v, hv⟩ : ∃ v, Qm.check D.mem = v := ⟨_, rfl⟩
      have HV := Lib.hid hv
      go_wp2_with fail
      refine (qcheck_any D.MA D.Mn D.Mc _ D.mem _ HDX.out.rm HDX.out.lm).mono ?_
      rintro e w' ⟨rfl, rfl⟩
      rw [hv]
      clear hv
      go_wp2_with fail
      simp only [Qn]
      refine ⟨HS.out, ?_⟩
      have Y1 := Lib.hid X1.out.drew
      have Y2 := Lib.hid X2.out.drew
      have Y4 := Lib.hid X4.out.drew
      have BY := Lib.hid (Below.drew BX.out)
      have HS1 := Lib.hid HS.out
      have hzY : w.heap.size + 3 ≤ X.drew.heap.size := hzX
      generalize X.drew = Y at *
      clear HDX HS X1 X2 X4 BX p0 p1 p2 p3 p4 p5 p6 p7 p8 p9 p10 p11 c8
      have HS2 : Hid ((fun w' => w'.cell? ⟨w.heap.size + 1 + 1, 0, none⟩ = some (.int .u8 D.k) ∧ w'.cell? ⟨w.heap.size + 1 + 1, 1, none⟩ = some (.int .i64 0) ∧ w'.cell? ⟨w.heap.size + 1 + 1, 2, none⟩ = some (.slice none 0 0) ∧ w'.cell? ⟨w.heap.size + 1 + 1, 3, none⟩ = some (.int .i64 0) ∧ w'.cell? ⟨w.heap.size + 1 + 1, 4, none⟩ = some (.string ⟨#[]⟩) ∧ w'.cell? ⟨w.heap.size + 1 + 1, 5, none⟩ = some (.string ⟨#[]⟩) ∧ w'.cell? ⟨w.heap.size + 1 + 1, 6, none⟩ = some (.int .i64 0) ∧ w'.cell? ⟨w.heap.size + 1 + 1, 7, none⟩ = some (.int .i64 0) ∧ w'.cell? ⟨w.heap.size + 1 + 1, 8, none⟩ = some (.slice D.MA D.Mn D.Mc) ∧ w'.cell? ⟨w.heap.size + 1 + 1, 9, none⟩ = some (.int .i64 0) ∧ w'.cell? ⟨w.heap.size + 1 + 1, 10, none⟩ = some (.int .i64 0) ∧ w'.cell? ⟨w.heap.size + 1 + 1, 11, none⟩ = some (.int .i64 0) ∧ w'.cell? ⟨w.heap.size, 8, none⟩ = some (.slice D.MA D.Mn D.Mc)) ((((((((((((Y.setCell ⟨w.heap.size + 1, 0, none⟩ (.int .u8 D.k)).setCell ⟨w.heap.size + 1, 1, none⟩ (.int .i64 0)).setCell ⟨w.heap.size + 1, 2, none⟩ (.slice none 0 0)).setCell ⟨w.heap.size + 1, 3, none⟩ (.int .i64 0)).setCell ⟨w.heap.size + 1, 4, none⟩ (.string ⟨#[]⟩)).setCell ⟨w.heap.size + 1, 5, none⟩ (.string ⟨#[]⟩)).setCell ⟨w.heap.size + 1, 6, none⟩ (.int .i64 0)).setCell ⟨w.heap.size + 1, 7, none⟩ (.int .i64 0)).setCell ⟨w.heap.size + 1, 8, none⟩ (.slice D.MA D.Mn D.Mc)).setCell ⟨w.heap.size + 1, 9, none⟩ (.int .i64 0)).setCell ⟨w.heap.size + 1, 10, none⟩ (.int .i64 0)).setCell ⟨w.heap.size + 1, 11, none⟩ (.int .i64 0))) := ⟨(blk_far12 Y4.out (by show w.heap.size + 1 + 1 ≠ w.heap.size + 1; omega) _ _ _ _ _ _ _ _ _ _ _ _).cell 0, (blk_far12 Y4.out (by show w.heap.size + 1 + 1 ≠ w.heap.size + 1; omega) _ _ _ _ _ _ _ _ _ _ _ _).cell 1, (blk_far12 Y4.out (by show w.heap.size + 1 + 1 ≠ w.heap.size + 1; omega) _ _ _ _ _ _ _ _ _ _ _ _).cell 2, (blk_far12 Y4.out (by show w.heap.size + 1 + 1 ≠ w.heap.size + 1; omega) _ _ _ _ _ _ _ _ _ _ _ _).cell 3, (blk_far12 Y4.out (by show w.heap.size + 1 + 1 ≠ w.heap.size + 1; omega) _ _ _ _ _ _ _ _ _ _ _ _).cell 4, (blk_far12 Y4.out (by show w.heap.size + 1 + 1 ≠ w.heap.size + 1; omega) _ _ _ _ _ _ _ _ _ _ _ _).cell 5, (blk_far12 Y4.out (by show w.heap.size + 1 + 1 ≠ w.heap.size + 1; omega) _ _ _ _ _ _ _ _ _ _ _ _).cell 6, (blk_far12 Y4.out (by show w.heap.size + 1 + 1 ≠ w.heap.size + 1; omega) _ _ _ _ _ _ _ _ _ _ _ _).cell 7, (blk_far12 Y4.out (by show w.heap.size + 1 + 1 ≠ w.heap.size + 1; omega) _ _ _ _ _ _ _ _ _ _ _ _).cell 8, (blk_far12 Y4.out (by show w.heap.size + 1 + 1 ≠ w.heap.size + 1; omega) _ _ _ _ _ _ _ _ _ _ _ _).cell 9, (blk_far12 Y4.out (by show w.heap.size + 1 + 1 ≠ w.heap.size + 1; omega) _ _ _ _ _ _ _ _ _ _ _ _).cell 10, (blk_far12 Y4.out (by show w.heap.size + 1 + 1 ≠ w.heap.size + 1; omega) _ _ _ _ _ _ _ _ _ _ _ _).cell 11, (blk_far12 Y1.out (by show w.heap.size ≠ w.heap.size + 1; omega) _ _ _ _ _ _ _ _ _ _ _ _).cell 8⟩
      have r0 := Y2.out.cell 0
      have r1 := Y2.out.cell 1
      have r2 := Y2.out.cell 2
      have r3 := Y2.out.cell 3
      have r4 := Y2.out.cell 4
      have r5 := Y2.out.cell 5
      have r6 := Y2.out.cell 6
      have r7 := Y2.out.cell 7
      have r8 := Y2.out.cell 8
      have r9 := Y2.out.cell 9
      have r10 := Y2.out.cell 10
      have r11 := Y2.out.cell 11
      have fr := Y2.out.frozen
      obtain ⟨b, hb⟩ : ∃ b, (v == 0) = b := ⟨_, rfl⟩
      have HBV := Lib.hid hb
      
      refine T_two (i := 4) (j := 5) rfl rfl (by kernel_rfl) ?_ ?_
      · go_wp2_with fail
        simp only [Qn]
        refine ⟨HS1.out, ?_⟩
        refine T_one (i := 5) rfl (by kernel_rfl) ?_
        go_wp2_with fail
        simp only [Qn]
        refine ⟨HS2.out, ?_⟩
        refine T_end (by kernel_rfl) ?_
        go_wp2_with fail
        have FK : Hid (Cp.okK D.cmd = b) := by rw [Hid, Cp.okK_3 HK.out, show Qm.check D.cmd.mem = v from HV.out, HBV.out]
        rw [FK.out]
        refine bodyPost_ret (v := .tuple #[.agg #[.int .u8 D.k, .int .i64 0, .slice none 0 0, .int .i64 0, .string ⟨#[]⟩, .string ⟨#[]⟩, .int .i64 0, .int .i64 0, .slice D.MA D.Mn D.Mc, .int .i64 0, .int .i64 0, .int .i64 0], .bool b]) (by simp [results, Try.results50, go_sem, r0, r1, r2, r3, r4, r5, r6, r7, r8, r9, r10, r11]) rfl ⟨⟨D.k, 0, none, 0, 0, [], 0, ⟨#[]⟩, ⟨#[]⟩, 0, 0, D.MA, D.Mn, D.Mc, D.mem, 0, 0, 0⟩, rfl, ?E1, ⟨(zeroHC_at w w.heap.size hk).rg, HD1.out.rm, (zeroHC_at w w.heap.size hk).gc, (zeroHC_at w w.heap.size hk).gm, HD1.out.mc, HD1.out.mm, HD1.out.kk, (zeroHC_at w w.heap.size hk).bk, (zeroHC_at w w.heap.size hk).bb, (zeroHC_at w w.heap.size hk).ig, HD1.out.im, (zeroHC_at w w.heap.size hk).a1, (zeroHC_at w w.heap.size hk).a2, (zeroHC_at w w.heap.size hk).a3, (zeroHC_at w w.heap.size hk).a4, (zeroHC_at w w.heap.size hk).a5, (zeroHC_at w w.heap.size hk).a6, (zeroHC_at w w.heap.size hk).a7⟩, ?E3⟩
        case E1 => exact PK.out
        case E3 => exact below_set12 BY.out (by omega) _ _ _ _ _ _ _ _ _ _ _ _
      · go_wp2_with fail
        simp only [Qn]
        refine ⟨HS2.out, ?_⟩
        refine T_one (i := 4) rfl (by kernel_rfl) ?_
        go_wp2_with fail
        simp only [Qn]
        refine ⟨HS2.out, ?_⟩
        refine T_end (by kernel_rfl) ?_
        go_wp2_with fail
        have FK : Hid (Cp.okK D.cmd = b) := by rw [Hid, Cp.okK_3 HK.out, show Qm.check D.cmd.mem = v from HV.out, HBV.out]
        rw [FK.out]
        refine bodyPost_ret (v := .tuple #[.agg #[.int .u8 D.k, .int .i64 0, .slice none 0 0, .int .i64 0, .string ⟨#[]⟩, .string ⟨#[]⟩, .int .i64 0, .int .i64 0, .slice D.MA D.Mn D.Mc, .int .i64 0, .int .i64 0, .int .i64 0], .bool b]) (by simp [results, Try.results50, go_sem, r0, r1, r2, r3, r4, r5, r6, r7, r8, r9, r10, r11]) rfl ⟨⟨D.k, 0, none, 0, 0, [], 0, ⟨#[]⟩, ⟨#[]⟩, 0, 0, D.MA, D.Mn, D.Mc, D.mem, 0, 0, 0⟩, rfl, ?E1, ⟨(zeroHC_at w w.heap.size hk).rg, HD1.out.rm, (zeroHC_at w w.heap.size hk).gc, (zeroHC_at w w.heap.size hk).gm, HD1.out.mc, HD1.out.mm, HD1.out.kk, (zeroHC_at w w.heap.size hk).bk, (zeroHC_at w w.heap.size hk).bb, (zeroHC_at w w.heap.size hk).ig, HD1.out.im, (zeroHC_at w w.heap.size hk).a1, (zeroHC_at w w.heap.size hk).a2, (zeroHC_at w w.heap.size hk).a3, (zeroHC_at w w.heap.size hk).a4, (zeroHC_at w w.heap.size hk).a5, (zeroHC_at w w.heap.size hk).a6, (zeroHC_at w w.heap.size hk).a7⟩, ?E3⟩
        case E1 => exact PK.out
        case E3 => exact below_set12 BY.out (by omega) _ _ _ _ _ _ _ _ _ _ _ _
    · have HK := Lib.hid h
      clear h
      have q0 : (D.k == 0) = false := beq_eq_false_iff_ne.2 (by have := HK.out; omega)
      have q1 : (D.k == 1) = false := beq_eq_false_iff_ne.2 (by have := HK.out; omega)
      have q2 : (D.k == 2) = false := beq_eq_false_iff_ne.2 (by have := HK.out; omega)
      have q3 : (D.k == 3) = false := beq_eq_false_iff_ne.2 (by have := HK.out; omega)
      have q4 : (D.k == 4) = true := beq_iff_eq.2 (by have := HK.out; omega)
      have q5 : (D.k == 5) = false := beq_eq_false_iff_ne.2 (by have := HK.out; omega)
      have q6 : (D.k == 6) = false := beq_eq_false_iff_ne.2 (by have := HK.out; omega)
      have PK : Hid (HC.cmd ⟨D.k, 0, none, 0, 0, [], 0, ⟨#[]⟩, ⟨#[]⟩, D.i, 0, none, 0, 0, [], D.tp, D.who, D.n⟩ = Cp.plainC D.cmd) := (Cp.plain_4 (c := D.cmd) HK.out).symm
      cases T with
      | false =>
        go_wp2_with fail
        clear c0 c1 c2 c3 c4 c5 c7 c8 c10
        go_region_held3 (fun w' => w'.cell? ⟨w.heap.size, 6, none⟩ = some (.int .i64 D.i) ∧ w'.cell? ⟨w.heap.size, 9, none⟩ = some (.int .i64 D.tp) ∧ w'.cell? ⟨w.heap.size, 11, none⟩ = some (.int .i64 D.n)) (simp [go_sem, c6, c9, c11]) (fail)
        clear c6 c9 c11
        have X1 : Hid (Blk ((((wc.setCell ⟨w.heap.size + 1 + 1, 10, none⟩ (.int .i64 D.who)).setCell ⟨w.heap.size + 1 + 1, 6, none⟩ (.int .i64 D.i)).setCell ⟨w.heap.size + 1 + 1, 9, none⟩ (.int .i64 D.tp)).setCell ⟨w.heap.size + 1 + 1, 11, none⟩ (.int .i64 D.n)).drew w.heap.size 26 #[.int .u8 D.k, .int .i64 D.mi, .slice D.GA D.Gn D.Gc, .int .i64 D.mt, .string D.key, .string D.body, .int .i64 D.i, .int .i64 D.tm, .slice D.MA D.Mn D.Mc, .int .i64 D.tp, .int .i64 D.who, .int .i64 D.n]) := (Blk.far (Blk.far (Blk.far (Blk.far K1.out (p := ⟨w.heap.size + 1 + 1, 10, none⟩) (by show w.heap.size ≠ w.heap.size + 1 + 1; omega) (.int .i64 D.who)) (p := ⟨w.heap.size + 1 + 1, 6, none⟩) (by show w.heap.size ≠ w.heap.size + 1 + 1; omega) (.int .i64 D.i)) (p := ⟨w.heap.size + 1 + 1, 9, none⟩) (by show w.heap.size ≠ w.heap.size + 1 + 1; omega) (.int .i64 D.tp)) (p := ⟨w.heap.size + 1 + 1, 11, none⟩) (by show w.heap.size ≠ w.heap.size + 1 + 1; omega) (.int .i64 D.n))
        have X2 : Hid (Blk ((((wc.setCell ⟨w.heap.size + 1 + 1, 10, none⟩ (.int .i64 D.who)).setCell ⟨w.heap.size + 1 + 1, 6, none⟩ (.int .i64 D.i)).setCell ⟨w.heap.size + 1 + 1, 9, none⟩ (.int .i64 D.tp)).setCell ⟨w.heap.size + 1 + 1, 11, none⟩ (.int .i64 D.n)).drew (w.heap.size + 1) 26 #[.int .u8 0, .int .i64 0, .slice none 0 0, .int .i64 0, .string ⟨#[]⟩, .string ⟨#[]⟩, .int .i64 0, .int .i64 0, .slice none 0 0, .int .i64 0, .int .i64 0, .int .i64 0]) := (Blk.far (Blk.far (Blk.far (Blk.far K2.out (p := ⟨w.heap.size + 1 + 1, 10, none⟩) (by show w.heap.size + 1 ≠ w.heap.size + 1 + 1; omega) (.int .i64 D.who)) (p := ⟨w.heap.size + 1 + 1, 6, none⟩) (by show w.heap.size + 1 ≠ w.heap.size + 1 + 1; omega) (.int .i64 D.i)) (p := ⟨w.heap.size + 1 + 1, 9, none⟩) (by show w.heap.size + 1 ≠ w.heap.size + 1 + 1; omega) (.int .i64 D.tp)) (p := ⟨w.heap.size + 1 + 1, 11, none⟩) (by show w.heap.size + 1 ≠ w.heap.size + 1 + 1; omega) (.int .i64 D.n))
        have X4 : Hid (Blk ((((wc.setCell ⟨w.heap.size + 1 + 1, 10, none⟩ (.int .i64 D.who)).setCell ⟨w.heap.size + 1 + 1, 6, none⟩ (.int .i64 D.i)).setCell ⟨w.heap.size + 1 + 1, 9, none⟩ (.int .i64 D.tp)).setCell ⟨w.heap.size + 1 + 1, 11, none⟩ (.int .i64 D.n)).drew (w.heap.size + 1 + 1) 26 #[.int .u8 D.k, .int .i64 0, .slice none 0 0, .int .i64 0, .string ⟨#[]⟩, .string ⟨#[]⟩, .int .i64 D.i, .int .i64 0, .slice none 0 0, .int .i64 D.tp, .int .i64 D.who, .int .i64 D.n]) := ((((K4.out.set_ 10 (.int .i64 D.who)).set_ 6 (.int .i64 D.i)).set_ 9 (.int .i64 D.tp)).set_ 11 (.int .i64 D.n))
        have BX : Hid (Below w.heap.size w ((((wc.setCell ⟨w.heap.size + 1 + 1, 10, none⟩ (.int .i64 D.who)).setCell ⟨w.heap.size + 1 + 1, 6, none⟩ (.int .i64 D.i)).setCell ⟨w.heap.size + 1 + 1, 9, none⟩ (.int .i64 D.tp)).setCell ⟨w.heap.size + 1 + 1, 11, none⟩ (.int .i64 D.n)).drew) := (Below.drew (Below.setCell (Below.setCell (Below.setCell (Below.setCell B0.out (by show w.heap.size ≤ w.heap.size + 1 + 1; omega) _) (by show w.heap.size ≤ w.heap.size + 1 + 1; omega) _) (by show w.heap.size ≤ w.heap.size + 1 + 1; omega) _) (by show w.heap.size ≤ w.heap.size + 1 + 1; omega) _))
        clear p0 r0 p1 r1 p2 r2 p3 r3 p4 r4 p5 r5 p6 r6 p7 r7 p8 r8 p9 r9 p10 r10 p11 r11 fr fp K1 K2 K4 B0 HW HD0 hz
        generalize ((((wc.setCell ⟨w.heap.size + 1 + 1, 10, none⟩ (.int .i64 D.who)).setCell ⟨w.heap.size + 1 + 1, 6, none⟩ (.int .i64 D.i)).setCell ⟨w.heap.size + 1 + 1, 9, none⟩ (.int .i64 D.tp)).setCell ⟨w.heap.size + 1 + 1, 11, none⟩ (.int .i64 D.n)).drew = X at *
        have hzX : w.heap.size + 3 ≤ X.heap.size := by have := X4.out.lt; omega
        have p0 := X4.out.cell 0
        have p1 := X4.out.cell 1
        have p2 := X4.out.cell 2
        have p3 := X4.out.cell 3
        have p4 := X4.out.cell 4
        have p5 := X4.out.cell 5
        have p6 := X4.out.cell 6
        have p7 := X4.out.cell 7
        have p8 := X4.out.cell 8
        have p9 := X4.out.cell 9
        have p10 := X4.out.cell 10
        have p11 := X4.out.cell 11
        have r0 := X2.out.cell 0
        have r1 := X2.out.cell 1
        have r2 := X2.out.cell 2
        have r3 := X2.out.cell 3
        have r4 := X2.out.cell 4
        have r5 := X2.out.cell 5
        have r6 := X2.out.cell 6
        have r7 := X2.out.cell 7
        have r8 := X2.out.cell 8
        have r9 := X2.out.cell 9
        have r10 := X2.out.cell 10
        have r11 := X2.out.cell 11
        have fr := X2.out.frozen
        go_wp2_with fail
        have FK : Hid (Cp.okK D.cmd = false) := by rw [Hid, Cp.okK_4 HK.out, show (Wp.idB D.cmd.i && (Cp.inB 0 3 D.cmd.tp && Cp.inB 0 1073741824 D.cmd.n)) = false from HT.out]; rfl
        rw [FK.out]
        refine bodyPost_ret (v := .tuple #[.agg #[.int .u8 D.k, .int .i64 0, .slice none 0 0, .int .i64 0, .string ⟨#[]⟩, .string ⟨#[]⟩, .int .i64 D.i, .int .i64 0, .slice none 0 0, .int .i64 D.tp, .int .i64 D.who, .int .i64 D.n], .bool false]) (by simp [results, Try.results50, go_sem, r0, r1, r2, r3, r4, r5, r6, r7, r8, r9, r10, r11]) rfl ⟨⟨D.k, 0, none, 0, 0, [], 0, ⟨#[]⟩, ⟨#[]⟩, D.i, 0, none, 0, 0, [], D.tp, D.who, D.n⟩, rfl, ?E1, ⟨(zeroHC_at w w.heap.size hk).rg, (zeroHC_at w w.heap.size hk).rm, (zeroHC_at w w.heap.size hk).gc, (zeroHC_at w w.heap.size hk).gm, (zeroHC_at w w.heap.size hk).mc, (zeroHC_at w w.heap.size hk).mm, HD1.out.kk, (zeroHC_at w w.heap.size hk).bk, (zeroHC_at w w.heap.size hk).bb, (zeroHC_at w w.heap.size hk).ig, (zeroHC_at w w.heap.size hk).im, (zeroHC_at w w.heap.size hk).a1, (zeroHC_at w w.heap.size hk).a2, HD1.out.a3, (zeroHC_at w w.heap.size hk).a4, HD1.out.a5, HD1.out.a6, HD1.out.a7⟩, ?E3⟩
        case E1 => exact PK.out
        case E3 => exact below_set12 BX.out (by omega) _ _ _ _ _ _ _ _ _ _ _ _
      | true =>
        obtain ⟨b, hb⟩ : ∃ b, Cp.inB 0 7 D.who = b := ⟨_, rfl⟩
        have HBB := Lib.hid hb
        clear hb
        go_wp2_with fail
        refine (cin_any D.who 0 7 _ b HBB.out).mono ?_
        rintro e w' ⟨rfl, rfl⟩
        go_wp2_with fail
        clear c0 c1 c2 c3 c4 c5 c7 c8 c10
        go_region_held3 (fun w' => w'.cell? ⟨w.heap.size, 6, none⟩ = some (.int .i64 D.i) ∧ w'.cell? ⟨w.heap.size, 9, none⟩ = some (.int .i64 D.tp) ∧ w'.cell? ⟨w.heap.size, 11, none⟩ = some (.int .i64 D.n)) (simp [go_sem, c6, c9, c11]) (fail)
        clear c6 c9 c11
        have X1 : Hid (Blk ((((wc.setCell ⟨w.heap.size + 1 + 1, 10, none⟩ (.int .i64 D.who)).setCell ⟨w.heap.size + 1 + 1, 6, none⟩ (.int .i64 D.i)).setCell ⟨w.heap.size + 1 + 1, 9, none⟩ (.int .i64 D.tp)).setCell ⟨w.heap.size + 1 + 1, 11, none⟩ (.int .i64 D.n)).drew w.heap.size 26 #[.int .u8 D.k, .int .i64 D.mi, .slice D.GA D.Gn D.Gc, .int .i64 D.mt, .string D.key, .string D.body, .int .i64 D.i, .int .i64 D.tm, .slice D.MA D.Mn D.Mc, .int .i64 D.tp, .int .i64 D.who, .int .i64 D.n]) := (Blk.far (Blk.far (Blk.far (Blk.far K1.out (p := ⟨w.heap.size + 1 + 1, 10, none⟩) (by show w.heap.size ≠ w.heap.size + 1 + 1; omega) (.int .i64 D.who)) (p := ⟨w.heap.size + 1 + 1, 6, none⟩) (by show w.heap.size ≠ w.heap.size + 1 + 1; omega) (.int .i64 D.i)) (p := ⟨w.heap.size + 1 + 1, 9, none⟩) (by show w.heap.size ≠ w.heap.size + 1 + 1; omega) (.int .i64 D.tp)) (p := ⟨w.heap.size + 1 + 1, 11, none⟩) (by show w.heap.size ≠ w.heap.size + 1 + 1; omega) (.int .i64 D.n))
        have X2 : Hid (Blk ((((wc.setCell ⟨w.heap.size + 1 + 1, 10, none⟩ (.int .i64 D.who)).setCell ⟨w.heap.size + 1 + 1, 6, none⟩ (.int .i64 D.i)).setCell ⟨w.heap.size + 1 + 1, 9, none⟩ (.int .i64 D.tp)).setCell ⟨w.heap.size + 1 + 1, 11, none⟩ (.int .i64 D.n)).drew (w.heap.size + 1) 26 #[.int .u8 0, .int .i64 0, .slice none 0 0, .int .i64 0, .string ⟨#[]⟩, .string ⟨#[]⟩, .int .i64 0, .int .i64 0, .slice none 0 0, .int .i64 0, .int .i64 0, .int .i64 0]) := (Blk.far (Blk.far (Blk.far (Blk.far K2.out (p := ⟨w.heap.size + 1 + 1, 10, none⟩) (by show w.heap.size + 1 ≠ w.heap.size + 1 + 1; omega) (.int .i64 D.who)) (p := ⟨w.heap.size + 1 + 1, 6, none⟩) (by show w.heap.size + 1 ≠ w.heap.size + 1 + 1; omega) (.int .i64 D.i)) (p := ⟨w.heap.size + 1 + 1, 9, none⟩) (by show w.heap.size + 1 ≠ w.heap.size + 1 + 1; omega) (.int .i64 D.tp)) (p := ⟨w.heap.size + 1 + 1, 11, none⟩) (by show w.heap.size + 1 ≠ w.heap.size + 1 + 1; omega) (.int .i64 D.n))
        have X4 : Hid (Blk ((((wc.setCell ⟨w.heap.size + 1 + 1, 10, none⟩ (.int .i64 D.who)).setCell ⟨w.heap.size + 1 + 1, 6, none⟩ (.int .i64 D.i)).setCell ⟨w.heap.size + 1 + 1, 9, none⟩ (.int .i64 D.tp)).setCell ⟨w.heap.size + 1 + 1, 11, none⟩ (.int .i64 D.n)).drew (w.heap.size + 1 + 1) 26 #[.int .u8 D.k, .int .i64 0, .slice none 0 0, .int .i64 0, .string ⟨#[]⟩, .string ⟨#[]⟩, .int .i64 D.i, .int .i64 0, .slice none 0 0, .int .i64 D.tp, .int .i64 D.who, .int .i64 D.n]) := ((((K4.out.set_ 10 (.int .i64 D.who)).set_ 6 (.int .i64 D.i)).set_ 9 (.int .i64 D.tp)).set_ 11 (.int .i64 D.n))
        have BX : Hid (Below w.heap.size w ((((wc.setCell ⟨w.heap.size + 1 + 1, 10, none⟩ (.int .i64 D.who)).setCell ⟨w.heap.size + 1 + 1, 6, none⟩ (.int .i64 D.i)).setCell ⟨w.heap.size + 1 + 1, 9, none⟩ (.int .i64 D.tp)).setCell ⟨w.heap.size + 1 + 1, 11, none⟩ (.int .i64 D.n)).drew) := (Below.drew (Below.setCell (Below.setCell (Below.setCell (Below.setCell B0.out (by show w.heap.size ≤ w.heap.size + 1 + 1; omega) _) (by show w.heap.size ≤ w.heap.size + 1 + 1; omega) _) (by show w.heap.size ≤ w.heap.size + 1 + 1; omega) _) (by show w.heap.size ≤ w.heap.size + 1 + 1; omega) _))
        clear p0 r0 p1 r1 p2 r2 p3 r3 p4 r4 p5 r5 p6 r6 p7 r7 p8 r8 p9 r9 p10 r10 p11 r11 fr fp K1 K2 K4 B0 HW HD0 hz
        generalize ((((wc.setCell ⟨w.heap.size + 1 + 1, 10, none⟩ (.int .i64 D.who)).setCell ⟨w.heap.size + 1 + 1, 6, none⟩ (.int .i64 D.i)).setCell ⟨w.heap.size + 1 + 1, 9, none⟩ (.int .i64 D.tp)).setCell ⟨w.heap.size + 1 + 1, 11, none⟩ (.int .i64 D.n)).drew = X at *
        have hzX : w.heap.size + 3 ≤ X.heap.size := by have := X4.out.lt; omega
        have p0 := X4.out.cell 0
        have p1 := X4.out.cell 1
        have p2 := X4.out.cell 2
        have p3 := X4.out.cell 3
        have p4 := X4.out.cell 4
        have p5 := X4.out.cell 5
        have p6 := X4.out.cell 6
        have p7 := X4.out.cell 7
        have p8 := X4.out.cell 8
        have p9 := X4.out.cell 9
        have p10 := X4.out.cell 10
        have p11 := X4.out.cell 11
        have r0 := X2.out.cell 0
        have r1 := X2.out.cell 1
        have r2 := X2.out.cell 2
        have r3 := X2.out.cell 3
        have r4 := X2.out.cell 4
        have r5 := X2.out.cell 5
        have r6 := X2.out.cell 6
        have r7 := X2.out.cell 7
        have r8 := X2.out.cell 8
        have r9 := X2.out.cell 9
        have r10 := X2.out.cell 10
        have r11 := X2.out.cell 11
        have fr := X2.out.frozen
        go_wp2_with fail
        have FK : Hid (Cp.okK D.cmd = b) := by rw [Hid, Cp.okK_4 HK.out, show (Wp.idB D.cmd.i && (Cp.inB 0 3 D.cmd.tp && Cp.inB 0 1073741824 D.cmd.n)) = true from HT.out]; exact HBB.out
        rw [FK.out]
        refine bodyPost_ret (v := .tuple #[.agg #[.int .u8 D.k, .int .i64 0, .slice none 0 0, .int .i64 0, .string ⟨#[]⟩, .string ⟨#[]⟩, .int .i64 D.i, .int .i64 0, .slice none 0 0, .int .i64 D.tp, .int .i64 D.who, .int .i64 D.n], .bool b]) (by simp [results, Try.results50, go_sem, r0, r1, r2, r3, r4, r5, r6, r7, r8, r9, r10, r11]) rfl ⟨⟨D.k, 0, none, 0, 0, [], 0, ⟨#[]⟩, ⟨#[]⟩, D.i, 0, none, 0, 0, [], D.tp, D.who, D.n⟩, rfl, ?E1, ⟨(zeroHC_at w w.heap.size hk).rg, (zeroHC_at w w.heap.size hk).rm, (zeroHC_at w w.heap.size hk).gc, (zeroHC_at w w.heap.size hk).gm, (zeroHC_at w w.heap.size hk).mc, (zeroHC_at w w.heap.size hk).mm, HD1.out.kk, (zeroHC_at w w.heap.size hk).bk, (zeroHC_at w w.heap.size hk).bb, (zeroHC_at w w.heap.size hk).ig, (zeroHC_at w w.heap.size hk).im, (zeroHC_at w w.heap.size hk).a1, (zeroHC_at w w.heap.size hk).a2, HD1.out.a3, (zeroHC_at w w.heap.size hk).a4, HD1.out.a5, HD1.out.a6, HD1.out.a7⟩, ?E3⟩
        case E1 => exact PK.out
        case E3 => exact below_set12 BX.out (by omega) _ _ _ _ _ _ _ _ _ _ _ _
    · have HK := Lib.hid h
      clear h
      have q0 : (D.k == 0) = false := beq_eq_false_iff_ne.2 (by have := HK.out; omega)
      have q1 : (D.k == 1) = false := beq_eq_false_iff_ne.2 (by have := HK.out; omega)
      have q2 : (D.k == 2) = false := beq_eq_false_iff_ne.2 (by have := HK.out; omega)
      have q3 : (D.k == 3) = false := beq_eq_false_iff_ne.2 (by have := HK.out; omega)
      have q4 : (D.k == 4) = false := beq_eq_false_iff_ne.2 (by have := HK.out; omega)
      have q5 : (D.k == 5) = true := beq_iff_eq.2 (by have := HK.out; omega)
      have q6 : (D.k == 6) = false := beq_eq_false_iff_ne.2 (by have := HK.out; omega)
      have PK : Hid (HC.cmd ⟨D.k, 0, none, 0, 0, [], 0, ⟨#[]⟩, ⟨#[]⟩, D.i, 0, none, 0, 0, [], D.tp, 0, D.n⟩ = Cp.plainC D.cmd) := (Cp.plain_5 (c := D.cmd) HK.out).symm
      go_wp2_with fail
      clear c0 c1 c2 c3 c4 c5 c7 c8 c10
      go_region_held3 (fun w' => w'.cell? ⟨w.heap.size, 6, none⟩ = some (.int .i64 D.i) ∧ w'.cell? ⟨w.heap.size, 9, none⟩ = some (.int .i64 D.tp) ∧ w'.cell? ⟨w.heap.size, 11, none⟩ = some (.int .i64 D.n)) (simp [go_sem, c6, c9, c11]) (fail)
      clear c6 c9 c11
      have X1 : Hid (Blk (((wc.setCell ⟨w.heap.size + 1 + 1, 6, none⟩ (.int .i64 D.i)).setCell ⟨w.heap.size + 1 + 1, 9, none⟩ (.int .i64 D.tp)).setCell ⟨w.heap.size + 1 + 1, 11, none⟩ (.int .i64 D.n)).drew w.heap.size 26 #[.int .u8 D.k, .int .i64 D.mi, .slice D.GA D.Gn D.Gc, .int .i64 D.mt, .string D.key, .string D.body, .int .i64 D.i, .int .i64 D.tm, .slice D.MA D.Mn D.Mc, .int .i64 D.tp, .int .i64 D.who, .int .i64 D.n]) := (Blk.far (Blk.far (Blk.far K1.out (p := ⟨w.heap.size + 1 + 1, 6, none⟩) (by show w.heap.size ≠ w.heap.size + 1 + 1; omega) (.int .i64 D.i)) (p := ⟨w.heap.size + 1 + 1, 9, none⟩) (by show w.heap.size ≠ w.heap.size + 1 + 1; omega) (.int .i64 D.tp)) (p := ⟨w.heap.size + 1 + 1, 11, none⟩) (by show w.heap.size ≠ w.heap.size + 1 + 1; omega) (.int .i64 D.n))
      have X2 : Hid (Blk (((wc.setCell ⟨w.heap.size + 1 + 1, 6, none⟩ (.int .i64 D.i)).setCell ⟨w.heap.size + 1 + 1, 9, none⟩ (.int .i64 D.tp)).setCell ⟨w.heap.size + 1 + 1, 11, none⟩ (.int .i64 D.n)).drew (w.heap.size + 1) 26 #[.int .u8 0, .int .i64 0, .slice none 0 0, .int .i64 0, .string ⟨#[]⟩, .string ⟨#[]⟩, .int .i64 0, .int .i64 0, .slice none 0 0, .int .i64 0, .int .i64 0, .int .i64 0]) := (Blk.far (Blk.far (Blk.far K2.out (p := ⟨w.heap.size + 1 + 1, 6, none⟩) (by show w.heap.size + 1 ≠ w.heap.size + 1 + 1; omega) (.int .i64 D.i)) (p := ⟨w.heap.size + 1 + 1, 9, none⟩) (by show w.heap.size + 1 ≠ w.heap.size + 1 + 1; omega) (.int .i64 D.tp)) (p := ⟨w.heap.size + 1 + 1, 11, none⟩) (by show w.heap.size + 1 ≠ w.heap.size + 1 + 1; omega) (.int .i64 D.n))
      have X4 : Hid (Blk (((wc.setCell ⟨w.heap.size + 1 + 1, 6, none⟩ (.int .i64 D.i)).setCell ⟨w.heap.size + 1 + 1, 9, none⟩ (.int .i64 D.tp)).setCell ⟨w.heap.size + 1 + 1, 11, none⟩ (.int .i64 D.n)).drew (w.heap.size + 1 + 1) 26 #[.int .u8 D.k, .int .i64 0, .slice none 0 0, .int .i64 0, .string ⟨#[]⟩, .string ⟨#[]⟩, .int .i64 D.i, .int .i64 0, .slice none 0 0, .int .i64 D.tp, .int .i64 0, .int .i64 D.n]) := (((K4.out.set_ 6 (.int .i64 D.i)).set_ 9 (.int .i64 D.tp)).set_ 11 (.int .i64 D.n))
      have BX : Hid (Below w.heap.size w (((wc.setCell ⟨w.heap.size + 1 + 1, 6, none⟩ (.int .i64 D.i)).setCell ⟨w.heap.size + 1 + 1, 9, none⟩ (.int .i64 D.tp)).setCell ⟨w.heap.size + 1 + 1, 11, none⟩ (.int .i64 D.n)).drew) := (Below.drew (Below.setCell (Below.setCell (Below.setCell B0.out (by show w.heap.size ≤ w.heap.size + 1 + 1; omega) _) (by show w.heap.size ≤ w.heap.size + 1 + 1; omega) _) (by show w.heap.size ≤ w.heap.size + 1 + 1; omega) _))
      clear p0 r0 p1 r1 p2 r2 p3 r3 p4 r4 p5 r5 p6 r6 p7 r7 p8 r8 p9 r9 p10 r10 p11 r11 fr fp K1 K2 K4 B0 HW HD0 hz
      generalize (((wc.setCell ⟨w.heap.size + 1 + 1, 6, none⟩ (.int .i64 D.i)).setCell ⟨w.heap.size + 1 + 1, 9, none⟩ (.int .i64 D.tp)).setCell ⟨w.heap.size + 1 + 1, 11, none⟩ (.int .i64 D.n)).drew = X at *
      have hzX : w.heap.size + 3 ≤ X.heap.size := by have := X4.out.lt; omega
      have p0 := X4.out.cell 0
      have p1 := X4.out.cell 1
      have p2 := X4.out.cell 2
      have p3 := X4.out.cell 3
      have p4 := X4.out.cell 4
      have p5 := X4.out.cell 5
      have p6 := X4.out.cell 6
      have p7 := X4.out.cell 7
      have p8 := X4.out.cell 8
      have p9 := X4.out.cell 9
      have p10 := X4.out.cell 10
      have p11 := X4.out.cell 11
      have r0 := X2.out.cell 0
      have r1 := X2.out.cell 1
      have r2 := X2.out.cell 2
      have r3 := X2.out.cell 3
      have r4 := X2.out.cell 4
      have r5 := X2.out.cell 5
      have r6 := X2.out.cell 6
      have r7 := X2.out.cell 7
      have r8 := X2.out.cell 8
      have r9 := X2.out.cell 9
      have r10 := X2.out.cell 10
      have r11 := X2.out.cell 11
      have fr := X2.out.frozen
      go_wp2_with fail
      have FK : Hid (Cp.okK D.cmd = T) := by rw [Hid, Cp.okK_5 (Or.inl HK.out)]; exact HT.out
      rw [FK.out]
      refine bodyPost_ret (v := .tuple #[.agg #[.int .u8 D.k, .int .i64 0, .slice none 0 0, .int .i64 0, .string ⟨#[]⟩, .string ⟨#[]⟩, .int .i64 D.i, .int .i64 0, .slice none 0 0, .int .i64 D.tp, .int .i64 0, .int .i64 D.n], .bool T]) (by simp [results, Try.results50, go_sem, r0, r1, r2, r3, r4, r5, r6, r7, r8, r9, r10, r11]) rfl ⟨⟨D.k, 0, none, 0, 0, [], 0, ⟨#[]⟩, ⟨#[]⟩, D.i, 0, none, 0, 0, [], D.tp, 0, D.n⟩, rfl, ?E1, ⟨(zeroHC_at w w.heap.size hk).rg, (zeroHC_at w w.heap.size hk).rm, (zeroHC_at w w.heap.size hk).gc, (zeroHC_at w w.heap.size hk).gm, (zeroHC_at w w.heap.size hk).mc, (zeroHC_at w w.heap.size hk).mm, HD1.out.kk, (zeroHC_at w w.heap.size hk).bk, (zeroHC_at w w.heap.size hk).bb, (zeroHC_at w w.heap.size hk).ig, (zeroHC_at w w.heap.size hk).im, (zeroHC_at w w.heap.size hk).a1, (zeroHC_at w w.heap.size hk).a2, HD1.out.a3, (zeroHC_at w w.heap.size hk).a4, HD1.out.a5, (zeroHC_at w w.heap.size hk).a6, HD1.out.a7⟩, ?E3⟩
      case E1 => exact PK.out
      case E3 => exact below_set12 BX.out (by omega) _ _ _ _ _ _ _ _ _ _ _ _
    · have HK := Lib.hid h
      clear h
      have q0 : (D.k == 0) = false := beq_eq_false_iff_ne.2 (by have := HK.out; omega)
      have q1 : (D.k == 1) = false := beq_eq_false_iff_ne.2 (by have := HK.out; omega)
      have q2 : (D.k == 2) = false := beq_eq_false_iff_ne.2 (by have := HK.out; omega)
      have q3 : (D.k == 3) = false := beq_eq_false_iff_ne.2 (by have := HK.out; omega)
      have q4 : (D.k == 4) = false := beq_eq_false_iff_ne.2 (by have := HK.out; omega)
      have q5 : (D.k == 5) = false := beq_eq_false_iff_ne.2 (by have := HK.out; omega)
      have q6 : (D.k == 6) = true := beq_iff_eq.2 (by have := HK.out; omega)
      have PK : Hid (HC.cmd ⟨D.k, 0, none, 0, 0, [], 0, ⟨#[]⟩, ⟨#[]⟩, D.i, 0, none, 0, 0, [], D.tp, 0, D.n⟩ = Cp.plainC D.cmd) := (Cp.plain_6 (c := D.cmd) HK.out).symm
      go_wp2_with fail
      clear c0 c1 c2 c3 c4 c5 c7 c8 c10
      go_region_held3 (fun w' => w'.cell? ⟨w.heap.size, 6, none⟩ = some (.int .i64 D.i) ∧ w'.cell? ⟨w.heap.size, 9, none⟩ = some (.int .i64 D.tp) ∧ w'.cell? ⟨w.heap.size, 11, none⟩ = some (.int .i64 D.n)) (simp [go_sem, c6, c9, c11]) (fail)
      clear c6 c9 c11
      have X1 : Hid (Blk (((wc.setCell ⟨w.heap.size + 1 + 1, 6, none⟩ (.int .i64 D.i)).setCell ⟨w.heap.size + 1 + 1, 9, none⟩ (.int .i64 D.tp)).setCell ⟨w.heap.size + 1 + 1, 11, none⟩ (.int .i64 D.n)).drew w.heap.size 26 #[.int .u8 D.k, .int .i64 D.mi, .slice D.GA D.Gn D.Gc, .int .i64 D.mt, .string D.key, .string D.body, .int .i64 D.i, .int .i64 D.tm, .slice D.MA D.Mn D.Mc, .int .i64 D.tp, .int .i64 D.who, .int .i64 D.n]) := (Blk.far (Blk.far (Blk.far K1.out (p := ⟨w.heap.size + 1 + 1, 6, none⟩) (by show w.heap.size ≠ w.heap.size + 1 + 1; omega) (.int .i64 D.i)) (p := ⟨w.heap.size + 1 + 1, 9, none⟩) (by show w.heap.size ≠ w.heap.size + 1 + 1; omega) (.int .i64 D.tp)) (p := ⟨w.heap.size + 1 + 1, 11, none⟩) (by show w.heap.size ≠ w.heap.size + 1 + 1; omega) (.int .i64 D.n))
      have X2 : Hid (Blk (((wc.setCell ⟨w.heap.size + 1 + 1, 6, none⟩ (.int .i64 D.i)).setCell ⟨w.heap.size + 1 + 1, 9, none⟩ (.int .i64 D.tp)).setCell ⟨w.heap.size + 1 + 1, 11, none⟩ (.int .i64 D.n)).drew (w.heap.size + 1) 26 #[.int .u8 0, .int .i64 0, .slice none 0 0, .int .i64 0, .string ⟨#[]⟩, .string ⟨#[]⟩, .int .i64 0, .int .i64 0, .slice none 0 0, .int .i64 0, .int .i64 0, .int .i64 0]) := (Blk.far (Blk.far (Blk.far K2.out (p := ⟨w.heap.size + 1 + 1, 6, none⟩) (by show w.heap.size + 1 ≠ w.heap.size + 1 + 1; omega) (.int .i64 D.i)) (p := ⟨w.heap.size + 1 + 1, 9, none⟩) (by show w.heap.size + 1 ≠ w.heap.size + 1 + 1; omega) (.int .i64 D.tp)) (p := ⟨w.heap.size + 1 + 1, 11, none⟩) (by show w.heap.size + 1 ≠ w.heap.size + 1 + 1; omega) (.int .i64 D.n))
      have X4 : Hid (Blk (((wc.setCell ⟨w.heap.size + 1 + 1, 6, none⟩ (.int .i64 D.i)).setCell ⟨w.heap.size + 1 + 1, 9, none⟩ (.int .i64 D.tp)).setCell ⟨w.heap.size + 1 + 1, 11, none⟩ (.int .i64 D.n)).drew (w.heap.size + 1 + 1) 26 #[.int .u8 D.k, .int .i64 0, .slice none 0 0, .int .i64 0, .string ⟨#[]⟩, .string ⟨#[]⟩, .int .i64 D.i, .int .i64 0, .slice none 0 0, .int .i64 D.tp, .int .i64 0, .int .i64 D.n]) := (((K4.out.set_ 6 (.int .i64 D.i)).set_ 9 (.int .i64 D.tp)).set_ 11 (.int .i64 D.n))
      have BX : Hid (Below w.heap.size w (((wc.setCell ⟨w.heap.size + 1 + 1, 6, none⟩ (.int .i64 D.i)).setCell ⟨w.heap.size + 1 + 1, 9, none⟩ (.int .i64 D.tp)).setCell ⟨w.heap.size + 1 + 1, 11, none⟩ (.int .i64 D.n)).drew) := (Below.drew (Below.setCell (Below.setCell (Below.setCell B0.out (by show w.heap.size ≤ w.heap.size + 1 + 1; omega) _) (by show w.heap.size ≤ w.heap.size + 1 + 1; omega) _) (by show w.heap.size ≤ w.heap.size + 1 + 1; omega) _))
      clear p0 r0 p1 r1 p2 r2 p3 r3 p4 r4 p5 r5 p6 r6 p7 r7 p8 r8 p9 r9 p10 r10 p11 r11 fr fp K1 K2 K4 B0 HW HD0 hz
      generalize (((wc.setCell ⟨w.heap.size + 1 + 1, 6, none⟩ (.int .i64 D.i)).setCell ⟨w.heap.size + 1 + 1, 9, none⟩ (.int .i64 D.tp)).setCell ⟨w.heap.size + 1 + 1, 11, none⟩ (.int .i64 D.n)).drew = X at *
      have hzX : w.heap.size + 3 ≤ X.heap.size := by have := X4.out.lt; omega
      have p0 := X4.out.cell 0
      have p1 := X4.out.cell 1
      have p2 := X4.out.cell 2
      have p3 := X4.out.cell 3
      have p4 := X4.out.cell 4
      have p5 := X4.out.cell 5
      have p6 := X4.out.cell 6
      have p7 := X4.out.cell 7
      have p8 := X4.out.cell 8
      have p9 := X4.out.cell 9
      have p10 := X4.out.cell 10
      have p11 := X4.out.cell 11
      have r0 := X2.out.cell 0
      have r1 := X2.out.cell 1
      have r2 := X2.out.cell 2
      have r3 := X2.out.cell 3
      have r4 := X2.out.cell 4
      have r5 := X2.out.cell 5
      have r6 := X2.out.cell 6
      have r7 := X2.out.cell 7
      have r8 := X2.out.cell 8
      have r9 := X2.out.cell 9
      have r10 := X2.out.cell 10
      have r11 := X2.out.cell 11
      have fr := X2.out.frozen
      go_wp2_with fail
      have FK : Hid (Cp.okK D.cmd = T) := by rw [Hid, Cp.okK_5 (Or.inr HK.out)]; exact HT.out
      rw [FK.out]
      refine bodyPost_ret (v := .tuple #[.agg #[.int .u8 D.k, .int .i64 0, .slice none 0 0, .int .i64 0, .string ⟨#[]⟩, .string ⟨#[]⟩, .int .i64 D.i, .int .i64 0, .slice none 0 0, .int .i64 D.tp, .int .i64 0, .int .i64 D.n], .bool T]) (by simp [results, Try.results50, go_sem, r0, r1, r2, r3, r4, r5, r6, r7, r8, r9, r10, r11]) rfl ⟨⟨D.k, 0, none, 0, 0, [], 0, ⟨#[]⟩, ⟨#[]⟩, D.i, 0, none, 0, 0, [], D.tp, 0, D.n⟩, rfl, ?E1, ⟨(zeroHC_at w w.heap.size hk).rg, (zeroHC_at w w.heap.size hk).rm, (zeroHC_at w w.heap.size hk).gc, (zeroHC_at w w.heap.size hk).gm, (zeroHC_at w w.heap.size hk).mc, (zeroHC_at w w.heap.size hk).mm, HD1.out.kk, (zeroHC_at w w.heap.size hk).bk, (zeroHC_at w w.heap.size hk).bb, (zeroHC_at w w.heap.size hk).ig, (zeroHC_at w w.heap.size hk).im, (zeroHC_at w w.heap.size hk).a1, (zeroHC_at w w.heap.size hk).a2, HD1.out.a3, (zeroHC_at w w.heap.size hk).a4, HD1.out.a5, (zeroHC_at w w.heap.size hk).a6, HD1.out.a7⟩, ?E3⟩
      case E1 => exact PK.out
      case E3 => exact below_set12 BX.out (by omega) _ _ _ _ _ _ _ _ _ _ _ _
    · have HK := Lib.hid h
      clear h
      have q0 : (D.k == 0) = false := beq_eq_false_iff_ne.2 (by have := HK.out; omega)
      have q1 : (D.k == 1) = false := beq_eq_false_iff_ne.2 (by have := HK.out; omega)
      have q2 : (D.k == 2) = false := beq_eq_false_iff_ne.2 (by have := HK.out; omega)
      have q3 : (D.k == 3) = false := beq_eq_false_iff_ne.2 (by have := HK.out; omega)
      have q4 : (D.k == 4) = false := beq_eq_false_iff_ne.2 (by have := HK.out; omega)
      have q5 : (D.k == 5) = false := beq_eq_false_iff_ne.2 (by have := HK.out; omega)
      have q6 : (D.k == 6) = false := beq_eq_false_iff_ne.2 (by have := HK.out; omega)
      go_wp2_with fail
      have FK : Hid (Cp.okK D.cmd = false) := Cp.okK_else HK.out
      rw [FK.out]
      refine bodyPost_ret (v := .tuple #[.agg #[.int .u8 D.k, .int .i64 0, .slice none 0 0, .int .i64 0, .string ⟨#[]⟩, .string ⟨#[]⟩, .int .i64 0, .int .i64 0, .slice none 0 0, .int .i64 0, .int .i64 0, .int .i64 0], .bool false]) (by simp [results, Try.results50, go_sem, r0, r1, r2, r3, r4, r5, r6, r7, r8, r9, r10, r11]) rfl ⟨zeroHC D.k, rfl, ?E1, zeroHC_at _ _ hk, below_set12 B0.out (by omega) _ _ _ _ _ _ _ _ _ _ _ _⟩
      case E1 => rw [Cp.plain_else (by have := HK.out; simp only [HC.cmd]; omega)]; rfl
end Go.Proofs.Ytaoekfgeggopbaa
