/-
  The walk of WalNames. No condition.
-/
import Derived.Test.YtihinhdgfbnlmaaWalLong
import Derived.Test.YtihinhdgfbnlmaaHeld3
import Derived.Test.YtihinhdgfbnlmaaWalSome
import Derived.Test.YtihinhdgfbnlmaaWalReset
import Derived.Test.YtihinhdgfbnlmaaWalLaw
import Derived.Test.YtihinhdgfbnlmaaDiskRefE
import Derived.Test.YtihinhdgfbnlmaaFrameTorn
namespace Go.Proofs.Ytihinhdgfbnlmaa
open Go.RowKit
set_option maxHeartbeats 16000000
set_option maxRecDepth 100000
set_option linter.unusedVariables false
set_option linter.unusedSimpArgs false

/-- What is there already, stored again. -/
theorem set_same {w : World} {g i : Nat} {t : TypeId} {cs : Array Value} {u : Value} (h : Blk w g t cs) (hu : cs[i]? = some u) : w.setCell ⟨g, i, none⟩ u = w := by
  have hc : cs.setIfInBounds i u = cs := by
    apply Array.ext_getElem?
    intro k
    rw [Array.getElem?_setIfInBounds]
    by_cases hk : i = k
    · subst hk
      have := (Array.getElem?_eq_some_iff.1 hu).1
      rw [if_pos rfl, if_pos this, hu]
    · rw [if_neg hk]
  have hh : (w.setCell ⟨g, i, none⟩ u).heap = w.heap := by
    apply Array.ext_getElem?
    intro j
    by_cases hj : g = j
    · subst hj
      have h2 : Blk (w.setCell ⟨g, i, none⟩ u) g t (cs.setIfInBounds i u) := Blk.set_ h i u
      rw [hc] at h2
      exact Eq.trans h2 (Eq.symm h)
    · exact Below.heap_setCell w _ u j (by show j ≠ g; omega)
  have e : w.setCell ⟨g, i, none⟩ u = { w with heap := (w.setCell ⟨g, i, none⟩ u).heap } := rfl
  rw [e, hh]
theorem walNames_walk (w : World) : Calls Try.prog 10 #[] w fun e w' => e = .returned (.bool true) ∧ Below w.heap.size w w' := by
  have hmk : ∀ w, (Instr.makeSlice 54 (.int .i64 1025) (.int .i64 1025)).run Try.prog w = .ok (.slice (some ⟨w.heap.size, 0, none⟩) 1025 1025) (w.alloc (.cells (zeroStrs 1025) 9)) := fun w => make_strs 1025 (by omega) w
  have hmp := make_puts
  have C := Lib.hid (Below.refl w.heap.size w)
  go_enter Try.func10, Try.ntmps10
  go_wp2_with fail
  refine (one_any _).mono ?_
  rintro e1 w1 ⟨D1, rfl, hd, hd2, hb⟩
  replace C := Lib.hid (below_alloc (C.out.trans (hb.mono C.out.size)) (.cells #[.string (S [98, 99])] 9))
  have DD1 := Lib.hid (hd.alloc (.cells #[.string (S [98, 99])] 9))
  have ED1 := Lib.hid hd2
  have RT := Lib.hid ((newTAt (w := w1) (g := w1.heap.size) rfl [S [98, 99]] #[.string (S [98, 99])] rfl).more (B' := (w1.alloc (.cells #[.string (S [98, 99])] 9)).heap.size) (by simp))
  clear hd hd2 hb
  go_wp2_with fail
  refine (add_any D1 (some ⟨w1.heap.size, 0, none⟩) 1 1 [[98, 99]] _ ⟨[1, 97], [⟨false, [2, 98, 99]⟩]⟩ 0 (by rw [ED1.out]; exact Wa.ex_add) DD1.out RT.out (by decide)).mono ?_
  rintro e2 w2 ⟨D2, rfl, hx, hex, hb⟩
  replace C := Lib.hid (below_alloc (C.out.trans (hb.mono C.out.size)) (.cells #[.slice D2.A D2.n D2.c, .slice D2.WA D2.Wn D2.Wc] 25))
  replace DD1 := Lib.hid ((DD1.out.up hb).alloc (.cells #[.slice D2.A D2.n D2.c, .slice D2.WA D2.Wn D2.Wc] 25))
  replace RT := Lib.hid (((RT.out.below hb).more hb.size).up_alloc (.cells #[.slice D2.A D2.n D2.c, .slice D2.WA D2.Wn D2.Wc] 25))
  have DD2 := Lib.hid (hx.at_.alloc (.cells #[.slice D2.A D2.n D2.c, .slice D2.WA D2.Wn D2.Wc] 25))
  have ED2 := Lib.hid hex
  have KD2 := Lib.hid (Blk.new w2 25 #[.slice D2.A D2.n D2.c, .slice D2.WA D2.Wn D2.Wc])
  clear hx hex hb
  clear DD1 ED1 RT
  have y0 := KD2.out.cell 0
  have y1 := KD2.out.cell 1
  go_wp2_with fail
  refine (crash_is D2 0 2 _ ⟨[1, 97, 2, 98], []⟩ 0 (by rw [ED2.out]; exact Wa.ex_crash) DD2.out (by decide)).mono ?_
  rintro e3 w3 ⟨D3, rfl, hx, hex, hb⟩
  clear y0 y1
  replace C := Lib.hid (below_alloc (C.out.trans (hb.mono C.out.size)) (.cells #[.slice D3.A D3.n D3.c, .slice D3.WA D3.Wn D3.Wc] 25))
  replace DD2 := Lib.hid ((DD2.out.up hb).alloc (.cells #[.slice D3.A D3.n D3.c, .slice D3.WA D3.Wn D3.Wc] 25))
  replace KD2 := Lib.hid ((KD2.out.below hb KD2.out.lt).alloc (.cells #[.slice D3.A D3.n D3.c, .slice D3.WA D3.Wn D3.Wc] 25))
  have DD3 := Lib.hid (hx.at_.alloc (.cells #[.slice D3.A D3.n D3.c, .slice D3.WA D3.Wn D3.Wc] 25))
  have ED3 := Lib.hid hex
  have KD3 := Lib.hid (Blk.new w3 25 #[.slice D3.A D3.n D3.c, .slice D3.WA D3.Wn D3.Wc])
  clear hx hex hb
  clear DD2 KD2 ED2
  have y0 := KD3.out.cell 0
  have y1 := KD3.out.cell 1
  go_wp2_with fail
  refine (open_any D3 _ ⟨[1, 97, 2, 98], [⟨true, [1, 97]⟩]⟩ [[97]] 0 (by rw [ED3.out]; exact Wa.ex_torn) DD3.out).mono ?_
  rintro e4 w4 ⟨D4, D4A, D4n, D4c, rfl, hx, hex, hln, ho, hb⟩
  clear y0 y1
  replace C := Lib.hid (below_alloc (C.out.trans (hb.mono C.out.size)) (.cells #[.slice D4.A D4.n D4.c, .slice D4.WA D4.Wn D4.Wc] 25))
  replace DD3 := Lib.hid ((DD3.out.up hb).alloc (.cells #[.slice D4.A D4.n D4.c, .slice D4.WA D4.Wn D4.Wc] 25))
  replace KD3 := Lib.hid ((KD3.out.below hb KD3.out.lt).alloc (.cells #[.slice D4.A D4.n D4.c, .slice D4.WA D4.Wn D4.Wc] 25))
  have DD4 := Lib.hid (hx.at_.alloc (.cells #[.slice D4.A D4.n D4.c, .slice D4.WA D4.Wn D4.Wc] 25))
  have ED4 := Lib.hid hex
  have KD4 := Lib.hid (Blk.new w4 25 #[.slice D4.A D4.n D4.c, .slice D4.WA D4.Wn D4.Wc])
  have RD4 := Lib.hid ((Reads.of_own ho).up_alloc (.cells #[.slice D4.A D4.n D4.c, .slice D4.WA D4.Wn D4.Wc] 25))
  have ND4 := Lib.hid hln
  clear hx hex hln ho hb
  obtain rfl : D4n = 1 := ND4.out.symm
  clear ND4
  have y0 := KD3.out.cell 0
  have y1 := KD3.out.cell 1
  replace C := Lib.hid (below_alloc C.out (.cells #[.string (S [120])] 9))
  replace DD3 := Lib.hid (DD3.out.alloc (.cells #[.string (S [120])] 9))
  replace DD4 := Lib.hid (DD4.out.alloc (.cells #[.string (S [120])] 9))
  have gg := KD3.out.lt
  replace KD3 := Lib.hid (KD3.out.alloc (.cells #[.string (S [120])] 9))
  replace KD4 := Lib.hid (KD4.out.alloc (.cells #[.string (S [120])] 9))
  replace RD4 := Lib.hid (RD4.out.up_alloc (.cells #[.string (S [120])] 9))
  have RT := Lib.hid ((newTAt (w := w4.alloc (.cells #[.slice D4.A D4.n D4.c, .slice D4.WA D4.Wn D4.Wc] 25)) (g := w4.heap.size + 1) (by simp) [S [120]] #[.string (S [120])] rfl).more (B' := ((w4.alloc (.cells #[.slice D4.A D4.n D4.c, .slice D4.WA D4.Wn D4.Wc] 25)).alloc (.cells #[.string (S [120])] 9)).heap.size) (by simp))
  clear gg
  go_wp2_with fail
  refine (add_any D3 (some ⟨w4.heap.size + 1, 0, none⟩) 1 1 [[120]] _ Dp.zeroD 8 (by rw [ED3.out]; exact Wa.ex_add2) DD3.out RT.out (by decide)).mono ?_
  rintro e5 w5 ⟨D5, rfl, hx, hex, hb⟩
  clear y0 y1
  replace C := Lib.hid (below_alloc (C.out.trans (hb.mono C.out.size)) (.cells #[.slice D5.A D5.n D5.c, .slice D5.WA D5.Wn D5.Wc] 25))
  replace DD3 := Lib.hid ((DD3.out.up hb).alloc (.cells #[.slice D5.A D5.n D5.c, .slice D5.WA D5.Wn D5.Wc] 25))
  replace KD3 := Lib.hid ((KD3.out.below hb KD3.out.lt).alloc (.cells #[.slice D5.A D5.n D5.c, .slice D5.WA D5.Wn D5.Wc] 25))
  replace DD4 := Lib.hid ((DD4.out.up hb).alloc (.cells #[.slice D5.A D5.n D5.c, .slice D5.WA D5.Wn D5.Wc] 25))
  replace KD4 := Lib.hid ((KD4.out.below hb KD4.out.lt).alloc (.cells #[.slice D5.A D5.n D5.c, .slice D5.WA D5.Wn D5.Wc] 25))
  replace RD4 := Lib.hid (((RD4.out.below hb).more hb.size).up_alloc (.cells #[.slice D5.A D5.n D5.c, .slice D5.WA D5.Wn D5.Wc] 25))
  replace RT := Lib.hid (((RT.out.below hb).more hb.size).up_alloc (.cells #[.slice D5.A D5.n D5.c, .slice D5.WA D5.Wn D5.Wc] 25))
  clear hx hex hb
  clear DD3 KD3 ED3 RT
  go_wp2_with fail
  refine (one_any _).mono ?_
  rintro e6 w6 ⟨D6, rfl, hd, hd2, hb⟩
  replace C := Lib.hid (below_alloc (C.out.trans (hb.mono C.out.size)) (.cells #[.string (S [120])] 9))
  replace DD4 := Lib.hid ((DD4.out.up hb).alloc (.cells #[.string (S [120])] 9))
  replace KD4 := Lib.hid ((KD4.out.below hb KD4.out.lt).alloc (.cells #[.string (S [120])] 9))
  replace RD4 := Lib.hid (((RD4.out.below hb).more hb.size).up_alloc (.cells #[.string (S [120])] 9))
  have DD6 := Lib.hid (hd.alloc (.cells #[.string (S [120])] 9))
  have ED6 := Lib.hid hd2
  have RT := Lib.hid ((newTAt (w := w6) (g := w6.heap.size) rfl [S [120]] #[.string (S [120])] rfl).more (B' := (w6.alloc (.cells #[.string (S [120])] 9)).heap.size) (by simp))
  clear hd hd2 hb
  go_wp2_with fail
  refine (reset_any D6 (some ⟨w6.heap.size, 0, none⟩) 1 1 [[120]] _ ⟨[1, 97], [⟨true, [1, 120]⟩]⟩ 0 (by rw [ED6.out]; exact Wa.ex_reset) DD6.out RT.out (by decide)).mono ?_
  rintro e7 w7 ⟨D7, rfl, hx, hex, hb⟩
  replace C := Lib.hid (below_alloc (C.out.trans (hb.mono C.out.size)) (.cells #[.slice D7.A D7.n D7.c, .slice D7.WA D7.Wn D7.Wc] 25))
  replace DD4 := Lib.hid ((DD4.out.up hb).alloc (.cells #[.slice D7.A D7.n D7.c, .slice D7.WA D7.Wn D7.Wc] 25))
  replace KD4 := Lib.hid ((KD4.out.below hb KD4.out.lt).alloc (.cells #[.slice D7.A D7.n D7.c, .slice D7.WA D7.Wn D7.Wc] 25))
  replace RD4 := Lib.hid (((RD4.out.below hb).more hb.size).up_alloc (.cells #[.slice D7.A D7.n D7.c, .slice D7.WA D7.Wn D7.Wc] 25))
  replace DD6 := Lib.hid ((DD6.out.up hb).alloc (.cells #[.slice D7.A D7.n D7.c, .slice D7.WA D7.Wn D7.Wc] 25))
  replace RT := Lib.hid (((RT.out.below hb).more hb.size).up_alloc (.cells #[.slice D7.A D7.n D7.c, .slice D7.WA D7.Wn D7.Wc] 25))
  have DD7 := Lib.hid (hx.at_.alloc (.cells #[.slice D7.A D7.n D7.c, .slice D7.WA D7.Wn D7.Wc] 25))
  have ED7 := Lib.hid hex
  have KD7 := Lib.hid (Blk.new w7 25 #[.slice D7.A D7.n D7.c, .slice D7.WA D7.Wn D7.Wc])
  clear hx hex hb
  clear DD6 ED6 RT
  have y0 := KD7.out.cell 0
  have y1 := KD7.out.cell 1
  go_wp2_with fail
  refine (open_any D7 _ ⟨[1, 97], [⟨true, [1, 120]⟩]⟩ [[120]] 0 (by rw [ED7.out]; exact Wa.ex_open2) DD7.out).mono ?_
  rintro e8 w8 ⟨D8, D8A, D8n, D8c, rfl, hx, hex, hln, ho, hb⟩
  clear y0 y1
  replace C := Lib.hid (below_alloc (C.out.trans (hb.mono C.out.size)) (.cells #[.slice D8.A D8.n D8.c, .slice D8.WA D8.Wn D8.Wc] 25))
  replace DD4 := Lib.hid ((DD4.out.up hb).alloc (.cells #[.slice D8.A D8.n D8.c, .slice D8.WA D8.Wn D8.Wc] 25))
  replace KD4 := Lib.hid ((KD4.out.below hb KD4.out.lt).alloc (.cells #[.slice D8.A D8.n D8.c, .slice D8.WA D8.Wn D8.Wc] 25))
  replace RD4 := Lib.hid (((RD4.out.below hb).more hb.size).up_alloc (.cells #[.slice D8.A D8.n D8.c, .slice D8.WA D8.Wn D8.Wc] 25))
  replace DD7 := Lib.hid ((DD7.out.up hb).alloc (.cells #[.slice D8.A D8.n D8.c, .slice D8.WA D8.Wn D8.Wc] 25))
  replace KD7 := Lib.hid ((KD7.out.below hb KD7.out.lt).alloc (.cells #[.slice D8.A D8.n D8.c, .slice D8.WA D8.Wn D8.Wc] 25))
  have RD8 := Lib.hid ((Reads.of_own ho).up_alloc (.cells #[.slice D8.A D8.n D8.c, .slice D8.WA D8.Wn D8.Wc] 25))
  have ND8 := Lib.hid hln
  clear hx hex hln ho hb
  obtain rfl : D8n = 1 := ND8.out.symm
  clear ND8
  clear DD7 KD7 ED7
  replace C := Lib.hid (below_alloc C.out (.cells zeroPuts 43))
  replace DD4 := Lib.hid (DD4.out.alloc (.cells zeroPuts 43))
  replace KD4 := Lib.hid (KD4.out.alloc (.cells zeroPuts 43))
  replace RD4 := Lib.hid (RD4.out.up_alloc (.cells zeroPuts 43))
  replace RD8 := Lib.hid (RD8.out.up_alloc (.cells zeroPuts 43))
  go_wp2_with fail
  refine (open_long none 0 0 (some ⟨w8.heap.size + 1, 0, none⟩) 1025 1025 _ (by omega) (by omega)).mono ?_
  rintro e9 w9 ⟨rfl, hb⟩
  replace C := Lib.hid (below_alloc (C.out.trans (hb.mono C.out.size)) (.cells #[.slice none 0 0, .slice none 0 0] 25))
  replace DD4 := Lib.hid ((DD4.out.up hb).alloc (.cells #[.slice none 0 0, .slice none 0 0] 25))
  replace KD4 := Lib.hid ((KD4.out.below hb KD4.out.lt).alloc (.cells #[.slice none 0 0, .slice none 0 0] 25))
  replace RD4 := Lib.hid (((RD4.out.below hb).more hb.size).up_alloc (.cells #[.slice none 0 0, .slice none 0 0] 25))
  replace RD8 := Lib.hid (((RD8.out.below hb).more hb.size).up_alloc (.cells #[.slice none 0 0, .slice none 0 0] 25))
  clear hb
  go_wp2_with fail
  generalize w9.alloc (.cells #[.slice none 0 0, .slice none 0 0] 25) = W at *
  refine T_region 8 (fun _ => True) (by kernel_rfl) (by kernel_rfl) ?_
  replace C := Lib.hid (below_drewN C.out 1)
  replace DD4 := Lib.hid (show DiskAt W.drew W.drew.heap.size _ from DD4.out.drew)
  replace KD4 := Lib.hid (KD4.out.drew)
  replace RD4 := Lib.hid (show Reads W.drew W.drew.heap.size 1 _ _ _ from RD4.out)
  replace RD8 := Lib.hid (show Reads W.drew W.drew.heap.size 1 _ _ _ from RD8.out)
  have TT : Hid True := trivial
  have W4 : Hid (D4.Wn = 1) := by have h1 := DD4.out.len_l; have h2 := congrArg (fun x : Dp.Disk => x.wait.length) ED4.out; simp only [HD.disk, List.length_map, List.length_cons, List.length_nil] at h2; rw [Hid]; omega
  have P4 : Hid (∀ p, D4.l[0]? = some p → p.sw = true ∧ p.d = [1, 97]) := by
    intro p hp
    have h2 := congrArg (fun x : Dp.Disk => x.wait[0]?) ED4.out
    simp only [HD.disk, List.getElem?_map, hp, Option.map_some, List.getElem?_cons_zero, Option.some.injEq] at h2
    exact ⟨congrArg Dp.Put.sw h2, congrArg Dp.Put.d h2⟩
  clear ED4
  refine T_three (i := 0) (j := 1) (k := 6) rfl rfl rfl (by kernel_rfl) ?_ ?_ ?_
  · go_wp2_with fail
    refine (one_any _).mono ?_
    rintro e40 wq1 ⟨Dx, rfl, hd, hd2, hb⟩
    replace C := Lib.hid (C.out.trans (hb.mono C.out.size))
    replace DD4 := Lib.hid (DD4.out.up hb)
    replace KD4 := Lib.hid (KD4.out.below hb KD4.out.lt)
    replace RD4 := Lib.hid ((RD4.out.below hb).more hb.size)
    replace RD8 := Lib.hid ((RD8.out.below hb).more hb.size)
    have DDx := Lib.hid hd
    have EDx := Lib.hid hd2
    clear hd hd2 hb
    go_wp2_with fail
    simp only [Qn]
    refine ⟨trivial, ?_⟩
    refine T_two (i := 1) (j := 6) rfl rfl (by kernel_rfl) ?_ ?_
    · go_wp2_with fail
      replace C := Lib.hid (below_alloc C.out (.cells (zeroStrs 1025) 9))
      replace DD4 := Lib.hid (DD4.out.alloc (.cells (zeroStrs 1025) 9))
      replace KD4 := Lib.hid (KD4.out.alloc (.cells (zeroStrs 1025) 9))
      replace RD4 := Lib.hid (RD4.out.up_alloc (.cells (zeroStrs 1025) 9))
      replace RD8 := Lib.hid (RD8.out.up_alloc (.cells (zeroStrs 1025) 9))
      replace DDx := Lib.hid (DDx.out.alloc (.cells (zeroStrs 1025) 9))
      simp only [Qn]
      refine ⟨trivial, ?_⟩
      refine T_two (i := 2) (j := 6) rfl rfl (by kernel_rfl) ?_ ?_
      · go_wp2_with fail
        refine (add_many Dx _ 1025 1025 _ DDx.out (by rw [EDx.out]; rfl) (by decide) (by decide)).mono ?_
        rintro e41 wq2 ⟨rfl, hb⟩
        replace C := Lib.hid (C.out.trans (hb.mono C.out.size))
        replace DD4 := Lib.hid (DD4.out.up hb)
        replace KD4 := Lib.hid (KD4.out.below hb KD4.out.lt)
        replace RD4 := Lib.hid ((RD4.out.below hb).more hb.size)
        replace RD8 := Lib.hid ((RD8.out.below hb).more hb.size)
        replace DDx := Lib.hid (DDx.out.up hb)
        clear hb
        clear DDx EDx
        go_wp2_with fail
        simp only [Qn]
        refine ⟨trivial, ?_⟩
        refine T_takeL (i := 3) (v := ?_) rfl (by kernel_rfl) (fun _ _ _ h => h) (Or.inl ⟨by rfl, ?_⟩) TT.out ?_
        rotate_left
        · ((intro w hSw; (try dsimp only at hSw); go_simp) <;> with_reducible rfl)
        try simp only [Act.put, List.setIfInBounds_toArray, List.set_cons_zero, List.set_cons_succ]
        refine T_takeL (i := 4) (v := ?_) rfl (by kernel_rfl) (fun _ _ _ h => h) (Or.inl ⟨by rfl, ?_⟩) TT.out ?_
        rotate_left
        · ((intro w hSw; (try dsimp only at hSw); go_simp) <;> with_reducible rfl)
        try simp only [Act.put, List.setIfInBounds_toArray, List.set_cons_zero, List.set_cons_succ]
        refine T_takeL (i := 5) (v := ?_) rfl (by kernel_rfl) (fun _ _ _ h => h) (Or.inl ⟨by rfl, ?_⟩) TT.out ?_
        rotate_left
        · ((intro w hSw; (try dsimp only at hSw); go_simp) <;> with_reducible rfl)
        try simp only [Act.put, List.setIfInBounds_toArray, List.set_cons_zero, List.set_cons_succ]
        refine T_one (i := 6) rfl (by kernel_rfl) ?_
        · go_wp2_with fail
          replace C := Lib.hid (below_alloc C.out (.cells #[.slice none 0 0, .slice none 0 0] 25))
          replace DD4 := Lib.hid (DD4.out.alloc (.cells #[.slice none 0 0, .slice none 0 0] 25))
          replace KD4 := Lib.hid (KD4.out.alloc (.cells #[.slice none 0 0, .slice none 0 0] 25))
          replace RD4 := Lib.hid (RD4.out.up_alloc (.cells #[.slice none 0 0, .slice none 0 0] 25))
          replace RD8 := Lib.hid (RD8.out.up_alloc (.cells #[.slice none 0 0, .slice none 0 0] 25))
          have KZ := Lib.hid (Blk.newAt (w := wq2) (g := wq2.heap.size) (by simp) 25 #[.slice none 0 0, .slice none 0 0])
          simp only [Qn]
          refine ⟨trivial, ?_⟩
          refine T_one (i := 7) rfl (by kernel_rfl) ?_
          have z0 := KZ.out.cell 0
          have fz0 := KZ.out.frozen 0
          have ez0 := set_same KZ.out (i := 0) (u := .slice none 0 0) rfl
          have z1 := KZ.out.cell 1
          have fz1 := KZ.out.frozen 1
          have ez1 := set_same KZ.out (i := 1) (u := .slice none 0 0) rfl
          go_wp2_with fail
          (first | rw [ez0, ez1] | skip)
          clear z0 fz0 ez0 z1 fz1 ez1 KZ
          simp only [Qn]
          refine ⟨trivial, ?_⟩
          refine T_end (by kernel_rfl) ?_
          go_wp2_with fail
          go_wp2_with fail
          refine (alive04_any _).mono ?_
          rintro e30 w30 ⟨rfl, hb⟩
          replace C := Lib.hid (C.out.trans (hb.mono C.out.size))
          replace DD4 := Lib.hid (DD4.out.up hb)
          replace KD4 := Lib.hid (KD4.out.below hb KD4.out.lt)
          replace RD4 := Lib.hid ((RD4.out.below hb).more hb.size)
          replace RD8 := Lib.hid ((RD8.out.below hb).more hb.size)
          clear hb
          replace C := Lib.hid (below_alloc C.out (.cells #[.string (S [97])] 9))
          replace DD4 := Lib.hid (DD4.out.alloc (.cells #[.string (S [97])] 9))
          replace KD4 := Lib.hid (KD4.out.alloc (.cells #[.string (S [97])] 9))
          replace RD4 := Lib.hid (RD4.out.up_alloc (.cells #[.string (S [97])] 9))
          replace RD8 := Lib.hid (RD8.out.up_alloc (.cells #[.string (S [97])] 9))
          have RT := Lib.hid ((newTAt (w := w30) (g := w30.heap.size) rfl [S [97]] #[.string (S [97])] rfl).more (B' := (w30.alloc (.cells #[.string (S [97])] 9)).heap.size) (by simp))
          go_wp2_with fail
          refine (sameTexts_yes D4A 1 D4c (some ⟨w30.heap.size, 0, none⟩) 1 1 _ _ _ [S [97]] _ RD4.out RT.out (by omega) rfl).mono ?_
          rintro e31 w31 ⟨rfl, q1, rfl⟩
          have hb := below_drewN (Below.refl (w30.alloc (.cells #[.string (S [97])] 9)).heap.size (w30.alloc (.cells #[.string (S [97])] 9))) q1
          replace C := Lib.hid (C.out.trans (hb.mono C.out.size))
          replace DD4 := Lib.hid (DD4.out.up hb)
          replace KD4 := Lib.hid (KD4.out.below hb KD4.out.lt)
          replace RD4 := Lib.hid ((RD4.out.below hb).more hb.size)
          replace RD8 := Lib.hid ((RD8.out.below hb).more hb.size)
          clear hb RT
          generalize (w30.alloc (.cells #[.string (S [97])] 9)).drewN q1 = w31 at *
          obtain ⟨b, off, p, hA4, -, hp0, hrg⟩ := DD4.out.rw_.hput (k := 0) (by rw [W4.out]; decide)
          have hpe := P4.out p hp0
          obtain ⟨sw, pA, pn, pc, pd⟩ := p
          obtain ⟨rfl, rfl⟩ : sw = true ∧ pd = [1, 97] := hpe
          have hpp := DD4.out.all _ (List.mem_of_getElem? hp0)
          obtain rfl : pn = 2 := hpp.1.len_b.symm
          have v1 := conv_b (c := pc) hpp.1
          have x0 := hrg 0 _ rfl
          have x1 := hrg 1 _ rfl
          have y1 := KD4.out.cell 1
          rw [hA4, W4.out] at y1
          clear hp0 hpp hrg hA4
          simp only [Nat.zero_mul, Nat.add_zero] at x0 x1
          go_wp2_with fail
          clear v1 x0 x1 y1
          replace C := Lib.hid (below_alloc C.out (.cells #[.string (S [120])] 9))
          replace DD4 := Lib.hid (DD4.out.alloc (.cells #[.string (S [120])] 9))
          replace KD4 := Lib.hid (KD4.out.alloc (.cells #[.string (S [120])] 9))
          replace RD4 := Lib.hid (RD4.out.up_alloc (.cells #[.string (S [120])] 9))
          replace RD8 := Lib.hid (RD8.out.up_alloc (.cells #[.string (S [120])] 9))
          have RT := Lib.hid ((newTAt (w := w31) (g := w31.heap.size) rfl [S [120]] #[.string (S [120])] rfl).more (B' := (w31.alloc (.cells #[.string (S [120])] 9)).heap.size) (by simp))
          refine (sameTexts_yes D8A 1 D8c (some ⟨w31.heap.size, 0, none⟩) 1 1 _ _ _ [S [120]] _ RD8.out RT.out (by omega) rfl).mono ?_
          rintro e32 w32 ⟨rfl, q2, rfl⟩
          go_wp2
          go_ret
          exact ⟨rfl, then_drewN C.out q2⟩
      · go_wp2_with fail
        replace C := Lib.hid (below_alloc C.out (.cells #[.slice none 0 0, .slice none 0 0] 25))
        replace DD4 := Lib.hid (DD4.out.alloc (.cells #[.slice none 0 0, .slice none 0 0] 25))
        replace KD4 := Lib.hid (KD4.out.alloc (.cells #[.slice none 0 0, .slice none 0 0] 25))
        replace RD4 := Lib.hid (RD4.out.up_alloc (.cells #[.slice none 0 0, .slice none 0 0] 25))
        replace RD8 := Lib.hid (RD8.out.up_alloc (.cells #[.slice none 0 0, .slice none 0 0] 25))
        replace DDx := Lib.hid (DDx.out.alloc (.cells #[.slice none 0 0, .slice none 0 0] 25))
        have KZ := Lib.hid (Blk.newAt (w := (wq1.alloc (.cells (zeroStrs 1025) 9))) (g := wq1.heap.size + 1) (by simp) 25 #[.slice none 0 0, .slice none 0 0])
        simp only [Qn]
        refine ⟨trivial, ?_⟩
        refine T_one (i := 2) rfl (by kernel_rfl) ?_
        · go_wp2_with fail
          refine (add_many Dx _ 1025 1025 _ DDx.out (by rw [EDx.out]; rfl) (by decide) (by decide)).mono ?_
          rintro e41 wq3 ⟨rfl, hb⟩
          replace C := Lib.hid (C.out.trans (hb.mono C.out.size))
          replace DD4 := Lib.hid (DD4.out.up hb)
          replace KD4 := Lib.hid (KD4.out.below hb KD4.out.lt)
          replace RD4 := Lib.hid ((RD4.out.below hb).more hb.size)
          replace RD8 := Lib.hid ((RD8.out.below hb).more hb.size)
          replace DDx := Lib.hid (DDx.out.up hb)
          replace KZ := Lib.hid (KZ.out.below hb KZ.out.lt)
          clear hb
          clear DDx EDx
          go_wp2_with fail
          simp only [Qn]
          refine ⟨trivial, ?_⟩
          refine T_takeL (i := 3) (v := ?_) rfl (by kernel_rfl) (fun _ _ _ h => h) (Or.inl ⟨by rfl, ?_⟩) TT.out ?_
          rotate_left
          · ((intro w hSw; (try dsimp only at hSw); go_simp) <;> with_reducible rfl)
          try simp only [Act.put, List.setIfInBounds_toArray, List.set_cons_zero, List.set_cons_succ]
          refine T_takeL (i := 4) (v := ?_) rfl (by kernel_rfl) (fun _ _ _ h => h) (Or.inl ⟨by rfl, ?_⟩) TT.out ?_
          rotate_left
          · ((intro w hSw; (try dsimp only at hSw); go_simp) <;> with_reducible rfl)
          try simp only [Act.put, List.setIfInBounds_toArray, List.set_cons_zero, List.set_cons_succ]
          refine T_takeL (i := 5) (v := ?_) rfl (by kernel_rfl) (fun _ _ _ h => h) (Or.inl ⟨by rfl, ?_⟩) TT.out ?_
          rotate_left
          · ((intro w hSw; (try dsimp only at hSw); go_simp) <;> with_reducible rfl)
          try simp only [Act.put, List.setIfInBounds_toArray, List.set_cons_zero, List.set_cons_succ]
          refine T_one (i := 7) rfl (by kernel_rfl) ?_
          have z0 := KZ.out.cell 0
          have fz0 := KZ.out.frozen 0
          have ez0 := set_same KZ.out (i := 0) (u := .slice none 0 0) rfl
          have z1 := KZ.out.cell 1
          have fz1 := KZ.out.frozen 1
          have ez1 := set_same KZ.out (i := 1) (u := .slice none 0 0) rfl
          go_wp2_with fail
          (first | rw [ez0, ez1] | skip)
          clear z0 fz0 ez0 z1 fz1 ez1 KZ
          simp only [Qn]
          refine ⟨trivial, ?_⟩
          refine T_end (by kernel_rfl) ?_
          go_wp2_with fail
          go_wp2_with fail
          refine (alive04_any _).mono ?_
          rintro e30 w30 ⟨rfl, hb⟩
          replace C := Lib.hid (C.out.trans (hb.mono C.out.size))
          replace DD4 := Lib.hid (DD4.out.up hb)
          replace KD4 := Lib.hid (KD4.out.below hb KD4.out.lt)
          replace RD4 := Lib.hid ((RD4.out.below hb).more hb.size)
          replace RD8 := Lib.hid ((RD8.out.below hb).more hb.size)
          clear hb
          replace C := Lib.hid (below_alloc C.out (.cells #[.string (S [97])] 9))
          replace DD4 := Lib.hid (DD4.out.alloc (.cells #[.string (S [97])] 9))
          replace KD4 := Lib.hid (KD4.out.alloc (.cells #[.string (S [97])] 9))
          replace RD4 := Lib.hid (RD4.out.up_alloc (.cells #[.string (S [97])] 9))
          replace RD8 := Lib.hid (RD8.out.up_alloc (.cells #[.string (S [97])] 9))
          have RT := Lib.hid ((newTAt (w := w30) (g := w30.heap.size) rfl [S [97]] #[.string (S [97])] rfl).more (B' := (w30.alloc (.cells #[.string (S [97])] 9)).heap.size) (by simp))
          go_wp2_with fail
          refine (sameTexts_yes D4A 1 D4c (some ⟨w30.heap.size, 0, none⟩) 1 1 _ _ _ [S [97]] _ RD4.out RT.out (by omega) rfl).mono ?_
          rintro e31 w31 ⟨rfl, q1, rfl⟩
          have hb := below_drewN (Below.refl (w30.alloc (.cells #[.string (S [97])] 9)).heap.size (w30.alloc (.cells #[.string (S [97])] 9))) q1
          replace C := Lib.hid (C.out.trans (hb.mono C.out.size))
          replace DD4 := Lib.hid (DD4.out.up hb)
          replace KD4 := Lib.hid (KD4.out.below hb KD4.out.lt)
          replace RD4 := Lib.hid ((RD4.out.below hb).more hb.size)
          replace RD8 := Lib.hid ((RD8.out.below hb).more hb.size)
          clear hb RT
          generalize (w30.alloc (.cells #[.string (S [97])] 9)).drewN q1 = w31 at *
          obtain ⟨b, off, p, hA4, -, hp0, hrg⟩ := DD4.out.rw_.hput (k := 0) (by rw [W4.out]; decide)
          have hpe := P4.out p hp0
          obtain ⟨sw, pA, pn, pc, pd⟩ := p
          obtain ⟨rfl, rfl⟩ : sw = true ∧ pd = [1, 97] := hpe
          have hpp := DD4.out.all _ (List.mem_of_getElem? hp0)
          obtain rfl : pn = 2 := hpp.1.len_b.symm
          have v1 := conv_b (c := pc) hpp.1
          have x0 := hrg 0 _ rfl
          have x1 := hrg 1 _ rfl
          have y1 := KD4.out.cell 1
          rw [hA4, W4.out] at y1
          clear hp0 hpp hrg hA4
          simp only [Nat.zero_mul, Nat.add_zero] at x0 x1
          go_wp2_with fail
          clear v1 x0 x1 y1
          replace C := Lib.hid (below_alloc C.out (.cells #[.string (S [120])] 9))
          replace DD4 := Lib.hid (DD4.out.alloc (.cells #[.string (S [120])] 9))
          replace KD4 := Lib.hid (KD4.out.alloc (.cells #[.string (S [120])] 9))
          replace RD4 := Lib.hid (RD4.out.up_alloc (.cells #[.string (S [120])] 9))
          replace RD8 := Lib.hid (RD8.out.up_alloc (.cells #[.string (S [120])] 9))
          have RT := Lib.hid ((newTAt (w := w31) (g := w31.heap.size) rfl [S [120]] #[.string (S [120])] rfl).more (B' := (w31.alloc (.cells #[.string (S [120])] 9)).heap.size) (by simp))
          refine (sameTexts_yes D8A 1 D8c (some ⟨w31.heap.size, 0, none⟩) 1 1 _ _ _ [S [120]] _ RD8.out RT.out (by omega) rfl).mono ?_
          rintro e32 w32 ⟨rfl, q2, rfl⟩
          go_wp2
          go_ret
          exact ⟨rfl, then_drewN C.out q2⟩
    · go_wp2_with fail
      replace C := Lib.hid (below_alloc C.out (.cells #[.slice none 0 0, .slice none 0 0] 25))
      replace DD4 := Lib.hid (DD4.out.alloc (.cells #[.slice none 0 0, .slice none 0 0] 25))
      replace KD4 := Lib.hid (KD4.out.alloc (.cells #[.slice none 0 0, .slice none 0 0] 25))
      replace RD4 := Lib.hid (RD4.out.up_alloc (.cells #[.slice none 0 0, .slice none 0 0] 25))
      replace RD8 := Lib.hid (RD8.out.up_alloc (.cells #[.slice none 0 0, .slice none 0 0] 25))
      replace DDx := Lib.hid (DDx.out.alloc (.cells #[.slice none 0 0, .slice none 0 0] 25))
      have KZ := Lib.hid (Blk.newAt (w := wq1) (g := wq1.heap.size) (by simp) 25 #[.slice none 0 0, .slice none 0 0])
      simp only [Qn]
      refine ⟨trivial, ?_⟩
      refine T_one (i := 1) rfl (by kernel_rfl) ?_
      · go_wp2_with fail
        replace C := Lib.hid (below_alloc C.out (.cells (zeroStrs 1025) 9))
        replace DD4 := Lib.hid (DD4.out.alloc (.cells (zeroStrs 1025) 9))
        replace KD4 := Lib.hid (KD4.out.alloc (.cells (zeroStrs 1025) 9))
        replace RD4 := Lib.hid (RD4.out.up_alloc (.cells (zeroStrs 1025) 9))
        replace RD8 := Lib.hid (RD8.out.up_alloc (.cells (zeroStrs 1025) 9))
        replace DDx := Lib.hid (DDx.out.alloc (.cells (zeroStrs 1025) 9))
        replace KZ := Lib.hid (KZ.out.alloc (.cells (zeroStrs 1025) 9))
        simp only [Qn]
        refine ⟨trivial, ?_⟩
        refine T_one (i := 2) rfl (by kernel_rfl) ?_
        · go_wp2_with fail
          refine (add_many Dx _ 1025 1025 _ DDx.out (by rw [EDx.out]; rfl) (by decide) (by decide)).mono ?_
          rintro e41 wq4 ⟨rfl, hb⟩
          replace C := Lib.hid (C.out.trans (hb.mono C.out.size))
          replace DD4 := Lib.hid (DD4.out.up hb)
          replace KD4 := Lib.hid (KD4.out.below hb KD4.out.lt)
          replace RD4 := Lib.hid ((RD4.out.below hb).more hb.size)
          replace RD8 := Lib.hid ((RD8.out.below hb).more hb.size)
          replace DDx := Lib.hid (DDx.out.up hb)
          replace KZ := Lib.hid (KZ.out.below hb KZ.out.lt)
          clear hb
          clear DDx EDx
          go_wp2_with fail
          simp only [Qn]
          refine ⟨trivial, ?_⟩
          refine T_takeL (i := 3) (v := ?_) rfl (by kernel_rfl) (fun _ _ _ h => h) (Or.inl ⟨by rfl, ?_⟩) TT.out ?_
          rotate_left
          · ((intro w hSw; (try dsimp only at hSw); go_simp) <;> with_reducible rfl)
          try simp only [Act.put, List.setIfInBounds_toArray, List.set_cons_zero, List.set_cons_succ]
          refine T_takeL (i := 4) (v := ?_) rfl (by kernel_rfl) (fun _ _ _ h => h) (Or.inl ⟨by rfl, ?_⟩) TT.out ?_
          rotate_left
          · ((intro w hSw; (try dsimp only at hSw); go_simp) <;> with_reducible rfl)
          try simp only [Act.put, List.setIfInBounds_toArray, List.set_cons_zero, List.set_cons_succ]
          refine T_takeL (i := 5) (v := ?_) rfl (by kernel_rfl) (fun _ _ _ h => h) (Or.inl ⟨by rfl, ?_⟩) TT.out ?_
          rotate_left
          · ((intro w hSw; (try dsimp only at hSw); go_simp) <;> with_reducible rfl)
          try simp only [Act.put, List.setIfInBounds_toArray, List.set_cons_zero, List.set_cons_succ]
          refine T_one (i := 7) rfl (by kernel_rfl) ?_
          have z0 := KZ.out.cell 0
          have fz0 := KZ.out.frozen 0
          have ez0 := set_same KZ.out (i := 0) (u := .slice none 0 0) rfl
          have z1 := KZ.out.cell 1
          have fz1 := KZ.out.frozen 1
          have ez1 := set_same KZ.out (i := 1) (u := .slice none 0 0) rfl
          go_wp2_with fail
          (first | rw [ez0, ez1] | skip)
          clear z0 fz0 ez0 z1 fz1 ez1 KZ
          simp only [Qn]
          refine ⟨trivial, ?_⟩
          refine T_end (by kernel_rfl) ?_
          go_wp2_with fail
          go_wp2_with fail
          refine (alive04_any _).mono ?_
          rintro e30 w30 ⟨rfl, hb⟩
          replace C := Lib.hid (C.out.trans (hb.mono C.out.size))
          replace DD4 := Lib.hid (DD4.out.up hb)
          replace KD4 := Lib.hid (KD4.out.below hb KD4.out.lt)
          replace RD4 := Lib.hid ((RD4.out.below hb).more hb.size)
          replace RD8 := Lib.hid ((RD8.out.below hb).more hb.size)
          clear hb
          replace C := Lib.hid (below_alloc C.out (.cells #[.string (S [97])] 9))
          replace DD4 := Lib.hid (DD4.out.alloc (.cells #[.string (S [97])] 9))
          replace KD4 := Lib.hid (KD4.out.alloc (.cells #[.string (S [97])] 9))
          replace RD4 := Lib.hid (RD4.out.up_alloc (.cells #[.string (S [97])] 9))
          replace RD8 := Lib.hid (RD8.out.up_alloc (.cells #[.string (S [97])] 9))
          have RT := Lib.hid ((newTAt (w := w30) (g := w30.heap.size) rfl [S [97]] #[.string (S [97])] rfl).more (B' := (w30.alloc (.cells #[.string (S [97])] 9)).heap.size) (by simp))
          go_wp2_with fail
          refine (sameTexts_yes D4A 1 D4c (some ⟨w30.heap.size, 0, none⟩) 1 1 _ _ _ [S [97]] _ RD4.out RT.out (by omega) rfl).mono ?_
          rintro e31 w31 ⟨rfl, q1, rfl⟩
          have hb := below_drewN (Below.refl (w30.alloc (.cells #[.string (S [97])] 9)).heap.size (w30.alloc (.cells #[.string (S [97])] 9))) q1
          replace C := Lib.hid (C.out.trans (hb.mono C.out.size))
          replace DD4 := Lib.hid (DD4.out.up hb)
          replace KD4 := Lib.hid (KD4.out.below hb KD4.out.lt)
          replace RD4 := Lib.hid ((RD4.out.below hb).more hb.size)
          replace RD8 := Lib.hid ((RD8.out.below hb).more hb.size)
          clear hb RT
          generalize (w30.alloc (.cells #[.string (S [97])] 9)).drewN q1 = w31 at *
          obtain ⟨b, off, p, hA4, -, hp0, hrg⟩ := DD4.out.rw_.hput (k := 0) (by rw [W4.out]; decide)
          have hpe := P4.out p hp0
          obtain ⟨sw, pA, pn, pc, pd⟩ := p
          obtain ⟨rfl, rfl⟩ : sw = true ∧ pd = [1, 97] := hpe
          have hpp := DD4.out.all _ (List.mem_of_getElem? hp0)
          obtain rfl : pn = 2 := hpp.1.len_b.symm
          have v1 := conv_b (c := pc) hpp.1
          have x0 := hrg 0 _ rfl
          have x1 := hrg 1 _ rfl
          have y1 := KD4.out.cell 1
          rw [hA4, W4.out] at y1
          clear hp0 hpp hrg hA4
          simp only [Nat.zero_mul, Nat.add_zero] at x0 x1
          go_wp2_with fail
          clear v1 x0 x1 y1
          replace C := Lib.hid (below_alloc C.out (.cells #[.string (S [120])] 9))
          replace DD4 := Lib.hid (DD4.out.alloc (.cells #[.string (S [120])] 9))
          replace KD4 := Lib.hid (KD4.out.alloc (.cells #[.string (S [120])] 9))
          replace RD4 := Lib.hid (RD4.out.up_alloc (.cells #[.string (S [120])] 9))
          replace RD8 := Lib.hid (RD8.out.up_alloc (.cells #[.string (S [120])] 9))
          have RT := Lib.hid ((newTAt (w := w31) (g := w31.heap.size) rfl [S [120]] #[.string (S [120])] rfl).more (B' := (w31.alloc (.cells #[.string (S [120])] 9)).heap.size) (by simp))
          refine (sameTexts_yes D8A 1 D8c (some ⟨w31.heap.size, 0, none⟩) 1 1 _ _ _ [S [120]] _ RD8.out RT.out (by omega) rfl).mono ?_
          rintro e32 w32 ⟨rfl, q2, rfl⟩
          go_wp2
          go_ret
          exact ⟨rfl, then_drewN C.out q2⟩
  · go_wp2_with fail
    replace C := Lib.hid (below_alloc C.out (.cells (zeroStrs 1025) 9))
    replace DD4 := Lib.hid (DD4.out.alloc (.cells (zeroStrs 1025) 9))
    replace KD4 := Lib.hid (KD4.out.alloc (.cells (zeroStrs 1025) 9))
    replace RD4 := Lib.hid (RD4.out.up_alloc (.cells (zeroStrs 1025) 9))
    replace RD8 := Lib.hid (RD8.out.up_alloc (.cells (zeroStrs 1025) 9))
    simp only [Qn]
    refine ⟨trivial, ?_⟩
    refine T_two (i := 0) (j := 6) rfl rfl (by kernel_rfl) ?_ ?_
    · go_wp2_with fail
      refine (one_any _).mono ?_
      rintro e40 wq5 ⟨Dx, rfl, hd, hd2, hb⟩
      replace C := Lib.hid (C.out.trans (hb.mono C.out.size))
      replace DD4 := Lib.hid (DD4.out.up hb)
      replace KD4 := Lib.hid (KD4.out.below hb KD4.out.lt)
      replace RD4 := Lib.hid ((RD4.out.below hb).more hb.size)
      replace RD8 := Lib.hid ((RD8.out.below hb).more hb.size)
      have DDx := Lib.hid hd
      have EDx := Lib.hid hd2
      clear hd hd2 hb
      go_wp2_with fail
      simp only [Qn]
      refine ⟨trivial, ?_⟩
      refine T_two (i := 2) (j := 6) rfl rfl (by kernel_rfl) ?_ ?_
      · go_wp2_with fail
        refine (add_many Dx _ 1025 1025 _ DDx.out (by rw [EDx.out]; rfl) (by decide) (by decide)).mono ?_
        rintro e41 wq6 ⟨rfl, hb⟩
        replace C := Lib.hid (C.out.trans (hb.mono C.out.size))
        replace DD4 := Lib.hid (DD4.out.up hb)
        replace KD4 := Lib.hid (KD4.out.below hb KD4.out.lt)
        replace RD4 := Lib.hid ((RD4.out.below hb).more hb.size)
        replace RD8 := Lib.hid ((RD8.out.below hb).more hb.size)
        replace DDx := Lib.hid (DDx.out.up hb)
        clear hb
        clear DDx EDx
        go_wp2_with fail
        simp only [Qn]
        refine ⟨trivial, ?_⟩
        refine T_takeL (i := 3) (v := ?_) rfl (by kernel_rfl) (fun _ _ _ h => h) (Or.inl ⟨by rfl, ?_⟩) TT.out ?_
        rotate_left
        · ((intro w hSw; (try dsimp only at hSw); go_simp) <;> with_reducible rfl)
        try simp only [Act.put, List.setIfInBounds_toArray, List.set_cons_zero, List.set_cons_succ]
        refine T_takeL (i := 4) (v := ?_) rfl (by kernel_rfl) (fun _ _ _ h => h) (Or.inl ⟨by rfl, ?_⟩) TT.out ?_
        rotate_left
        · ((intro w hSw; (try dsimp only at hSw); go_simp) <;> with_reducible rfl)
        try simp only [Act.put, List.setIfInBounds_toArray, List.set_cons_zero, List.set_cons_succ]
        refine T_takeL (i := 5) (v := ?_) rfl (by kernel_rfl) (fun _ _ _ h => h) (Or.inl ⟨by rfl, ?_⟩) TT.out ?_
        rotate_left
        · ((intro w hSw; (try dsimp only at hSw); go_simp) <;> with_reducible rfl)
        try simp only [Act.put, List.setIfInBounds_toArray, List.set_cons_zero, List.set_cons_succ]
        refine T_one (i := 6) rfl (by kernel_rfl) ?_
        · go_wp2_with fail
          replace C := Lib.hid (below_alloc C.out (.cells #[.slice none 0 0, .slice none 0 0] 25))
          replace DD4 := Lib.hid (DD4.out.alloc (.cells #[.slice none 0 0, .slice none 0 0] 25))
          replace KD4 := Lib.hid (KD4.out.alloc (.cells #[.slice none 0 0, .slice none 0 0] 25))
          replace RD4 := Lib.hid (RD4.out.up_alloc (.cells #[.slice none 0 0, .slice none 0 0] 25))
          replace RD8 := Lib.hid (RD8.out.up_alloc (.cells #[.slice none 0 0, .slice none 0 0] 25))
          have KZ := Lib.hid (Blk.newAt (w := wq6) (g := wq6.heap.size) (by simp) 25 #[.slice none 0 0, .slice none 0 0])
          simp only [Qn]
          refine ⟨trivial, ?_⟩
          refine T_one (i := 7) rfl (by kernel_rfl) ?_
          have z0 := KZ.out.cell 0
          have fz0 := KZ.out.frozen 0
          have ez0 := set_same KZ.out (i := 0) (u := .slice none 0 0) rfl
          have z1 := KZ.out.cell 1
          have fz1 := KZ.out.frozen 1
          have ez1 := set_same KZ.out (i := 1) (u := .slice none 0 0) rfl
          go_wp2_with fail
          (first | rw [ez0, ez1] | skip)
          clear z0 fz0 ez0 z1 fz1 ez1 KZ
          simp only [Qn]
          refine ⟨trivial, ?_⟩
          refine T_end (by kernel_rfl) ?_
          go_wp2_with fail
          go_wp2_with fail
          refine (alive04_any _).mono ?_
          rintro e30 w30 ⟨rfl, hb⟩
          replace C := Lib.hid (C.out.trans (hb.mono C.out.size))
          replace DD4 := Lib.hid (DD4.out.up hb)
          replace KD4 := Lib.hid (KD4.out.below hb KD4.out.lt)
          replace RD4 := Lib.hid ((RD4.out.below hb).more hb.size)
          replace RD8 := Lib.hid ((RD8.out.below hb).more hb.size)
          clear hb
          replace C := Lib.hid (below_alloc C.out (.cells #[.string (S [97])] 9))
          replace DD4 := Lib.hid (DD4.out.alloc (.cells #[.string (S [97])] 9))
          replace KD4 := Lib.hid (KD4.out.alloc (.cells #[.string (S [97])] 9))
          replace RD4 := Lib.hid (RD4.out.up_alloc (.cells #[.string (S [97])] 9))
          replace RD8 := Lib.hid (RD8.out.up_alloc (.cells #[.string (S [97])] 9))
          have RT := Lib.hid ((newTAt (w := w30) (g := w30.heap.size) rfl [S [97]] #[.string (S [97])] rfl).more (B' := (w30.alloc (.cells #[.string (S [97])] 9)).heap.size) (by simp))
          go_wp2_with fail
          refine (sameTexts_yes D4A 1 D4c (some ⟨w30.heap.size, 0, none⟩) 1 1 _ _ _ [S [97]] _ RD4.out RT.out (by omega) rfl).mono ?_
          rintro e31 w31 ⟨rfl, q1, rfl⟩
          have hb := below_drewN (Below.refl (w30.alloc (.cells #[.string (S [97])] 9)).heap.size (w30.alloc (.cells #[.string (S [97])] 9))) q1
          replace C := Lib.hid (C.out.trans (hb.mono C.out.size))
          replace DD4 := Lib.hid (DD4.out.up hb)
          replace KD4 := Lib.hid (KD4.out.below hb KD4.out.lt)
          replace RD4 := Lib.hid ((RD4.out.below hb).more hb.size)
          replace RD8 := Lib.hid ((RD8.out.below hb).more hb.size)
          clear hb RT
          generalize (w30.alloc (.cells #[.string (S [97])] 9)).drewN q1 = w31 at *
          obtain ⟨b, off, p, hA4, -, hp0, hrg⟩ := DD4.out.rw_.hput (k := 0) (by rw [W4.out]; decide)
          have hpe := P4.out p hp0
          obtain ⟨sw, pA, pn, pc, pd⟩ := p
          obtain ⟨rfl, rfl⟩ : sw = true ∧ pd = [1, 97] := hpe
          have hpp := DD4.out.all _ (List.mem_of_getElem? hp0)
          obtain rfl : pn = 2 := hpp.1.len_b.symm
          have v1 := conv_b (c := pc) hpp.1
          have x0 := hrg 0 _ rfl
          have x1 := hrg 1 _ rfl
          have y1 := KD4.out.cell 1
          rw [hA4, W4.out] at y1
          clear hp0 hpp hrg hA4
          simp only [Nat.zero_mul, Nat.add_zero] at x0 x1
          go_wp2_with fail
          clear v1 x0 x1 y1
          replace C := Lib.hid (below_alloc C.out (.cells #[.string (S [120])] 9))
          replace DD4 := Lib.hid (DD4.out.alloc (.cells #[.string (S [120])] 9))
          replace KD4 := Lib.hid (KD4.out.alloc (.cells #[.string (S [120])] 9))
          replace RD4 := Lib.hid (RD4.out.up_alloc (.cells #[.string (S [120])] 9))
          replace RD8 := Lib.hid (RD8.out.up_alloc (.cells #[.string (S [120])] 9))
          have RT := Lib.hid ((newTAt (w := w31) (g := w31.heap.size) rfl [S [120]] #[.string (S [120])] rfl).more (B' := (w31.alloc (.cells #[.string (S [120])] 9)).heap.size) (by simp))
          refine (sameTexts_yes D8A 1 D8c (some ⟨w31.heap.size, 0, none⟩) 1 1 _ _ _ [S [120]] _ RD8.out RT.out (by omega) rfl).mono ?_
          rintro e32 w32 ⟨rfl, q2, rfl⟩
          go_wp2
          go_ret
          exact ⟨rfl, then_drewN C.out q2⟩
      · go_wp2_with fail
        replace C := Lib.hid (below_alloc C.out (.cells #[.slice none 0 0, .slice none 0 0] 25))
        replace DD4 := Lib.hid (DD4.out.alloc (.cells #[.slice none 0 0, .slice none 0 0] 25))
        replace KD4 := Lib.hid (KD4.out.alloc (.cells #[.slice none 0 0, .slice none 0 0] 25))
        replace RD4 := Lib.hid (RD4.out.up_alloc (.cells #[.slice none 0 0, .slice none 0 0] 25))
        replace RD8 := Lib.hid (RD8.out.up_alloc (.cells #[.slice none 0 0, .slice none 0 0] 25))
        replace DDx := Lib.hid (DDx.out.alloc (.cells #[.slice none 0 0, .slice none 0 0] 25))
        have KZ := Lib.hid (Blk.newAt (w := wq5) (g := wq5.heap.size) (by simp) 25 #[.slice none 0 0, .slice none 0 0])
        simp only [Qn]
        refine ⟨trivial, ?_⟩
        refine T_one (i := 2) rfl (by kernel_rfl) ?_
        · go_wp2_with fail
          refine (add_many Dx _ 1025 1025 _ DDx.out (by rw [EDx.out]; rfl) (by decide) (by decide)).mono ?_
          rintro e41 wq7 ⟨rfl, hb⟩
          replace C := Lib.hid (C.out.trans (hb.mono C.out.size))
          replace DD4 := Lib.hid (DD4.out.up hb)
          replace KD4 := Lib.hid (KD4.out.below hb KD4.out.lt)
          replace RD4 := Lib.hid ((RD4.out.below hb).more hb.size)
          replace RD8 := Lib.hid ((RD8.out.below hb).more hb.size)
          replace DDx := Lib.hid (DDx.out.up hb)
          replace KZ := Lib.hid (KZ.out.below hb KZ.out.lt)
          clear hb
          clear DDx EDx
          go_wp2_with fail
          simp only [Qn]
          refine ⟨trivial, ?_⟩
          refine T_takeL (i := 3) (v := ?_) rfl (by kernel_rfl) (fun _ _ _ h => h) (Or.inl ⟨by rfl, ?_⟩) TT.out ?_
          rotate_left
          · ((intro w hSw; (try dsimp only at hSw); go_simp) <;> with_reducible rfl)
          try simp only [Act.put, List.setIfInBounds_toArray, List.set_cons_zero, List.set_cons_succ]
          refine T_takeL (i := 4) (v := ?_) rfl (by kernel_rfl) (fun _ _ _ h => h) (Or.inl ⟨by rfl, ?_⟩) TT.out ?_
          rotate_left
          · ((intro w hSw; (try dsimp only at hSw); go_simp) <;> with_reducible rfl)
          try simp only [Act.put, List.setIfInBounds_toArray, List.set_cons_zero, List.set_cons_succ]
          refine T_takeL (i := 5) (v := ?_) rfl (by kernel_rfl) (fun _ _ _ h => h) (Or.inl ⟨by rfl, ?_⟩) TT.out ?_
          rotate_left
          · ((intro w hSw; (try dsimp only at hSw); go_simp) <;> with_reducible rfl)
          try simp only [Act.put, List.setIfInBounds_toArray, List.set_cons_zero, List.set_cons_succ]
          refine T_one (i := 7) rfl (by kernel_rfl) ?_
          have z0 := KZ.out.cell 0
          have fz0 := KZ.out.frozen 0
          have ez0 := set_same KZ.out (i := 0) (u := .slice none 0 0) rfl
          have z1 := KZ.out.cell 1
          have fz1 := KZ.out.frozen 1
          have ez1 := set_same KZ.out (i := 1) (u := .slice none 0 0) rfl
          go_wp2_with fail
          (first | rw [ez0, ez1] | skip)
          clear z0 fz0 ez0 z1 fz1 ez1 KZ
          simp only [Qn]
          refine ⟨trivial, ?_⟩
          refine T_end (by kernel_rfl) ?_
          go_wp2_with fail
          go_wp2_with fail
          refine (alive04_any _).mono ?_
          rintro e30 w30 ⟨rfl, hb⟩
          replace C := Lib.hid (C.out.trans (hb.mono C.out.size))
          replace DD4 := Lib.hid (DD4.out.up hb)
          replace KD4 := Lib.hid (KD4.out.below hb KD4.out.lt)
          replace RD4 := Lib.hid ((RD4.out.below hb).more hb.size)
          replace RD8 := Lib.hid ((RD8.out.below hb).more hb.size)
          clear hb
          replace C := Lib.hid (below_alloc C.out (.cells #[.string (S [97])] 9))
          replace DD4 := Lib.hid (DD4.out.alloc (.cells #[.string (S [97])] 9))
          replace KD4 := Lib.hid (KD4.out.alloc (.cells #[.string (S [97])] 9))
          replace RD4 := Lib.hid (RD4.out.up_alloc (.cells #[.string (S [97])] 9))
          replace RD8 := Lib.hid (RD8.out.up_alloc (.cells #[.string (S [97])] 9))
          have RT := Lib.hid ((newTAt (w := w30) (g := w30.heap.size) rfl [S [97]] #[.string (S [97])] rfl).more (B' := (w30.alloc (.cells #[.string (S [97])] 9)).heap.size) (by simp))
          go_wp2_with fail
          refine (sameTexts_yes D4A 1 D4c (some ⟨w30.heap.size, 0, none⟩) 1 1 _ _ _ [S [97]] _ RD4.out RT.out (by omega) rfl).mono ?_
          rintro e31 w31 ⟨rfl, q1, rfl⟩
          have hb := below_drewN (Below.refl (w30.alloc (.cells #[.string (S [97])] 9)).heap.size (w30.alloc (.cells #[.string (S [97])] 9))) q1
          replace C := Lib.hid (C.out.trans (hb.mono C.out.size))
          replace DD4 := Lib.hid (DD4.out.up hb)
          replace KD4 := Lib.hid (KD4.out.below hb KD4.out.lt)
          replace RD4 := Lib.hid ((RD4.out.below hb).more hb.size)
          replace RD8 := Lib.hid ((RD8.out.below hb).more hb.size)
          clear hb RT
          generalize (w30.alloc (.cells #[.string (S [97])] 9)).drewN q1 = w31 at *
          obtain ⟨b, off, p, hA4, -, hp0, hrg⟩ := DD4.out.rw_.hput (k := 0) (by rw [W4.out]; decide)
          have hpe := P4.out p hp0
          obtain ⟨sw, pA, pn, pc, pd⟩ := p
          obtain ⟨rfl, rfl⟩ : sw = true ∧ pd = [1, 97] := hpe
          have hpp := DD4.out.all _ (List.mem_of_getElem? hp0)
          obtain rfl : pn = 2 := hpp.1.len_b.symm
          have v1 := conv_b (c := pc) hpp.1
          have x0 := hrg 0 _ rfl
          have x1 := hrg 1 _ rfl
          have y1 := KD4.out.cell 1
          rw [hA4, W4.out] at y1
          clear hp0 hpp hrg hA4
          simp only [Nat.zero_mul, Nat.add_zero] at x0 x1
          go_wp2_with fail
          clear v1 x0 x1 y1
          replace C := Lib.hid (below_alloc C.out (.cells #[.string (S [120])] 9))
          replace DD4 := Lib.hid (DD4.out.alloc (.cells #[.string (S [120])] 9))
          replace KD4 := Lib.hid (KD4.out.alloc (.cells #[.string (S [120])] 9))
          replace RD4 := Lib.hid (RD4.out.up_alloc (.cells #[.string (S [120])] 9))
          replace RD8 := Lib.hid (RD8.out.up_alloc (.cells #[.string (S [120])] 9))
          have RT := Lib.hid ((newTAt (w := w31) (g := w31.heap.size) rfl [S [120]] #[.string (S [120])] rfl).more (B' := (w31.alloc (.cells #[.string (S [120])] 9)).heap.size) (by simp))
          refine (sameTexts_yes D8A 1 D8c (some ⟨w31.heap.size, 0, none⟩) 1 1 _ _ _ [S [120]] _ RD8.out RT.out (by omega) rfl).mono ?_
          rintro e32 w32 ⟨rfl, q2, rfl⟩
          go_wp2
          go_ret
          exact ⟨rfl, then_drewN C.out q2⟩
    · go_wp2_with fail
      replace C := Lib.hid (below_alloc C.out (.cells #[.slice none 0 0, .slice none 0 0] 25))
      replace DD4 := Lib.hid (DD4.out.alloc (.cells #[.slice none 0 0, .slice none 0 0] 25))
      replace KD4 := Lib.hid (KD4.out.alloc (.cells #[.slice none 0 0, .slice none 0 0] 25))
      replace RD4 := Lib.hid (RD4.out.up_alloc (.cells #[.slice none 0 0, .slice none 0 0] 25))
      replace RD8 := Lib.hid (RD8.out.up_alloc (.cells #[.slice none 0 0, .slice none 0 0] 25))
      have KZ := Lib.hid (Blk.newAt (w := (W.drew.alloc (.cells (zeroStrs 1025) 9))) (g := W.heap.size + 1) (by simp) 25 #[.slice none 0 0, .slice none 0 0])
      simp only [Qn]
      refine ⟨trivial, ?_⟩
      refine T_one (i := 0) rfl (by kernel_rfl) ?_
      · go_wp2_with fail
        refine (one_any _).mono ?_
        rintro e40 wq8 ⟨Dx, rfl, hd, hd2, hb⟩
        replace C := Lib.hid (C.out.trans (hb.mono C.out.size))
        replace DD4 := Lib.hid (DD4.out.up hb)
        replace KD4 := Lib.hid (KD4.out.below hb KD4.out.lt)
        replace RD4 := Lib.hid ((RD4.out.below hb).more hb.size)
        replace RD8 := Lib.hid ((RD8.out.below hb).more hb.size)
        replace KZ := Lib.hid (KZ.out.below hb KZ.out.lt)
        have DDx := Lib.hid hd
        have EDx := Lib.hid hd2
        clear hd hd2 hb
        go_wp2_with fail
        simp only [Qn]
        refine ⟨trivial, ?_⟩
        refine T_one (i := 2) rfl (by kernel_rfl) ?_
        · go_wp2_with fail
          refine (add_many Dx _ 1025 1025 _ DDx.out (by rw [EDx.out]; rfl) (by decide) (by decide)).mono ?_
          rintro e41 wq9 ⟨rfl, hb⟩
          replace C := Lib.hid (C.out.trans (hb.mono C.out.size))
          replace DD4 := Lib.hid (DD4.out.up hb)
          replace KD4 := Lib.hid (KD4.out.below hb KD4.out.lt)
          replace RD4 := Lib.hid ((RD4.out.below hb).more hb.size)
          replace RD8 := Lib.hid ((RD8.out.below hb).more hb.size)
          replace KZ := Lib.hid (KZ.out.below hb KZ.out.lt)
          replace DDx := Lib.hid (DDx.out.up hb)
          clear hb
          clear DDx EDx
          go_wp2_with fail
          simp only [Qn]
          refine ⟨trivial, ?_⟩
          refine T_takeL (i := 3) (v := ?_) rfl (by kernel_rfl) (fun _ _ _ h => h) (Or.inl ⟨by rfl, ?_⟩) TT.out ?_
          rotate_left
          · ((intro w hSw; (try dsimp only at hSw); go_simp) <;> with_reducible rfl)
          try simp only [Act.put, List.setIfInBounds_toArray, List.set_cons_zero, List.set_cons_succ]
          refine T_takeL (i := 4) (v := ?_) rfl (by kernel_rfl) (fun _ _ _ h => h) (Or.inl ⟨by rfl, ?_⟩) TT.out ?_
          rotate_left
          · ((intro w hSw; (try dsimp only at hSw); go_simp) <;> with_reducible rfl)
          try simp only [Act.put, List.setIfInBounds_toArray, List.set_cons_zero, List.set_cons_succ]
          refine T_takeL (i := 5) (v := ?_) rfl (by kernel_rfl) (fun _ _ _ h => h) (Or.inl ⟨by rfl, ?_⟩) TT.out ?_
          rotate_left
          · ((intro w hSw; (try dsimp only at hSw); go_simp) <;> with_reducible rfl)
          try simp only [Act.put, List.setIfInBounds_toArray, List.set_cons_zero, List.set_cons_succ]
          refine T_one (i := 7) rfl (by kernel_rfl) ?_
          have z0 := KZ.out.cell 0
          have fz0 := KZ.out.frozen 0
          have ez0 := set_same KZ.out (i := 0) (u := .slice none 0 0) rfl
          have z1 := KZ.out.cell 1
          have fz1 := KZ.out.frozen 1
          have ez1 := set_same KZ.out (i := 1) (u := .slice none 0 0) rfl
          go_wp2_with fail
          (first | rw [ez0, ez1] | skip)
          clear z0 fz0 ez0 z1 fz1 ez1 KZ
          simp only [Qn]
          refine ⟨trivial, ?_⟩
          refine T_end (by kernel_rfl) ?_
          go_wp2_with fail
          go_wp2_with fail
          refine (alive04_any _).mono ?_
          rintro e30 w30 ⟨rfl, hb⟩
          replace C := Lib.hid (C.out.trans (hb.mono C.out.size))
          replace DD4 := Lib.hid (DD4.out.up hb)
          replace KD4 := Lib.hid (KD4.out.below hb KD4.out.lt)
          replace RD4 := Lib.hid ((RD4.out.below hb).more hb.size)
          replace RD8 := Lib.hid ((RD8.out.below hb).more hb.size)
          clear hb
          replace C := Lib.hid (below_alloc C.out (.cells #[.string (S [97])] 9))
          replace DD4 := Lib.hid (DD4.out.alloc (.cells #[.string (S [97])] 9))
          replace KD4 := Lib.hid (KD4.out.alloc (.cells #[.string (S [97])] 9))
          replace RD4 := Lib.hid (RD4.out.up_alloc (.cells #[.string (S [97])] 9))
          replace RD8 := Lib.hid (RD8.out.up_alloc (.cells #[.string (S [97])] 9))
          have RT := Lib.hid ((newTAt (w := w30) (g := w30.heap.size) rfl [S [97]] #[.string (S [97])] rfl).more (B' := (w30.alloc (.cells #[.string (S [97])] 9)).heap.size) (by simp))
          go_wp2_with fail
          refine (sameTexts_yes D4A 1 D4c (some ⟨w30.heap.size, 0, none⟩) 1 1 _ _ _ [S [97]] _ RD4.out RT.out (by omega) rfl).mono ?_
          rintro e31 w31 ⟨rfl, q1, rfl⟩
          have hb := below_drewN (Below.refl (w30.alloc (.cells #[.string (S [97])] 9)).heap.size (w30.alloc (.cells #[.string (S [97])] 9))) q1
          replace C := Lib.hid (C.out.trans (hb.mono C.out.size))
          replace DD4 := Lib.hid (DD4.out.up hb)
          replace KD4 := Lib.hid (KD4.out.below hb KD4.out.lt)
          replace RD4 := Lib.hid ((RD4.out.below hb).more hb.size)
          replace RD8 := Lib.hid ((RD8.out.below hb).more hb.size)
          clear hb RT
          generalize (w30.alloc (.cells #[.string (S [97])] 9)).drewN q1 = w31 at *
          obtain ⟨b, off, p, hA4, -, hp0, hrg⟩ := DD4.out.rw_.hput (k := 0) (by rw [W4.out]; decide)
          have hpe := P4.out p hp0
          obtain ⟨sw, pA, pn, pc, pd⟩ := p
          obtain ⟨rfl, rfl⟩ : sw = true ∧ pd = [1, 97] := hpe
          have hpp := DD4.out.all _ (List.mem_of_getElem? hp0)
          obtain rfl : pn = 2 := hpp.1.len_b.symm
          have v1 := conv_b (c := pc) hpp.1
          have x0 := hrg 0 _ rfl
          have x1 := hrg 1 _ rfl
          have y1 := KD4.out.cell 1
          rw [hA4, W4.out] at y1
          clear hp0 hpp hrg hA4
          simp only [Nat.zero_mul, Nat.add_zero] at x0 x1
          go_wp2_with fail
          clear v1 x0 x1 y1
          replace C := Lib.hid (below_alloc C.out (.cells #[.string (S [120])] 9))
          replace DD4 := Lib.hid (DD4.out.alloc (.cells #[.string (S [120])] 9))
          replace KD4 := Lib.hid (KD4.out.alloc (.cells #[.string (S [120])] 9))
          replace RD4 := Lib.hid (RD4.out.up_alloc (.cells #[.string (S [120])] 9))
          replace RD8 := Lib.hid (RD8.out.up_alloc (.cells #[.string (S [120])] 9))
          have RT := Lib.hid ((newTAt (w := w31) (g := w31.heap.size) rfl [S [120]] #[.string (S [120])] rfl).more (B' := (w31.alloc (.cells #[.string (S [120])] 9)).heap.size) (by simp))
          refine (sameTexts_yes D8A 1 D8c (some ⟨w31.heap.size, 0, none⟩) 1 1 _ _ _ [S [120]] _ RD8.out RT.out (by omega) rfl).mono ?_
          rintro e32 w32 ⟨rfl, q2, rfl⟩
          go_wp2
          go_ret
          exact ⟨rfl, then_drewN C.out q2⟩
  · go_wp2_with fail
    replace C := Lib.hid (below_alloc C.out (.cells #[.slice none 0 0, .slice none 0 0] 25))
    replace DD4 := Lib.hid (DD4.out.alloc (.cells #[.slice none 0 0, .slice none 0 0] 25))
    replace KD4 := Lib.hid (KD4.out.alloc (.cells #[.slice none 0 0, .slice none 0 0] 25))
    replace RD4 := Lib.hid (RD4.out.up_alloc (.cells #[.slice none 0 0, .slice none 0 0] 25))
    replace RD8 := Lib.hid (RD8.out.up_alloc (.cells #[.slice none 0 0, .slice none 0 0] 25))
    have KZ := Lib.hid (Blk.newAt (w := W.drew) (g := W.heap.size) (by simp) 25 #[.slice none 0 0, .slice none 0 0])
    simp only [Qn]
    refine ⟨trivial, ?_⟩
    refine T_two (i := 0) (j := 1) rfl rfl (by kernel_rfl) ?_ ?_
    · go_wp2_with fail
      refine (one_any _).mono ?_
      rintro e40 wq10 ⟨Dx, rfl, hd, hd2, hb⟩
      replace C := Lib.hid (C.out.trans (hb.mono C.out.size))
      replace DD4 := Lib.hid (DD4.out.up hb)
      replace KD4 := Lib.hid (KD4.out.below hb KD4.out.lt)
      replace RD4 := Lib.hid ((RD4.out.below hb).more hb.size)
      replace RD8 := Lib.hid ((RD8.out.below hb).more hb.size)
      replace KZ := Lib.hid (KZ.out.below hb KZ.out.lt)
      have DDx := Lib.hid hd
      have EDx := Lib.hid hd2
      clear hd hd2 hb
      go_wp2_with fail
      simp only [Qn]
      refine ⟨trivial, ?_⟩
      refine T_one (i := 1) rfl (by kernel_rfl) ?_
      · go_wp2_with fail
        replace C := Lib.hid (below_alloc C.out (.cells (zeroStrs 1025) 9))
        replace DD4 := Lib.hid (DD4.out.alloc (.cells (zeroStrs 1025) 9))
        replace KD4 := Lib.hid (KD4.out.alloc (.cells (zeroStrs 1025) 9))
        replace RD4 := Lib.hid (RD4.out.up_alloc (.cells (zeroStrs 1025) 9))
        replace RD8 := Lib.hid (RD8.out.up_alloc (.cells (zeroStrs 1025) 9))
        replace KZ := Lib.hid (KZ.out.alloc (.cells (zeroStrs 1025) 9))
        replace DDx := Lib.hid (DDx.out.alloc (.cells (zeroStrs 1025) 9))
        simp only [Qn]
        refine ⟨trivial, ?_⟩
        refine T_one (i := 2) rfl (by kernel_rfl) ?_
        · go_wp2_with fail
          refine (add_many Dx _ 1025 1025 _ DDx.out (by rw [EDx.out]; rfl) (by decide) (by decide)).mono ?_
          rintro e41 wq11 ⟨rfl, hb⟩
          replace C := Lib.hid (C.out.trans (hb.mono C.out.size))
          replace DD4 := Lib.hid (DD4.out.up hb)
          replace KD4 := Lib.hid (KD4.out.below hb KD4.out.lt)
          replace RD4 := Lib.hid ((RD4.out.below hb).more hb.size)
          replace RD8 := Lib.hid ((RD8.out.below hb).more hb.size)
          replace KZ := Lib.hid (KZ.out.below hb KZ.out.lt)
          replace DDx := Lib.hid (DDx.out.up hb)
          clear hb
          clear DDx EDx
          go_wp2_with fail
          simp only [Qn]
          refine ⟨trivial, ?_⟩
          refine T_takeL (i := 3) (v := ?_) rfl (by kernel_rfl) (fun _ _ _ h => h) (Or.inl ⟨by rfl, ?_⟩) TT.out ?_
          rotate_left
          · ((intro w hSw; (try dsimp only at hSw); go_simp) <;> with_reducible rfl)
          try simp only [Act.put, List.setIfInBounds_toArray, List.set_cons_zero, List.set_cons_succ]
          refine T_takeL (i := 4) (v := ?_) rfl (by kernel_rfl) (fun _ _ _ h => h) (Or.inl ⟨by rfl, ?_⟩) TT.out ?_
          rotate_left
          · ((intro w hSw; (try dsimp only at hSw); go_simp) <;> with_reducible rfl)
          try simp only [Act.put, List.setIfInBounds_toArray, List.set_cons_zero, List.set_cons_succ]
          refine T_takeL (i := 5) (v := ?_) rfl (by kernel_rfl) (fun _ _ _ h => h) (Or.inl ⟨by rfl, ?_⟩) TT.out ?_
          rotate_left
          · ((intro w hSw; (try dsimp only at hSw); go_simp) <;> with_reducible rfl)
          try simp only [Act.put, List.setIfInBounds_toArray, List.set_cons_zero, List.set_cons_succ]
          refine T_one (i := 7) rfl (by kernel_rfl) ?_
          have z0 := KZ.out.cell 0
          have fz0 := KZ.out.frozen 0
          have ez0 := set_same KZ.out (i := 0) (u := .slice none 0 0) rfl
          have z1 := KZ.out.cell 1
          have fz1 := KZ.out.frozen 1
          have ez1 := set_same KZ.out (i := 1) (u := .slice none 0 0) rfl
          go_wp2_with fail
          (first | rw [ez0, ez1] | skip)
          clear z0 fz0 ez0 z1 fz1 ez1 KZ
          simp only [Qn]
          refine ⟨trivial, ?_⟩
          refine T_end (by kernel_rfl) ?_
          go_wp2_with fail
          go_wp2_with fail
          refine (alive04_any _).mono ?_
          rintro e30 w30 ⟨rfl, hb⟩
          replace C := Lib.hid (C.out.trans (hb.mono C.out.size))
          replace DD4 := Lib.hid (DD4.out.up hb)
          replace KD4 := Lib.hid (KD4.out.below hb KD4.out.lt)
          replace RD4 := Lib.hid ((RD4.out.below hb).more hb.size)
          replace RD8 := Lib.hid ((RD8.out.below hb).more hb.size)
          clear hb
          replace C := Lib.hid (below_alloc C.out (.cells #[.string (S [97])] 9))
          replace DD4 := Lib.hid (DD4.out.alloc (.cells #[.string (S [97])] 9))
          replace KD4 := Lib.hid (KD4.out.alloc (.cells #[.string (S [97])] 9))
          replace RD4 := Lib.hid (RD4.out.up_alloc (.cells #[.string (S [97])] 9))
          replace RD8 := Lib.hid (RD8.out.up_alloc (.cells #[.string (S [97])] 9))
          have RT := Lib.hid ((newTAt (w := w30) (g := w30.heap.size) rfl [S [97]] #[.string (S [97])] rfl).more (B' := (w30.alloc (.cells #[.string (S [97])] 9)).heap.size) (by simp))
          go_wp2_with fail
          refine (sameTexts_yes D4A 1 D4c (some ⟨w30.heap.size, 0, none⟩) 1 1 _ _ _ [S [97]] _ RD4.out RT.out (by omega) rfl).mono ?_
          rintro e31 w31 ⟨rfl, q1, rfl⟩
          have hb := below_drewN (Below.refl (w30.alloc (.cells #[.string (S [97])] 9)).heap.size (w30.alloc (.cells #[.string (S [97])] 9))) q1
          replace C := Lib.hid (C.out.trans (hb.mono C.out.size))
          replace DD4 := Lib.hid (DD4.out.up hb)
          replace KD4 := Lib.hid (KD4.out.below hb KD4.out.lt)
          replace RD4 := Lib.hid ((RD4.out.below hb).more hb.size)
          replace RD8 := Lib.hid ((RD8.out.below hb).more hb.size)
          clear hb RT
          generalize (w30.alloc (.cells #[.string (S [97])] 9)).drewN q1 = w31 at *
          obtain ⟨b, off, p, hA4, -, hp0, hrg⟩ := DD4.out.rw_.hput (k := 0) (by rw [W4.out]; decide)
          have hpe := P4.out p hp0
          obtain ⟨sw, pA, pn, pc, pd⟩ := p
          obtain ⟨rfl, rfl⟩ : sw = true ∧ pd = [1, 97] := hpe
          have hpp := DD4.out.all _ (List.mem_of_getElem? hp0)
          obtain rfl : pn = 2 := hpp.1.len_b.symm
          have v1 := conv_b (c := pc) hpp.1
          have x0 := hrg 0 _ rfl
          have x1 := hrg 1 _ rfl
          have y1 := KD4.out.cell 1
          rw [hA4, W4.out] at y1
          clear hp0 hpp hrg hA4
          simp only [Nat.zero_mul, Nat.add_zero] at x0 x1
          go_wp2_with fail
          clear v1 x0 x1 y1
          replace C := Lib.hid (below_alloc C.out (.cells #[.string (S [120])] 9))
          replace DD4 := Lib.hid (DD4.out.alloc (.cells #[.string (S [120])] 9))
          replace KD4 := Lib.hid (KD4.out.alloc (.cells #[.string (S [120])] 9))
          replace RD4 := Lib.hid (RD4.out.up_alloc (.cells #[.string (S [120])] 9))
          replace RD8 := Lib.hid (RD8.out.up_alloc (.cells #[.string (S [120])] 9))
          have RT := Lib.hid ((newTAt (w := w31) (g := w31.heap.size) rfl [S [120]] #[.string (S [120])] rfl).more (B' := (w31.alloc (.cells #[.string (S [120])] 9)).heap.size) (by simp))
          refine (sameTexts_yes D8A 1 D8c (some ⟨w31.heap.size, 0, none⟩) 1 1 _ _ _ [S [120]] _ RD8.out RT.out (by omega) rfl).mono ?_
          rintro e32 w32 ⟨rfl, q2, rfl⟩
          go_wp2
          go_ret
          exact ⟨rfl, then_drewN C.out q2⟩
    · go_wp2_with fail
      replace C := Lib.hid (below_alloc C.out (.cells (zeroStrs 1025) 9))
      replace DD4 := Lib.hid (DD4.out.alloc (.cells (zeroStrs 1025) 9))
      replace KD4 := Lib.hid (KD4.out.alloc (.cells (zeroStrs 1025) 9))
      replace RD4 := Lib.hid (RD4.out.up_alloc (.cells (zeroStrs 1025) 9))
      replace RD8 := Lib.hid (RD8.out.up_alloc (.cells (zeroStrs 1025) 9))
      replace KZ := Lib.hid (KZ.out.alloc (.cells (zeroStrs 1025) 9))
      simp only [Qn]
      refine ⟨trivial, ?_⟩
      refine T_one (i := 0) rfl (by kernel_rfl) ?_
      · go_wp2_with fail
        refine (one_any _).mono ?_
        rintro e40 wq12 ⟨Dx, rfl, hd, hd2, hb⟩
        replace C := Lib.hid (C.out.trans (hb.mono C.out.size))
        replace DD4 := Lib.hid (DD4.out.up hb)
        replace KD4 := Lib.hid (KD4.out.below hb KD4.out.lt)
        replace RD4 := Lib.hid ((RD4.out.below hb).more hb.size)
        replace RD8 := Lib.hid ((RD8.out.below hb).more hb.size)
        replace KZ := Lib.hid (KZ.out.below hb KZ.out.lt)
        have DDx := Lib.hid hd
        have EDx := Lib.hid hd2
        clear hd hd2 hb
        go_wp2_with fail
        simp only [Qn]
        refine ⟨trivial, ?_⟩
        refine T_one (i := 2) rfl (by kernel_rfl) ?_
        · go_wp2_with fail
          refine (add_many Dx _ 1025 1025 _ DDx.out (by rw [EDx.out]; rfl) (by decide) (by decide)).mono ?_
          rintro e41 wq13 ⟨rfl, hb⟩
          replace C := Lib.hid (C.out.trans (hb.mono C.out.size))
          replace DD4 := Lib.hid (DD4.out.up hb)
          replace KD4 := Lib.hid (KD4.out.below hb KD4.out.lt)
          replace RD4 := Lib.hid ((RD4.out.below hb).more hb.size)
          replace RD8 := Lib.hid ((RD8.out.below hb).more hb.size)
          replace KZ := Lib.hid (KZ.out.below hb KZ.out.lt)
          replace DDx := Lib.hid (DDx.out.up hb)
          clear hb
          clear DDx EDx
          go_wp2_with fail
          simp only [Qn]
          refine ⟨trivial, ?_⟩
          refine T_takeL (i := 3) (v := ?_) rfl (by kernel_rfl) (fun _ _ _ h => h) (Or.inl ⟨by rfl, ?_⟩) TT.out ?_
          rotate_left
          · ((intro w hSw; (try dsimp only at hSw); go_simp) <;> with_reducible rfl)
          try simp only [Act.put, List.setIfInBounds_toArray, List.set_cons_zero, List.set_cons_succ]
          refine T_takeL (i := 4) (v := ?_) rfl (by kernel_rfl) (fun _ _ _ h => h) (Or.inl ⟨by rfl, ?_⟩) TT.out ?_
          rotate_left
          · ((intro w hSw; (try dsimp only at hSw); go_simp) <;> with_reducible rfl)
          try simp only [Act.put, List.setIfInBounds_toArray, List.set_cons_zero, List.set_cons_succ]
          refine T_takeL (i := 5) (v := ?_) rfl (by kernel_rfl) (fun _ _ _ h => h) (Or.inl ⟨by rfl, ?_⟩) TT.out ?_
          rotate_left
          · ((intro w hSw; (try dsimp only at hSw); go_simp) <;> with_reducible rfl)
          try simp only [Act.put, List.setIfInBounds_toArray, List.set_cons_zero, List.set_cons_succ]
          refine T_one (i := 7) rfl (by kernel_rfl) ?_
          have z0 := KZ.out.cell 0
          have fz0 := KZ.out.frozen 0
          have ez0 := set_same KZ.out (i := 0) (u := .slice none 0 0) rfl
          have z1 := KZ.out.cell 1
          have fz1 := KZ.out.frozen 1
          have ez1 := set_same KZ.out (i := 1) (u := .slice none 0 0) rfl
          go_wp2_with fail
          (first | rw [ez0, ez1] | skip)
          clear z0 fz0 ez0 z1 fz1 ez1 KZ
          simp only [Qn]
          refine ⟨trivial, ?_⟩
          refine T_end (by kernel_rfl) ?_
          go_wp2_with fail
          go_wp2_with fail
          refine (alive04_any _).mono ?_
          rintro e30 w30 ⟨rfl, hb⟩
          replace C := Lib.hid (C.out.trans (hb.mono C.out.size))
          replace DD4 := Lib.hid (DD4.out.up hb)
          replace KD4 := Lib.hid (KD4.out.below hb KD4.out.lt)
          replace RD4 := Lib.hid ((RD4.out.below hb).more hb.size)
          replace RD8 := Lib.hid ((RD8.out.below hb).more hb.size)
          clear hb
          replace C := Lib.hid (below_alloc C.out (.cells #[.string (S [97])] 9))
          replace DD4 := Lib.hid (DD4.out.alloc (.cells #[.string (S [97])] 9))
          replace KD4 := Lib.hid (KD4.out.alloc (.cells #[.string (S [97])] 9))
          replace RD4 := Lib.hid (RD4.out.up_alloc (.cells #[.string (S [97])] 9))
          replace RD8 := Lib.hid (RD8.out.up_alloc (.cells #[.string (S [97])] 9))
          have RT := Lib.hid ((newTAt (w := w30) (g := w30.heap.size) rfl [S [97]] #[.string (S [97])] rfl).more (B' := (w30.alloc (.cells #[.string (S [97])] 9)).heap.size) (by simp))
          go_wp2_with fail
          refine (sameTexts_yes D4A 1 D4c (some ⟨w30.heap.size, 0, none⟩) 1 1 _ _ _ [S [97]] _ RD4.out RT.out (by omega) rfl).mono ?_
          rintro e31 w31 ⟨rfl, q1, rfl⟩
          have hb := below_drewN (Below.refl (w30.alloc (.cells #[.string (S [97])] 9)).heap.size (w30.alloc (.cells #[.string (S [97])] 9))) q1
          replace C := Lib.hid (C.out.trans (hb.mono C.out.size))
          replace DD4 := Lib.hid (DD4.out.up hb)
          replace KD4 := Lib.hid (KD4.out.below hb KD4.out.lt)
          replace RD4 := Lib.hid ((RD4.out.below hb).more hb.size)
          replace RD8 := Lib.hid ((RD8.out.below hb).more hb.size)
          clear hb RT
          generalize (w30.alloc (.cells #[.string (S [97])] 9)).drewN q1 = w31 at *
          obtain ⟨b, off, p, hA4, -, hp0, hrg⟩ := DD4.out.rw_.hput (k := 0) (by rw [W4.out]; decide)
          have hpe := P4.out p hp0
          obtain ⟨sw, pA, pn, pc, pd⟩ := p
          obtain ⟨rfl, rfl⟩ : sw = true ∧ pd = [1, 97] := hpe
          have hpp := DD4.out.all _ (List.mem_of_getElem? hp0)
          obtain rfl : pn = 2 := hpp.1.len_b.symm
          have v1 := conv_b (c := pc) hpp.1
          have x0 := hrg 0 _ rfl
          have x1 := hrg 1 _ rfl
          have y1 := KD4.out.cell 1
          rw [hA4, W4.out] at y1
          clear hp0 hpp hrg hA4
          simp only [Nat.zero_mul, Nat.add_zero] at x0 x1
          go_wp2_with fail
          clear v1 x0 x1 y1
          replace C := Lib.hid (below_alloc C.out (.cells #[.string (S [120])] 9))
          replace DD4 := Lib.hid (DD4.out.alloc (.cells #[.string (S [120])] 9))
          replace KD4 := Lib.hid (KD4.out.alloc (.cells #[.string (S [120])] 9))
          replace RD4 := Lib.hid (RD4.out.up_alloc (.cells #[.string (S [120])] 9))
          replace RD8 := Lib.hid (RD8.out.up_alloc (.cells #[.string (S [120])] 9))
          have RT := Lib.hid ((newTAt (w := w31) (g := w31.heap.size) rfl [S [120]] #[.string (S [120])] rfl).more (B' := (w31.alloc (.cells #[.string (S [120])] 9)).heap.size) (by simp))
          refine (sameTexts_yes D8A 1 D8c (some ⟨w31.heap.size, 0, none⟩) 1 1 _ _ _ [S [120]] _ RD8.out RT.out (by omega) rfl).mono ?_
          rintro e32 w32 ⟨rfl, q2, rfl⟩
          go_wp2
          go_ret
          exact ⟨rfl, then_drewN C.out q2⟩
end Go.Proofs.Ytihinhdgfbnlmaa
