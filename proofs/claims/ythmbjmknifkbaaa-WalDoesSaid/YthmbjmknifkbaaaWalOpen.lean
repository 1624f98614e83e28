/-
  Layer 4: wal.Open.
-/
import Derived.Test.YthmbjmknifkbaaaWalTwin
import Derived.Test.YthmbjmknifkbaaaWalPlain
import Derived.Test.YthmbjmknifkbaaaHeld2
import Derived.Test.YthmbjmknifkbaaaDiskSees
import Derived.Test.YthmbjmknifkbaaaFrame
namespace Go.Proofs.Ythmbjmknifkbaaa
open Go.RowKit
set_option maxHeartbeats 16000000
set_option maxRecDepth 100000
set_option linter.unusedVariables false
set_option linter.unusedSimpArgs false

theorem open_any (D : HD) (w : World) (R : Dp.Disk) (L : List (List UInt8)) (r : Int) (hr : Wa.opened D.disk = (R, L, r)) (h : DiskAt w w.heap.size D) :
    Calls Try.prog 7 #[.agg #[.slice D.A D.n D.c, .slice D.WA D.Wn D.Wc]] w fun e w' => ∃ D' A n c, e = .returned (.tuple #[.agg #[.slice D'.A D'.n D'.c, .slice D'.WA D'.Wn D'.Wc], .slice A n c, .int .i64 r]) ∧ OwnDisk w' w.heap.size D' ∧ D'.disk = R ∧ L.length = n ∧ w'.ownsRow w.heap.size 9 1 (.slice A n c) n (ct (L.map S)) ∧ Below w.heap.size w w' := by
  have hz : w.heap.size + 1 < w.heap.size + 2 := by omega
  have HD0 := Lib.hid h
  have HR := Lib.hid hr
  have D1 := Lib.hid ((h.alloc (.cells #[.slice D.A D.n D.c, .slice D.WA D.Wn D.Wc] 25)).alloc (.cells #[.slice none 0 0, .slice none 0 0] 25))
  have C := Lib.hid (((Below.refl _ w).alloc (Nat.le_refl w.heap.size) (.cells #[.slice D.A D.n D.c, .slice D.WA D.Wn D.Wc] 25)).alloc (by simp) (.cells #[.slice none 0 0, .slice none 0 0] 25))
  have K1 := Lib.hid ((Blk.new w 25 #[.slice D.A D.n D.c, .slice D.WA D.Wn D.Wc]).alloc (.cells #[.slice none 0 0, .slice none 0 0] 25))
  have KR := Lib.hid (Blk.newAt (w := w.alloc (.cells #[.slice D.A D.n D.c, .slice D.WA D.Wn D.Wc] 25)) (g := w.heap.size + 1) (by simp) 25 #[.slice none 0 0, .slice none 0 0])
  clear h hr
  have y0 := K1.out.cell 0
  have y1 := K1.out.cell 1
  cases hm : Dp.mayD D.disk with
  | false =>
    have e0 : Dp.see D.disk = ([], 30) := by rw [Dp.see, if_neg (by rw [hm]; simp)]
    have hr := HR.out
    rw [Wa.opened, if_neg (by rw [hm]; simp)] at hr
    obtain ⟨rfl, hr2⟩ := Prod.mk.inj hr
    obtain ⟨rfl, rfl⟩ := Prod.mk.inj hr2
    have HS := Lib.hid e0
    clear hr hr2 e0 HR hm
    go_enter Try.func7, Try.ntmps7
    go_wp2_with fail
    refine (see_is D _ _ _ HS.out D1.out).mono ?_
    rintro e w2 ⟨A2, c2, m, rfl, hmm, ho, hb⟩
    replace KR := Lib.hid (KR.out.below hb KR.out.lt)
    replace C := Lib.hid (C.out.trans (hb.mono C.out.size))
    clear hmm ho hb y0 y1
    have z0 := KR.out.cell 0
    have z1 := KR.out.cell 1
    have fz0 := KR.out.frozen 0
    have fz1 := KR.out.frozen 1
    go_wp2
    exact bodyPost_ret (v := .tuple #[.agg #[.slice none 0 0, .slice none 0 0], .slice none 0 0, .int .i64 30]) (by simp [results, Try.results7, go_sem, z0, z1]) rfl ⟨zeroHD, none, 0, 0, rfl, zeroHD_own _ _, rfl, rfl, World.ownsRow_nil _ _ _ _, (C.out.setCell (by simp) _).setCell (by simp) _⟩
  | true =>
    have e0 : Dp.see D.disk = (Dp.seen D.disk, 0) := by rw [Dp.see, if_pos hm]
    have HS := Lib.hid e0
    have HM := Lib.hid hm
    have hr := HR.out
    rw [Wa.opened, if_pos hm] at hr
    have HR2 := Lib.hid hr
    have HSL := Lib.hid (Dp.seen_len hm)
    clear e0 hm hr HR
    go_enter Try.func7, Try.ntmps7
    go_wp2_with fail
    refine (see_is D _ _ _ HS.out D1.out).mono ?_
    rintro e w2 ⟨A2, c2, m, rfl, hmm, ho, hb⟩
    have hm20 : m ≤ 1048576 := by rw [← hmm]; exact HSL.out
    have hmc : m ≤ c2 := (own_cap ho).1
    have RB := Lib.hid (Reads.of_own ho)
    have PB := Lib.hid (own_cap ho).2
    have HMM := Lib.hid hmm
    replace K1 := Lib.hid (K1.out.below hb K1.out.lt)
    replace KR := Lib.hid (KR.out.below hb KR.out.lt)
    replace C := Lib.hid (C.out.trans (hb.mono C.out.size))
    clear hmm ho hb y0 y1 D1
    go_wp2_with fail
    refine (cut_any A2 m c2 (Dp.seen D.disk) w2 RB.out hmc hm20).mono ?_
    rintro e w3 ⟨A3, c3, rfl, ho, hb⟩
    obtain ⟨Lz, z, hcut⟩ : ∃ Lz z, Nm.cut (Dp.seen D.disk) = (Lz, z) := ⟨_, _, rfl⟩
    have hzm : z ≤ m := by
      have h1 := (Nm.cut_le ((Dp.seen D.disk).length + 1) (Dp.seen D.disk)).1
      rw [HMM.out] at h1
      have h2 : (Nm.cut (Dp.seen D.disk)).2 ≤ m := by rw [Nm.cut, HMM.out]; exact h1
      rw [hcut] at h2
      exact h2
    rw [hcut] at ho
    simp only [hcut]
    have LR := Lib.hid (own_mono (base' := w.heap.size) ho C.out.size)
    have HR3 := HR2.out
    rw [hcut, HMM.out] at HR3
    simp only at HR3
    obtain ⟨nl, hnl⟩ : ∃ nl, Lz.length = nl := ⟨_, rfl⟩
    have HNL := Lib.hid hnl
    rw [hnl] at LR
    rw [hnl]
    obtain ⟨R2, r2, hW⟩ : ∃ R2 r2, Dp.write D.disk ⟨true, (Dp.seen D.disk).take z⟩ = (R2, r2) := ⟨_, _, rfl⟩
    rw [hW] at HR3
    simp only at HR3
    have HR4 := Lib.hid HR3
    have HW := Lib.hid hW
    have RZ := Lib.hid (((RB.out.first hzm).below hb).more hb.size)
    have CZ := Lib.hid (cb_take (Dp.seen D.disk) z)
    replace K1 := Lib.hid (K1.out.below hb K1.out.lt)
    replace KR := Lib.hid (KR.out.below hb KR.out.lt)
    replace C := Lib.hid (C.out.trans (hb.mono C.out.size))
    clear hcut ho hb HR2 HR3 hnl hW RB
    have y0 := K1.out.cell 0
    have y1 := K1.out.cell 1
    have hzc : z ≤ c2 := Nat.le_trans hzm hmc
    have hzc2 : (z : Int) ≤ (c2 : Int) := by omega
    have hg01 : w.heap.size + 1 < w3.heap.size := KR.out.lt
    go_wp2_with fail
    have HSS : Hid (w3.drew.cell? ⟨w.heap.size, 0, none⟩ = some (.slice D.A D.n D.c) ∧ w3.drew.cell? ⟨w.heap.size, 1, none⟩ = some (.slice D.WA D.Wn D.Wc)) := ⟨K1.out.cell 0, K1.out.cell 1⟩
    refine T_region 10 (fun w' => w'.cell? ⟨w.heap.size, 0, none⟩ = some (.slice D.A D.n D.c) ∧ w'.cell? ⟨w.heap.size, 1, none⟩ = some (.slice D.WA D.Wn D.Wc)) (by kernel_rfl) (by kernel_rfl) ?_
    refine T_takeL (i := 0) (v := ?_) rfl (by kernel_rfl) (fun _ _ _ h => h) (Or.inl ⟨by rfl, ?_⟩) HSS.out ?_
    rotate_left
    · ((intro w hSw; (try dsimp only at hSw); go_simp) <;> with_reducible rfl)
    try simp only [Act.put, List.setIfInBounds_toArray, List.set_cons_zero, List.set_cons_succ]
    refine T_takeL (i := 1) (v := ?_) rfl (by kernel_rfl) (fun _ _ _ h => h) (Or.inl ⟨by rfl, ?_⟩) HSS.out ?_
    rotate_left
    · ((intro w hSw; (try dsimp only at hSw); go_simp) <;> with_reducible rfl)
    try simp only [Act.put, List.setIfInBounds_toArray, List.set_cons_zero, List.set_cons_succ]
    refine T_takeL (i := 2) (v := ?_) rfl (by kernel_rfl) (fun _ _ _ h => h) (Or.inl ⟨by rfl, ?_⟩) HSS.out ?_
    rotate_left
    · ((intro w hSw; (try dsimp only at hSw); go_simp) <;> with_reducible rfl)
    try simp only [Act.put, List.setIfInBounds_toArray, List.set_cons_zero, List.set_cons_succ]
    refine T_takeL (i := 3) (v := ?_) rfl (by kernel_rfl) (fun _ _ _ h => h) (Or.inl ⟨by rfl, ?_⟩) HSS.out ?_
    rotate_left
    · ((intro w hSw; (try dsimp only at hSw); go_simp) <;> with_reducible rfl)
    try simp only [Act.put, List.setIfInBounds_toArray, List.set_cons_zero, List.set_cons_succ]
    refine T_two (i := 4) (j := 8) rfl rfl (by kernel_rfl) ?_ ?_
    · have DD := Lib.hid ((HD0.out.below (below_drewN C.out 1)).more C.out.size)
      have PP := Lib.hid (show PutAt w3.drew w3.drew.heap.size ⟨true, A2, z, c2, (Dp.seen D.disk).take z⟩ from ⟨by rw [← CZ.out]; exact RZ.out.drew, hzc, PB.out, by show z ≤ _; omega⟩)
      go_wp2_with fail
      refine (swap_is D A2 z c2 ((Dp.seen D.disk).take z) _ R2 r2 HW.out DD.out PP.out).mono ?_
      rintro e w5 ⟨DW, rfl, hx, hex, hb⟩
      replace K1 := Lib.hid (K1.out.drew.below hb K1.out.lt)
      replace KR := Lib.hid (KR.out.drew.below hb KR.out.lt)
      replace LR := Lib.hid (own_below (show w3.drew.ownsRow _ _ _ _ _ _ from own_keep LR.out fun _ _ => rfl) hb)
      have OW := Lib.hid ((hx.mono (base' := w.heap.size) C.out.size).alloc (.cells #[.slice DW.A DW.n DW.c, .slice DW.WA DW.Wn DW.Wc] 25))
      have EW := Lib.hid hex
      replace C := Lib.hid ((below_drewN C.out 1).trans (hb.mono C.out.size))
      have HS5 : Hid (w5.cell? ⟨w.heap.size, 0, none⟩ = some (.slice D.A D.n D.c) ∧ w5.cell? ⟨w.heap.size, 1, none⟩ = some (.slice D.WA D.Wn D.Wc)) := ⟨K1.out.cell 0, K1.out.cell 1⟩
      have HS6 : Hid ((w5.alloc (.cells #[.slice none 0 0, .slice none 0 0] 25)).cell? ⟨w.heap.size, 0, none⟩ = some (.slice D.A D.n D.c) ∧ (w5.alloc (.cells #[.slice none 0 0, .slice none 0 0] 25)).cell? ⟨w.heap.size, 1, none⟩ = some (.slice D.WA D.Wn D.Wc)) := ⟨(K1.out.alloc (.cells #[.slice none 0 0, .slice none 0 0] 25)).cell 0, (K1.out.alloc (.cells #[.slice none 0 0, .slice none 0 0] 25)).cell 1⟩
      have HS7 : Hid ((w5.alloc (.cells #[.slice DW.A DW.n DW.c, .slice DW.WA DW.Wn DW.Wc] 25)).cell? ⟨w.heap.size, 0, none⟩ = some (.slice D.A D.n D.c) ∧ (w5.alloc (.cells #[.slice DW.A DW.n DW.c, .slice DW.WA DW.Wn DW.Wc] 25)).cell? ⟨w.heap.size, 1, none⟩ = some (.slice D.WA D.Wn D.Wc)) := ⟨(K1.out.alloc (.cells #[.slice DW.A DW.n DW.c, .slice DW.WA DW.Wn DW.Wc] 25)).cell 0, (K1.out.alloc (.cells #[.slice DW.A DW.n DW.c, .slice DW.WA DW.Wn DW.Wc] 25)).cell 1⟩
      have K9 := Lib.hid (Blk.new w5 25 #[.slice DW.A DW.n DW.c, .slice DW.WA DW.Wn DW.Wc])
      clear hx hex hb DD PP y0 y1 HSS
      go_wp2_with fail
      simp only [Qn]
      refine ⟨HS5.out, ?_⟩
      refine T_takeL (i := 5) (v := ?_) rfl (by kernel_rfl) (fun _ _ _ h => h) (Or.inl ⟨by rfl, ?_⟩) HS5.out ?_
      rotate_left
      · ((intro w hSw; (try dsimp only at hSw); go_simp) <;> with_reducible rfl)
      try simp only [Act.put, List.setIfInBounds_toArray, List.set_cons_zero, List.set_cons_succ]
      refine T_takeL (i := 6) (v := ?_) rfl (by kernel_rfl) (fun _ _ _ h => h) (Or.inl ⟨by rfl, ?_⟩) HS5.out ?_
      rotate_left
      · ((intro w hSw; (try dsimp only at hSw); go_simp) <;> with_reducible rfl)
      try simp only [Act.put, List.setIfInBounds_toArray, List.set_cons_zero, List.set_cons_succ]
      refine T_takeL (i := 7) (v := ?_) rfl (by kernel_rfl) (fun _ _ _ h => h) (Or.inl ⟨by rfl, ?_⟩) HS5.out ?_
      rotate_left
      · ((intro w hSw; (try dsimp only at hSw); go_simp) <;> with_reducible rfl)
      try simp only [Act.put, List.setIfInBounds_toArray, List.set_cons_zero, List.set_cons_succ]
      refine T_one (i := 8) rfl (by kernel_rfl) ?_
      go_wp2_with fail
      simp only [Qn]
      refine ⟨HS6.out, ?_⟩
      refine T_one (i := 9) rfl (by kernel_rfl) ?_
      go_wp2_with fail
      simp only [Qn]
      refine ⟨HS7.out, ?_⟩
      refine T_end (by kernel_rfl) ?_
      have hne : w.heap.size + 1 ≠ w5.heap.size := by have := KR.out.lt; omega
      have hne2 : w5.heap.size ≠ w.heap.size + 1 := by omega
      have hg9 : w.heap.size ≤ w5.heap.size := C.out.size
      replace K1 := Lib.hid (K1.out.alloc (.cells #[.slice DW.A DW.n DW.c, .slice DW.WA DW.Wn DW.Wc] 25))
      replace KR := Lib.hid (KR.out.alloc (.cells #[.slice DW.A DW.n DW.c, .slice DW.WA DW.Wn DW.Wc] 25))
      replace LR := Lib.hid (LR.out.alloc (.cells #[.slice DW.A DW.n DW.c, .slice DW.WA DW.Wn DW.Wc] 25))
      replace C := Lib.hid (below_alloc C.out (.cells #[.slice DW.A DW.n DW.c, .slice DW.WA DW.Wn DW.Wc] 25))
      by_cases hq : z = m
      · have hq2 : (z : Int) = (m : Int) := by omega
        have dq : decide ((z : Int) = (m : Int)) = true := decide_eq_true hq2
        have hh := HR4.out
        rw [if_pos hq] at hh
        obtain ⟨rfl, hh2⟩ := Prod.mk.inj hh
        obtain ⟨rfl, rfl⟩ := Prod.mk.inj hh2
        clear hh hh2 HR4 hq
        have y0 := K1.out.cell 0
        have y1 := K1.out.cell 1
        go_wp2_with fail
        refine (twin_any D _ ((HD0.out.below C.out).more C.out.size) (by have := may_wn HM.out; have := HD0.out.len_l; omega)).mono ?_
        rintro e w9 ⟨D3, rfl, hx, hex, hb⟩
        replace K9 := Lib.hid (K9.out.below hb K9.out.lt)
        replace KR := Lib.hid (KR.out.below hb KR.out.lt)
        replace LR := Lib.hid (own_below LR.out hb)
        have O3 := Lib.hid (hx.mono (base' := w.heap.size) C.out.size)
        have E3 := Lib.hid hex
        replace C := Lib.hid (C.out.trans (hb.mono C.out.size))
        clear hx hex hb y0 y1
        have q0 := K9.out.cell 0
        have q1 := K9.out.cell 1
        have fq0 := K9.out.frozen 0
        have fq1 := K9.out.frozen 1
        have z0 := KR.out.cell 0
        have z1 := KR.out.cell 1
        have fz0 := KR.out.frozen 0
        have fz1 := KR.out.frozen 1
        have KRe := Lib.hid ((KR.out.far (p := ⟨w5.heap.size, 0, none⟩) hne (.slice D3.A D3.n D3.c)).far (p := ⟨w5.heap.size, 1, none⟩) hne (.slice D3.WA D3.Wn D3.Wc))
        have LRe := Lib.hid (own_set (own_set LR.out K9.out (by decide) 0 (.slice D3.A D3.n D3.c)) (K9.out.set_ 0 (.slice D3.A D3.n D3.c)) (by decide) 1 (.slice D3.WA D3.Wn D3.Wc))
        have Oe := Lib.hid ((O3.out.set_ K9.out 0 (.slice D3.A D3.n D3.c)).set_ (K9.out.set_ 0 (.slice D3.A D3.n D3.c)) 1 (.slice D3.WA D3.Wn D3.Wc))
        have Ce := Lib.hid ((C.out.setCell (p := ⟨w5.heap.size, 0, none⟩) hg9 (.slice D3.A D3.n D3.c)).setCell (p := ⟨w5.heap.size, 1, none⟩) hg9 (.slice D3.WA D3.Wn D3.Wc))
        go_wp2
        exact bodyPost_ret (v := .tuple #[.agg #[.slice D3.A D3.n D3.c, .slice D3.WA D3.Wn D3.Wc], .slice A3 nl c3, .int .i64 0]) (by simp [results, Try.results7, go_sem, z0, z1, hne, hne2]) rfl ⟨D3, A3, nl, c3, rfl, (Oe.out.set_ KRe.out 0 _).set_ (KRe.out.set_ 0 _) 1 _, E3.out, HNL.out, own_set (own_set LRe.out KRe.out (by decide) 0 _) (KRe.out.set_ 0 _) (by decide) 1 _, (Ce.out.setCell (by simp) _).setCell (by simp) _⟩
      · have hq2 : ¬ (z : Int) = (m : Int) := by omega
        have dq : decide ((z : Int) = (m : Int)) = false := decide_eq_false hq2
        have q0 := K9.out.cell 0
        have q1 := K9.out.cell 1
        have z0 := KR.out.cell 0
        have z1 := KR.out.cell 1
        have fz0 := KR.out.frozen 0
        have fz1 := KR.out.frozen 1
        by_cases hr0 : r2 = 0
        · subst hr0
          have hh := HR4.out
          rw [if_neg hq, if_pos rfl] at hh
          obtain ⟨rfl, hh2⟩ := Prod.mk.inj hh
          obtain ⟨rfl, rfl⟩ := Prod.mk.inj hh2
          clear hh hh2 HR4
          go_wp2
          exact bodyPost_ret (v := .tuple #[.agg #[.slice DW.A DW.n DW.c, .slice DW.WA DW.Wn DW.Wc], .slice A3 nl c3, .int .i64 0]) (by simp [results, Try.results7, go_sem, z0, z1, hne, hne2]) rfl ⟨DW, A3, nl, c3, rfl, (OW.out.set_ KR.out 0 _).set_ (KR.out.set_ 0 _) 1 _, EW.out, HNL.out, own_set (own_set LR.out KR.out (by decide) 0 _) (KR.out.set_ 0 _) (by decide) 1 _, (C.out.setCell (by simp) _).setCell (by simp) _⟩
        · have dr0 : decide (r2 = 0) = false := decide_eq_false hr0
          have hh := HR4.out
          rw [if_neg hq, if_neg hr0] at hh
          obtain ⟨rfl, hh2⟩ := Prod.mk.inj hh
          obtain ⟨rfl, rfl⟩ := Prod.mk.inj hh2
          clear hh hh2 HR4
          go_wp2
          exact bodyPost_ret (v := .tuple #[.agg #[.slice none 0 0, .slice none 0 0], .slice none 0 0, .int .i64 r2]) (by simp [results, Try.results7, go_sem, z0, z1]) rfl ⟨zeroHD, none, 0, 0, rfl, zeroHD_own _ _, rfl, rfl, World.ownsRow_nil _ _ _ _, (C.out.setCell (by simp) _).setCell (by simp) _⟩
    · replace K1 := Lib.hid (K1.out.drew.alloc (.cells #[.slice none 0 0, .slice none 0 0] 25))
      replace KR := Lib.hid (KR.out.drew.alloc (.cells #[.slice none 0 0, .slice none 0 0] 25))
      replace LR := Lib.hid ((show w3.drew.ownsRow _ _ _ _ _ _ from own_keep LR.out fun _ _ => rfl).alloc (.cells #[.slice none 0 0, .slice none 0 0] 25))
      replace C := Lib.hid (below_alloc (below_drewN C.out 1) (.cells #[.slice none 0 0, .slice none 0 0] 25))
      have K9z := Lib.hid (Blk.newAt (w := w3.drew) (g := w3.heap.size) rfl 25 #[.slice none 0 0, .slice none 0 0])
      have DD := Lib.hid ((HD0.out.below C.out).more C.out.size)
      have PP := Lib.hid ((show PutAt w3.drew w3.drew.heap.size ⟨true, A2, z, c2, (Dp.seen D.disk).take z⟩ from ⟨by rw [← CZ.out]; exact RZ.out.drew, hzc, PB.out, by show z ≤ _; omega⟩).alloc (.cells #[.slice none 0 0, .slice none 0 0] 25))
      have HS4 : Hid ((w3.drew.alloc (.cells #[.slice none 0 0, .slice none 0 0] 25)).cell? ⟨w.heap.size, 0, none⟩ = some (.slice D.A D.n D.c) ∧ (w3.drew.alloc (.cells #[.slice none 0 0, .slice none 0 0] 25)).cell? ⟨w.heap.size, 1, none⟩ = some (.slice D.WA D.Wn D.Wc)) := ⟨K1.out.cell 0, K1.out.cell 1⟩
      clear y0 y1 HSS
      go_wp2_with fail
      simp only [Qn]
      refine ⟨HS4.out, ?_⟩
      refine T_one (i := 4) rfl (by kernel_rfl) ?_
      go_wp2_with fail
      refine (swap_is D A2 z c2 ((Dp.seen D.disk).take z) _ R2 r2 HW.out DD.out PP.out).mono ?_
      rintro e w5 ⟨DW, rfl, hx, hex, hb⟩
      replace K1 := Lib.hid (K1.out.below hb K1.out.lt)
      replace KR := Lib.hid (KR.out.below hb KR.out.lt)
      replace K9z := Lib.hid (K9z.out.below hb K9z.out.lt)
      replace LR := Lib.hid (own_below LR.out hb)
      have OW := Lib.hid (hx.mono (base' := w.heap.size) C.out.size)
      have EW := Lib.hid hex
      replace C := Lib.hid (C.out.trans (hb.mono C.out.size))
      have HS5 : Hid (w5.cell? ⟨w.heap.size, 0, none⟩ = some (.slice D.A D.n D.c) ∧ w5.cell? ⟨w.heap.size, 1, none⟩ = some (.slice D.WA D.Wn D.Wc)) := ⟨K1.out.cell 0, K1.out.cell 1⟩
      have hne : w.heap.size + 1 ≠ w3.heap.size := by omega
      have hne2 : w3.heap.size ≠ w.heap.size + 1 := by omega
      have hne3 : w.heap.size ≠ w3.heap.size := by omega
      have hg9 : w.heap.size ≤ w3.heap.size := by omega
      clear hx hex hb DD PP HS4
      go_wp2_with fail
      simp only [Qn]
      refine ⟨HS5.out, ?_⟩
      refine T_takeL (i := 5) (v := ?_) rfl (by kernel_rfl) (fun _ _ _ h => h) (Or.inl ⟨by rfl, ?_⟩) HS5.out ?_
      rotate_left
      · ((intro w hSw; (try dsimp only at hSw); go_simp) <;> with_reducible rfl)
      try simp only [Act.put, List.setIfInBounds_toArray, List.set_cons_zero, List.set_cons_succ]
      refine T_takeL (i := 6) (v := ?_) rfl (by kernel_rfl) (fun _ _ _ h => h) (Or.inl ⟨by rfl, ?_⟩) HS5.out ?_
      rotate_left
      · ((intro w hSw; (try dsimp only at hSw); go_simp) <;> with_reducible rfl)
      try simp only [Act.put, List.setIfInBounds_toArray, List.set_cons_zero, List.set_cons_succ]
      refine T_takeL (i := 7) (v := ?_) rfl (by kernel_rfl) (fun _ _ _ h => h) (Or.inl ⟨by rfl, ?_⟩) HS5.out ?_
      rotate_left
      · ((intro w hSw; (try dsimp only at hSw); go_simp) <;> with_reducible rfl)
      try simp only [Act.put, List.setIfInBounds_toArray, List.set_cons_zero, List.set_cons_succ]
      have k0 := K9z.out.cell 0
      have k1 := K9z.out.cell 1
      have fk0 := K9z.out.frozen 0
      have fk1 := K9z.out.frozen 1
      replace K1 := Lib.hid ((K1.out.far (p := ⟨w3.heap.size, 0, none⟩) hne3 (.slice DW.A DW.n DW.c)).far (p := ⟨w3.heap.size, 1, none⟩) hne3 (.slice DW.WA DW.Wn DW.Wc))
      replace KR := Lib.hid ((KR.out.far (p := ⟨w3.heap.size, 0, none⟩) hne (.slice DW.A DW.n DW.c)).far (p := ⟨w3.heap.size, 1, none⟩) hne (.slice DW.WA DW.Wn DW.Wc))
      replace LR := Lib.hid (own_set (own_set LR.out K9z.out (by decide) 0 (.slice DW.A DW.n DW.c)) (K9z.out.set_ 0 (.slice DW.A DW.n DW.c)) (by decide) 1 (.slice DW.WA DW.Wn DW.Wc))
      replace OW := Lib.hid ((OW.out.set_ K9z.out 0 (.slice DW.A DW.n DW.c)).set_ (K9z.out.set_ 0 (.slice DW.A DW.n DW.c)) 1 (.slice DW.WA DW.Wn DW.Wc))
      replace C := Lib.hid ((C.out.setCell (p := ⟨w3.heap.size, 0, none⟩) hg9 (.slice DW.A DW.n DW.c)).setCell (p := ⟨w3.heap.size, 1, none⟩) hg9 (.slice DW.WA DW.Wn DW.Wc))
      have K9 := Lib.hid ((K9z.out.set_ 0 (.slice DW.A DW.n DW.c)).set_ 1 (.slice DW.WA DW.Wn DW.Wc))
      have HS7 : Hid (((w5.setCell ⟨w3.heap.size, 0, none⟩ (.slice DW.A DW.n DW.c)).setCell ⟨w3.heap.size, 1, none⟩ (.slice DW.WA DW.Wn DW.Wc)).cell? ⟨w.heap.size, 0, none⟩ = some (.slice D.A D.n D.c) ∧ ((w5.setCell ⟨w3.heap.size, 0, none⟩ (.slice DW.A DW.n DW.c)).setCell ⟨w3.heap.size, 1, none⟩ (.slice DW.WA DW.Wn DW.Wc)).cell? ⟨w.heap.size, 1, none⟩ = some (.slice D.WA D.Wn D.Wc)) := ⟨K1.out.cell 0, K1.out.cell 1⟩
      refine T_one (i := 9) rfl (by kernel_rfl) ?_
      go_wp2_with fail
      simp only [Qn]
      refine ⟨HS7.out, ?_⟩
      refine T_end (by kernel_rfl) ?_
      clear k0 k1 fk0 fk1 K9z
      generalize (w5.setCell ⟨w3.heap.size, 0, none⟩ (.slice DW.A DW.n DW.c)).setCell ⟨w3.heap.size, 1, none⟩ (.slice DW.WA DW.Wn DW.Wc) = w6 at *
      by_cases hq : z = m
      · have hq2 : (z : Int) = (m : Int) := by omega
        have dq : decide ((z : Int) = (m : Int)) = true := decide_eq_true hq2
        have hh := HR4.out
        rw [if_pos hq] at hh
        obtain ⟨rfl, hh2⟩ := Prod.mk.inj hh
        obtain ⟨rfl, rfl⟩ := Prod.mk.inj hh2
        clear hh hh2 HR4 hq
        have y0 := K1.out.cell 0
        have y1 := K1.out.cell 1
        go_wp2_with fail
        refine (twin_any D _ ((HD0.out.below C.out).more C.out.size) (by have := may_wn HM.out; have := HD0.out.len_l; omega)).mono ?_
        rintro e w9 ⟨D3, rfl, hx, hex, hb⟩
        replace K9 := Lib.hid (K9.out.below hb K9.out.lt)
        replace KR := Lib.hid (KR.out.below hb KR.out.lt)
        replace LR := Lib.hid (own_below LR.out hb)
        have O3 := Lib.hid (hx.mono (base' := w.heap.size) C.out.size)
        have E3 := Lib.hid hex
        replace C := Lib.hid (C.out.trans (hb.mono C.out.size))
        clear hx hex hb y0 y1
        have q0 := K9.out.cell 0
        have q1 := K9.out.cell 1
        have fq0 := K9.out.frozen 0
        have fq1 := K9.out.frozen 1
        have z0 := KR.out.cell 0
        have z1 := KR.out.cell 1
        have fz0 := KR.out.frozen 0
        have fz1 := KR.out.frozen 1
        have KRe := Lib.hid ((KR.out.far (p := ⟨w3.heap.size, 0, none⟩) hne (.slice D3.A D3.n D3.c)).far (p := ⟨w3.heap.size, 1, none⟩) hne (.slice D3.WA D3.Wn D3.Wc))
        have LRe := Lib.hid (own_set (own_set LR.out K9.out (by decide) 0 (.slice D3.A D3.n D3.c)) (K9.out.set_ 0 (.slice D3.A D3.n D3.c)) (by decide) 1 (.slice D3.WA D3.Wn D3.Wc))
        have Oe := Lib.hid ((O3.out.set_ K9.out 0 (.slice D3.A D3.n D3.c)).set_ (K9.out.set_ 0 (.slice D3.A D3.n D3.c)) 1 (.slice D3.WA D3.Wn D3.Wc))
        have Ce := Lib.hid ((C.out.setCell (p := ⟨w3.heap.size, 0, none⟩) hg9 (.slice D3.A D3.n D3.c)).setCell (p := ⟨w3.heap.size, 1, none⟩) hg9 (.slice D3.WA D3.Wn D3.Wc))
        go_wp2
        exact bodyPost_ret (v := .tuple #[.agg #[.slice D3.A D3.n D3.c, .slice D3.WA D3.Wn D3.Wc], .slice A3 nl c3, .int .i64 0]) (by simp [results, Try.results7, go_sem, z0, z1, hne, hne2]) rfl ⟨D3, A3, nl, c3, rfl, (Oe.out.set_ KRe.out 0 _).set_ (KRe.out.set_ 0 _) 1 _, E3.out, HNL.out, own_set (own_set LRe.out KRe.out (by decide) 0 _) (KRe.out.set_ 0 _) (by decide) 1 _, (Ce.out.setCell (by simp) _).setCell (by simp) _⟩
      · have hq2 : ¬ (z : Int) = (m : Int) := by omega
        have dq : decide ((z : Int) = (m : Int)) = false := decide_eq_false hq2
        have q0 := K9.out.cell 0
        have q1 := K9.out.cell 1
        have z0 := KR.out.cell 0
        have z1 := KR.out.cell 1
        have fz0 := KR.out.frozen 0
        have fz1 := KR.out.frozen 1
        by_cases hr0 : r2 = 0
        · subst hr0
          have hh := HR4.out
          rw [if_neg hq, if_pos rfl] at hh
          obtain ⟨rfl, hh2⟩ := Prod.mk.inj hh
          obtain ⟨rfl, rfl⟩ := Prod.mk.inj hh2
          clear hh hh2 HR4
          go_wp2
          exact bodyPost_ret (v := .tuple #[.agg #[.slice DW.A DW.n DW.c, .slice DW.WA DW.Wn DW.Wc], .slice A3 nl c3, .int .i64 0]) (by simp [results, Try.results7, go_sem, z0, z1, hne, hne2]) rfl ⟨DW, A3, nl, c3, rfl, (OW.out.set_ KR.out 0 _).set_ (KR.out.set_ 0 _) 1 _, EW.out, HNL.out, own_set (own_set LR.out KR.out (by decide) 0 _) (KR.out.set_ 0 _) (by decide) 1 _, (C.out.setCell (by simp) _).setCell (by simp) _⟩
        · have dr0 : decide (r2 = 0) = false := decide_eq_false hr0
          have hh := HR4.out
          rw [if_neg hq, if_neg hr0] at hh
          obtain ⟨rfl, hh2⟩ := Prod.mk.inj hh
          obtain ⟨rfl, rfl⟩ := Prod.mk.inj hh2
          clear hh hh2 HR4
          go_wp2
          exact bodyPost_ret (v := .tuple #[.agg #[.slice none 0 0, .slice none 0 0], .slice none 0 0, .int .i64 r2]) (by simp [results, Try.results7, go_sem, z0, z1]) rfl ⟨zeroHD, none, 0, 0, rfl, zeroHD_own _ _, rfl, rfl, World.ownsRow_nil _ _ _ _, (C.out.setCell (by simp) _).setCell (by simp) _⟩
end Go.Proofs.Ythmbjmknifkbaaa
