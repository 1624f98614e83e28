/-
  Layer 3, the reference: Write.
-/
import Derived.Test.YthmbjmknifkbaaaDiskRefC
namespace Go.Proofs.Ythmbjmknifkbaaa
open Go.RowKit
set_option maxHeartbeats 4000000
set_option maxRecDepth 100000
set_option linter.unusedVariables false
set_option linter.unusedSimpArgs false

theorem sum_le_all : ∀ {l : List Nat} {c : Nat}, (∀ x ∈ l, x ≤ c) → l.sum ≤ l.length * c
  | [], c, _ => by simp
  | x :: l, c, h => by
    have h1 := sum_le_all (l := l) (c := c) (fun y hy => h y (List.mem_cons_of_mem _ hy))
    have h2 := h x List.mem_cons_self
    simp only [List.sum_cons, List.length_cons, Nat.add_mul, Nat.one_mul]
    omega
theorem fits_mem_p {b : List UInt8} {l : List Dp.Put} (h : Dp.fits b l = true) : ∀ p ∈ l, p.d.length ≤ 1048576 := by
  induction l generalizing b with
  | nil => simp
  | cons q l ih =>
    simp only [Dp.fits, Bool.and_eq_true] at h
    intro p hp
    rcases List.mem_cons.1 hp with rfl | hp
    · have h1 := Dp.fits_first h.2
      rw [Dp.step] at h1
      split at h1
      · exact h1
      · rw [List.length_append] at h1; omega
    · exact ih h.2 p hp
theorem sm_of_may {d : Dp.Disk} (hm : Dp.mayD d = true) : d.data.length + (d.wait.map fun p => p.d.length).sum ≤ 1048576 * 1025 ∧ d.wait.length ≤ 1024 := by
  have h1 := Dp.mayD_len hm
  have h2 := Dp.mayD_fits hm
  have h3 := Dp.fits_first h2
  have h4 := sum_le_all (l := d.wait.map fun p => p.d.length) (c := 1048576) (fun x hx => by
    obtain ⟨p, hp, rfl⟩ := List.mem_map.1 hx
    exact fits_mem_p h2 p hp)
  rw [List.length_map] at h4
  omega
theorem sm_may {d : Dp.Disk} (hm : Dp.mayD d = true) : Sm d := ⟨by have := (sm_of_may hm).1; omega, by have := (sm_of_may hm).2; omega⟩
theorem sm_more {d : Dp.Disk} {p : Dp.Put} (hm : Dp.mayD d = true) (hp : p.d.length ≤ 2000000) : Sm ⟨d.data, d.wait ++ [p]⟩ :=
  ⟨by have := (sm_of_may hm).1; simp only [List.map_append, List.sum_append, List.map_cons, List.map_nil, List.sum_cons, List.sum_nil]; omega,
   by have := (sm_of_may hm).2; simp only [List.length_append, List.length_singleton]; omega⟩

theorem rwrite_ok (D : HD) (p : HP) (w : World) (b : Bool) (h : DiskAt w w.heap.size D) (hs : Sm D.disk) (hp' : PutAt w w.heap.size p) (hpn : p.n ≤ 2000000) (hm : Dp.mayD D.disk = true) (hb : Dp.mayD ⟨D.d, D.disk.wait ++ [p.put]⟩ = b) :
    Calls Try.prog 21 #[.agg #[.slice D.A D.n D.c, .slice D.WA D.Wn D.Wc], .agg #[.bool p.sw, .slice p.A p.n p.c]] w fun e w' => ∃ D', e = .returned (.tuple #[.agg #[.slice D'.A D'.n D'.c, .slice D'.WA D'.Wn D'.Wc], .int .i64 (if b = true then 0 else 9)]) ∧ OwnDisk w' w.heap.size D' ∧ D'.disk = (if b = true then ⟨D.d, D.disk.wait ++ [p.put]⟩ else Dp.zeroD) ∧ Below w.heap.size w w' := by
  obtain ⟨sw, pA, pn, pc, pd⟩ := p
  simp only at hpn ⊢
  have hz : w.heap.size + 1 < w.heap.size + 2 := by omega
  have HA := Lib.hid (((h.alloc (.cells #[.slice D.A D.n D.c, .slice D.WA D.Wn D.Wc] 25)).alloc (.cells #[.bool sw, .slice pA pn pc] 42)).alloc (.cells #[.slice none 0 0, .slice none 0 0] 25))
  have HP0 := Lib.hid hp'
  have HPD : Hid (pd.length = pn) := hp'.1.len_b
  have HD0 := Lib.hid h
  have HM := Lib.hid hm
  have HBB := Lib.hid hb
  have HS := Lib.hid hs
  have HWL := Lib.hid (may_wn hm)
  have B0 := Lib.hid ((((Below.refl _ w).alloc (Nat.le_refl w.heap.size) (.cells #[.slice D.A D.n D.c, .slice D.WA D.Wn D.Wc] 25)).alloc (by simp) (.cells #[.bool sw, .slice pA pn pc] 42)).alloc (by simp; omega) (.cells #[.slice none 0 0, .slice none 0 0] 25))
  have KD := Lib.hid (((Blk.new w 25 #[.slice D.A D.n D.c, .slice D.WA D.Wn D.Wc]).alloc (.cells #[.bool sw, .slice pA pn pc] 42)).alloc (.cells #[.slice none 0 0, .slice none 0 0] 25))
  have KP := Lib.hid ((Blk.newAt (w := w.alloc (.cells #[.slice D.A D.n D.c, .slice D.WA D.Wn D.Wc] 25)) (g := w.heap.size + 1) (by simp) 42 #[.bool sw, .slice pA pn pc]).alloc (.cells #[.slice none 0 0, .slice none 0 0] 25))
  have KR := Lib.hid (Blk.newAt (w := (w.alloc (.cells #[.slice D.A D.n D.c, .slice D.WA D.Wn D.Wc] 25)).alloc (.cells #[.bool sw, .slice pA pn pc] 42)) (g := w.heap.size + 2) (by simp) 25 #[.slice none 0 0, .slice none 0 0])
  clear h hp' hm hb hs
  go_enter Try.func21, Try.ntmps21
  go_wp2_with fail
  refine (rmay_any D _ HA.out HS.out).mono ?_
  rintro e w1 ⟨rfl, hb1⟩
  rw [HM.out]
  have KD1 := Lib.hid (Blk.below KD.out hb1 KD.out.lt)
  have KP1 := Lib.hid (Blk.below KP.out hb1 KP.out.lt)
  have KR1 := Lib.hid (Blk.below KR.out hb1 KR.out.lt)
  have HA1 := Lib.hid (HA.out.up hb1)
  have B1 := Lib.hid (B0.out.trans (hb1.mono B0.out.size))
  have hz1 := KR1.out.lt
  clear hb1 KD KP KR B0 HA
  have y0 := KD1.out.cell 0
  have y1 := KD1.out.cell 1
  go_wp2_with fail
  refine (rtwin_any D w1 HA1.out HS.out).mono ?_
  rintro e w2 ⟨D1, rfl, hd, he, hb2⟩
  obtain ⟨A1, n1, c1, d1, WA1, Wn1, Wc1, l1⟩ := D1
  have HWn : Hid (Wn1 = l1.length) := hd.at_.len_l.symm
  have HDk := Lib.hid he
  have hlim : n1 ≤ 140737488351232 := hd.lim
  have KP2 := Lib.hid ((KP1.out.below hb2 KP1.out.lt).alloc (.cells #[.slice A1 n1 c1, .slice WA1 Wn1 Wc1] 25))
  have KR2 := Lib.hid ((KR1.out.below hb2 KR1.out.lt).alloc (.cells #[.slice A1 n1 c1, .slice WA1 Wn1 Wc1] 25))
  have K7 := Lib.hid (Blk.new w2 25 #[.slice A1 n1 c1, .slice WA1 Wn1 Wc1])
  have OD := Lib.hid ((hd.mono (base' := w.heap.size + 3) (by omega)).below ((Below.refl _ w2).alloc (Nat.le_refl _) (.cells #[.slice A1 n1 c1, .slice WA1 Wn1 Wc1] 25)))
  have B2 := Lib.hid ((B1.out.trans (hb2.mono B1.out.size)).alloc (Nat.le_trans B1.out.size hb2.size) (.cells #[.slice A1 n1 c1, .slice WA1 Wn1 Wc1] 25))
  have hz2 := hb2.size
  clear hd he hb2 y0 y1 KD1 KP1 KR1 B1 HA1
  go_wp2_with fail
  have HWS := Lib.hid (show (w2.alloc (.cells #[.slice A1 n1 c1, .slice WA1 Wn1 Wc1] 25)).heap.size = w2.heap.size + 1 by simp)
  generalize w2.alloc (.cells #[.slice A1 n1 c1, .slice WA1 Wn1 Wc1] 25) = W at *
  generalize w2.heap.size = g7 at *
  have hz3 : w.heap.size + 2 < g7 := by omega
  have HWn1 : Hid (Wn1 ≤ 1024) := by
    have h1 := HWL.out
    have h2 : (l1.map HP.put).length = (D.l.map HP.put).length := congrArg (fun x : Dp.Disk => x.wait.length) HDk.out
    rw [List.length_map, List.length_map] at h2
    rw [Hid, HWn.out, h2]
    exact h1
  have HQ := Lib.hid (HP0.out.1.below B2.out)
  have HS0 := Lib.hid (cells5 K7.out.drew KP2.out.drew)
  refine T_region 10 (fun w' => w'.cell? ⟨g7, 1, none⟩ = some (.slice WA1 Wn1 Wc1) ∧ w'.cell? ⟨w.heap.size + 1, 0, none⟩ = some (.bool sw) ∧ w'.cell? ⟨w.heap.size + 1, 1, none⟩ = some (.slice pA pn pc)) (by kernel_rfl) (by kernel_rfl) ?_
  refine T_takeL (i := 0) (v := ?_) rfl (by kernel_rfl) (fun _ _ _ h => h) (Or.inl ⟨by rfl, ?_⟩) HS0.out ?_
  rotate_left
  · ((intro w hSw; (try dsimp only at hSw); go_simp) <;> with_reducible rfl)
  try simp only [Act.put, List.setIfInBounds_toArray, List.set_cons_zero, List.set_cons_succ]
  refine T_takeL (i := 1) (v := ?_) rfl (by kernel_rfl) (fun _ _ _ h => h) (Or.inl ⟨by rfl, ?_⟩) HS0.out ?_
  rotate_left
  · ((intro w hSw; (try dsimp only at hSw); go_simp) <;> with_reducible rfl)
  try simp only [Act.put, List.setIfInBounds_toArray, List.set_cons_zero, List.set_cons_succ]
  refine T_takeL (i := 2) (v := ?_) rfl (by kernel_rfl) (fun _ _ _ h => h) (Or.inl ⟨by rfl, ?_⟩) HS0.out ?_
  rotate_left
  · ((intro w hSw; (try dsimp only at hSw); go_simp) <;> with_reducible rfl)
  try simp only [Act.put, List.setIfInBounds_toArray, List.set_cons_zero, List.set_cons_succ]
  refine T_takeL (i := 3) (v := ?_) rfl (by kernel_rfl) (fun _ _ _ h => h) (Or.inl ⟨by rfl, ?_⟩) HS0.out ?_
  rotate_left
  · ((intro w hSw; (try dsimp only at hSw); go_simp) <;> with_reducible rfl)
  try simp only [Act.put, List.setIfInBounds_toArray, List.set_cons_zero, List.set_cons_succ]
  refine T_takeL (i := 4) (v := ?_) rfl (by kernel_rfl) (fun _ _ _ h => h) (Or.inl ⟨by rfl, ?_⟩) HS0.out ?_
  rotate_left
  · ((intro w hSw; (try dsimp only at hSw); go_simp) <;> with_reducible rfl)
  try simp only [Act.put, List.setIfInBounds_toArray, List.set_cons_zero, List.set_cons_succ]
  refine T_takeL (i := 5) (v := ?_) rfl (by kernel_rfl) (fun _ _ _ h => h) (Or.inl ⟨by rfl, ?_⟩) HS0.out ?_
  rotate_left
  · ((intro w hSw; (try dsimp only at hSw); go_simp) <;> with_reducible rfl)
  try simp only [Act.put, List.setIfInBounds_toArray, List.set_cons_zero, List.set_cons_succ]
  refine T_one (i := 6) rfl (by kernel_rfl) ?_
  refine (app_bl rfl (.const (.slice none 0 0)) (.tmp 18) rfl (w.heap.size + 3) (.slice none 0 0) 0 [] rfl (World.ownsRow_nil _ _ _ _) w.heap.size pA pn pc pd rfl HQ.out.drew (by omega) (by have := HWS.out; show _ ≤ W.heap.size; omega) ?_)
  intro v4 w4 o4 g4
  have hown4 : W.drew.grownBy w4 none := g4.1
  have B4 := Lib.hid (below_grown0 B2.out.drew hown4 B2.out.size)
  have K74 := Lib.hid (K7.out.drew.grown hown4 (by simp))
  have KP4 := Lib.hid (KP2.out.drew.grown hown4 (by simp))
  have KR4 := Lib.hid (KR2.out.drew.grown hown4 (by simp))
  have OD4 : Hid (OwnDisk w4 (w.heap.size + 3) ⟨A1, n1, c1, d1, WA1, Wn1, Wc1, l1⟩) := by
    have k := OD.out
    exact ⟨own_grown0 (show W.drew.ownsRow _ _ _ _ _ _ from k.rd) hown4, own_grown0 (show W.drew.ownsRow _ _ _ _ _ _ from k.rw_) hown4, k.lim, k.wlim, fun q hq => ⟨own_grown0 (show W.drew.ownsRow _ _ _ _ _ _ from (k.all q hq).1) hown4, (k.all q hq).2⟩⟩
  have HLT : Hid (∀ g, (Value.slice WA1 Wn1 Wc1).ownBlock = some g → w.heap.size + 3 ≤ g ∧ g < w4.heap.size) := fun g hg => own_lt OD4.out.rw_ hg
  have HS4 := Lib.hid (cells5 K74.out KP4.out)
  have hsz4 : W.heap.size ≤ w4.heap.size := hown4.size
  obtain ⟨A4, c4, rfl⟩ := own_shape o4
  rw [Nat.zero_add, List.nil_append] at o4
  have O4 := Lib.hid o4
  clear o4 g4 hown4 K7 KP2 KR2 OD B2 HQ HS0
  simp only [Nat.zero_add]
  go_wp2_with fail
  simp only [Qn]
  refine ⟨HS4.out, ?_⟩
  refine T_takeL (i := 7) (v := ?_) rfl (by kernel_rfl) (fun _ _ _ h => h) (Or.inl ⟨by rfl, ?_⟩) HS4.out ?_
  rotate_left
  · ((intro w hSw; (try dsimp only at hSw); go_simp) <;> with_reducible rfl)
  try simp only [Act.put, List.setIfInBounds_toArray, List.set_cons_zero, List.set_cons_succ]
  have K75 := Lib.hid (K74.out.alloc (.cells #[.bool sw, .slice A4 pn c4] 42))
  have KP5 := Lib.hid (KP4.out.alloc (.cells #[.bool sw, .slice A4 pn c4] 42))
  have KR5 := Lib.hid (KR4.out.alloc (.cells #[.bool sw, .slice A4 pn c4] 42))
  have B5 := Lib.hid (B4.out.alloc B4.out.size (.cells #[.bool sw, .slice A4 pn c4] 42))
  have HS5 := Lib.hid (cells5 K75.out KP5.out)
  refine T_one (i := 8) rfl (by kernel_rfl) ?_
  go_wp2_with fail
  simp only [Qn]
  refine ⟨HS5.out, ?_⟩
  refine T_one (i := 9) rfl (by kernel_rfl) ?_
  have hwn1 : Wn1 ≤ 1024 := HWn1.out
  refine (app_p rfl (.tmp 14) (.tmp 21) rfl (w.heap.size + 3) (.slice WA1 Wn1 Wc1) Wn1 l1 rfl (OD4.out.rw_.alloc (.cells #[.bool sw, .slice A4 pn c4] 42)) (w4.heap.size + 1) (some ⟨w4.heap.size, 0, none⟩) 1 ⟨sw, A4, pn, c4, pd⟩ rfl (new_put w4 sw A4 pn c4 pd) (by omega) (by have := HWS.out; simp; omega) ?_)
  intro v5 w5 o5 g5
  have K76 := Lib.hid (K75.out.grown g5.1 (fun e => own_blk_ne (OD4.out.rw_.alloc (.cells #[.bool sw, .slice A4 pn c4] 42)) K75.out (by decide) e.symm))
  have KR6 := Lib.hid (KR5.out.grown g5.1 (fun e => by have := (HLT.out _ e.symm).1; omega))
  have KP6 := Lib.hid (KP5.out.grown g5.1 (fun e => by have := (HLT.out _ e.symm).1; omega))
  have B6 := Lib.hid (B5.out.grown g5.1 B5.out.size (fun g hg => by have := (HLT.out _ hg).1; omega))
  have HA6 : Hid (∀ q ∈ l1 ++ [⟨sw, A4, pn, c4, pd⟩], w5.ownsRow (w.heap.size + 3) 5 1 (.slice q.A q.n q.c) q.n (cb q.d) ∧ q.n ≤ 140737488351232) := by
    intro q hq
    rcases List.mem_append.1 hq with hq | hq
    · exact ⟨own_other ((OD4.out.all q hq).1.alloc _) (OD4.out.rw_.alloc _) (by decide) g5, (OD4.out.all q hq).2⟩
    · rw [List.mem_singleton] at hq
      subst hq
      exact ⟨own_other (O4.out.alloc _) (OD4.out.rw_.alloc _) (by decide) g5, by show pn ≤ _; omega⟩
  have Or := Lib.hid (own_other (OD4.out.rd.alloc (.cells #[.bool sw, .slice A4 pn c4] 42)) (OD4.out.rw_.alloc _) (by decide) g5)
  have HS6 := Lib.hid (cells5 K76.out KP6.out)
  obtain ⟨A5, c5, rfl⟩ := own_shape o5
  have O6 := Lib.hid o5
  clear o5 g5 K74 KP4 KR4 OD4 O4 HS4 K75 KP5 KR5 HS5 HLT B4 B5
  go_wp2_with fail
  simp only [Qn]
  refine ⟨HS6.out, ?_⟩
  refine T_end (by kernel_rfl) ?_
  have q1 := K76.out.cell 1
  have fq1 := K76.out.frozen 1
  have K77 := Lib.hid (K76.out.set_ 1 (.slice A5 (Wn1 + 1) c5))
  have KR7 := Lib.hid (KR6.out.far (p := ⟨g7, 1, none⟩) (by show w.heap.size + 2 ≠ g7; omega) (.slice A5 (Wn1 + 1) c5))
  have OD7 : Hid (OwnDisk (w5.setCell ⟨g7, 1, none⟩ (.slice A5 (Wn1 + 1) c5)) (w.heap.size + 3) ⟨A1, n1, c1, d1, A5, Wn1 + 1, c5, l1 ++ [⟨sw, A4, pn, c4, pd⟩]⟩) :=
    ⟨own_set Or.out K76.out (by decide) 1 _, own_set O6.out K76.out (by decide) 1 _, hlim, by show Wn1 + 1 ≤ _; omega, fun q hq => ⟨own_set (HA6.out q hq).1 K76.out (by decide) 1 _, (HA6.out q hq).2⟩⟩
  have B7 := Lib.hid (B6.out.setCell (p := ⟨g7, 1, none⟩) (by show w.heap.size ≤ g7; omega) (.slice A5 (Wn1 + 1) c5))
  have HDk2 : Hid ((⟨A1, n1, c1, d1, A5, Wn1 + 1, c5, l1 ++ [⟨sw, A4, pn, c4, pd⟩]⟩ : HD).disk = ⟨D.d, D.disk.wait ++ [⟨sw, pd⟩]⟩) := by
    have h2 : l1.map HP.put = D.disk.wait := congrArg (fun x : Dp.Disk => x.wait) HDk.out
    have h3 : d1 = D.d := congrArg (fun x : Dp.Disk => x.data) HDk.out
    rw [Hid, HD.disk]
    simp only [List.map_append, h2, h3]
    rfl
  have HMb : Hid (Dp.mayD (⟨A1, n1, c1, d1, A5, Wn1 + 1, c5, l1 ++ [⟨sw, A4, pn, c4, pd⟩]⟩ : HD).disk = b) := by rw [Hid, HDk2.out]; exact HBB.out
  have HS2 : Hid (Sm (⟨A1, n1, c1, d1, A5, Wn1 + 1, c5, l1 ++ [⟨sw, A4, pn, c4, pd⟩]⟩ : HD).disk) := by
    rw [Hid, HDk2.out]
    exact sm_more HM.out (by show pd.length ≤ _; rw [HPD.out]; exact hpn)
  clear Or O6 HA6 B6 KR6 KP6 HS6 HBB HDk HWn
  have q0 := K76.out.cell 0
  go_wp2_with fail
  refine (rmay_any ⟨A1, n1, c1, d1, A5, Wn1 + 1, c5, l1 ++ [⟨sw, A4, pn, c4, pd⟩]⟩ _ OD7.out.at_ HS2.out).mono ?_
  rintro e w8 ⟨rfl, hb8⟩
  rw [HMb.out]
  have K8 := Lib.hid (K77.out.below hb8 K77.out.lt)
  have KR8 := Lib.hid (KR7.out.below hb8 KR7.out.lt)
  have OD8 := Lib.hid ((OD7.out.mono (base' := w.heap.size) (by omega)).below hb8)
  have B8 := Lib.hid (B7.out.trans (hb8.mono B7.out.size))
  clear hb8 K77 KR7 OD7 B7 q0 q1 fq1 K76
  have q0 := K8.out.cell 0
  have q1 := K8.out.cell 1
  have z0 := KR8.out.cell 0
  have z1 := KR8.out.cell 1
  have fz0 := KR8.out.frozen 0
  have fz1 := KR8.out.frozen 1
  cases b with
  | true =>
    go_wp2
    exact bodyPost_ret (v := .tuple #[.agg #[.slice A1 n1 c1, .slice A5 (Wn1 + 1 : Nat) c5], .int .i64 0]) (by simp [results, Try.results21, go_sem, z0, z1]) rfl ⟨⟨A1, n1, c1, d1, A5, Wn1 + 1, c5, _⟩, rfl, (OD8.out.set_ KR8.out 0 _).set_ (KR8.out.set_ 0 _) 1 _, HDk2.out, (B8.out.setCell (by simp; omega) _).setCell (by simp; omega) _⟩
  | false =>
    go_wp2
    exact bodyPost_ret (v := .tuple #[.agg #[.slice none 0 0, .slice none 0 0], .int .i64 9]) (by simp [results, Try.results21, go_sem, z0, z1]) rfl ⟨zeroHD, rfl, zeroHD_own _ _, rfl, (B8.out.setCell (by simp; omega) _).setCell (by simp; omega) _⟩

theorem rwrite_bad (D : HD) (p : HP) (w : World) (h : DiskAt w w.heap.size D) (hs : Sm D.disk) (hm : Dp.mayD D.disk = false) :
    Calls Try.prog 21 #[.agg #[.slice D.A D.n D.c, .slice D.WA D.Wn D.Wc], .agg #[.bool p.sw, .slice p.A p.n p.c]] w fun e w' => e = .returned (.tuple #[.agg #[.slice none 0 0, .slice none 0 0], .int .i64 30]) ∧ Below w.heap.size w w' := by
  obtain ⟨sw, pA, pn, pc, pd⟩ := p
  simp only
  have hz : w.heap.size + 1 < w.heap.size + 2 := by omega
  have HA := Lib.hid (((h.alloc (.cells #[.slice D.A D.n D.c, .slice D.WA D.Wn D.Wc] 25)).alloc (.cells #[.bool sw, .slice pA pn pc] 42)).alloc (.cells #[.slice none 0 0, .slice none 0 0] 25))
  have HM := Lib.hid hm
  have HS := Lib.hid hs
  have B0 := Lib.hid ((((Below.refl _ w).alloc (Nat.le_refl w.heap.size) (.cells #[.slice D.A D.n D.c, .slice D.WA D.Wn D.Wc] 25)).alloc (by simp) (.cells #[.bool sw, .slice pA pn pc] 42)).alloc (by simp; omega) (.cells #[.slice none 0 0, .slice none 0 0] 25))
  have KR := Lib.hid (Blk.newAt (w := (w.alloc (.cells #[.slice D.A D.n D.c, .slice D.WA D.Wn D.Wc] 25)).alloc (.cells #[.bool sw, .slice pA pn pc] 42)) (g := w.heap.size + 2) (by simp) 25 #[.slice none 0 0, .slice none 0 0])
  clear h hm hs
  go_enter Try.func21, Try.ntmps21
  go_wp2_with fail
  refine (rmay_any D _ HA.out HS.out).mono ?_
  rintro e w1 ⟨rfl, hb1⟩
  rw [HM.out]
  have KR7 := Lib.hid (Blk.below KR.out hb1 KR.out.lt)
  have B7 := Lib.hid (B0.out.trans (hb1.mono B0.out.size))
  clear hb1 KR B0 HA
  have z0 := KR7.out.cell 0
  have z1 := KR7.out.cell 1
  have fz0 := KR7.out.frozen 0
  have fz1 := KR7.out.frozen 1
  go_wp2
  exact bodyPost_ret (v := .tuple #[.agg #[.slice none 0 0, .slice none 0 0], .int .i64 30]) (by simp [results, Try.results21, go_sem, z0, z1]) rfl ⟨rfl, (B7.out.setCell (by simp; omega) _).setCell (by simp; omega) _⟩

/-- A write of the reference: one form. -/
theorem rwrite_any (D : HD) (p : HP) (w : World) (h : DiskAt w w.heap.size D) (hs : Sm D.disk) (hp' : PutAt w w.heap.size p) (hpn : p.n ≤ 2000000) :
    Calls Try.prog 21 #[.agg #[.slice D.A D.n D.c, .slice D.WA D.Wn D.Wc], .agg #[.bool p.sw, .slice p.A p.n p.c]] w fun e w' => ∃ D', e = .returned (.tuple #[.agg #[.slice D'.A D'.n D'.c, .slice D'.WA D'.Wn D'.Wc], .int .i64 (Dp.write D.disk p.put).2]) ∧ OwnDisk w' w.heap.size D' ∧ D'.disk = (Dp.write D.disk p.put).1 ∧ Below w.heap.size w w' := by
  cases hm : Dp.mayD D.disk with
  | true =>
    cases hb : Dp.mayD ⟨D.d, D.disk.wait ++ [p.put]⟩ with
    | true =>
      have e : Dp.write D.disk p.put = (⟨D.d, D.disk.wait ++ [p.put]⟩, 0) := by
        rw [Dp.write, if_pos hm]
        exact if_pos hb
      rw [e]
      have := rwrite_ok D p w true h hs hp' hpn hm hb
      simpa only [if_pos] using this
    | false =>
      have e : Dp.write D.disk p.put = (Dp.zeroD, 9) := by
        rw [Dp.write, if_pos hm]
        exact if_neg (by rw [show Dp.mayD ⟨D.disk.data, D.disk.wait ++ [p.put]⟩ = false from hb]; simp)
      rw [e]
      have := rwrite_ok D p w false h hs hp' hpn hm hb
      simpa using this
  | false =>
    have e : Dp.write D.disk p.put = (Dp.zeroD, 30) := by rw [Dp.write, if_neg (by rw [hm]; simp)]
    rw [e]
    refine (rwrite_bad D p w h hs hm).mono ?_
    rintro e w1 ⟨rfl, hb⟩
    exact ⟨zeroHD, rfl, zeroHD_own _ _, rfl, hb⟩
end Go.Proofs.Ythmbjmknifkbaaa
