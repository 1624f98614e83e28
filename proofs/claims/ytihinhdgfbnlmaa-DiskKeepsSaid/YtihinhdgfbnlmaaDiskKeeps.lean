/-
  The walk of DiskKeeps. No condition.
-/
import Derived.Test.YtihinhdgfbnlmaaDiskSees
import Derived.Test.YtihinhdgfbnlmaaBlist
import Derived.Test.YtihinhdgfbnlmaaHeld2
namespace Go.Proofs.Ytihinhdgfbnlmaa
open Go.RowKit
set_option maxHeartbeats 16000000
set_option maxRecDepth 100000
set_option linter.unusedVariables false
set_option linter.unusedSimpArgs false

theorem own_disk_blk {w : World} {base : Nat} {D : HD} (h : OwnDisk w base D) : OwnDisk w 0 D := h.mono (Nat.zero_le _)
theorem OwnDisk.drew {w : World} {base : Nat} {D : HD} (h : OwnDisk w base D) : OwnDisk w.drew base D := ⟨own_keep h.rd fun _ _ => rfl, own_keep h.rw_ fun _ _ => rfl, h.lim, h.wlim, fun p hp => ⟨own_keep (h.all p hp).1 fun _ _ => rfl, (h.all p hp).2⟩⟩
def KRel (w : World) (gs G n : Nat) (sd : List UInt8) (DS : HD) (y : Value) (wr : World) : Prop :=
  ∃ (k : Nat) (X : HD), y = .int .i64 (k : Int) ∧ k ≤ n ∧ Below w.heap.size w wr ∧ Blk wr gs 25 #[.slice DS.A DS.n DS.c, .slice DS.WA DS.Wn DS.Wc] ∧ OwnDisk wr 0 DS ∧
    Blk wr G 25 #[.slice X.A X.n X.c, .slice X.WA X.Wn X.Wc] ∧ OwnDisk wr 0 X ∧ X.disk.data = sd ∧ isApp X.disk.wait ∧ Dp.mayD X.disk = true

theorem keeps (D : HD) (A1 : Option Addr) (n1 c1 : Nat) (l1 : List HP) (keep many : Int) (w : World) (hD : DiskAt w w.heap.size D)
    (hB1 : IsBList w A1 n1 c1 l1) (hk : -9223372036854775808 ≤ keep ∧ keep ≤ 9223372036854775807) (hm : -9223372036854775808 ≤ many ∧ many ≤ 9223372036854775807) :
    Calls Try.prog 6 #[.agg #[.slice D.A D.n D.c, .slice D.WA D.Wn D.Wc], .slice A1 n1 c1, .int .i64 keep, .int .i64 many] w fun e w' => e = .returned (.bool true) ∧ Below w.heap.size w w' := by
  have hkl := hk.1
  have hkh := hk.2
  have hmh := hm.2
  have hml := hm.1
  have HB1 := Lib.hid hB1
  have L1 : Hid (l1.length = n1) := by
    have := hB1.1.1
    rw [cs_length] at this
    rw [Hid]
    omega
  have K0 := Lib.hid (Blk.new w 25 #[.slice D.A D.n D.c, .slice D.WA D.Wn D.Wc])
  have C0 := Lib.hid ((Below.refl _ w).alloc (Nat.le_refl w.heap.size) (.cells #[.slice D.A D.n D.c, .slice D.WA D.Wn D.Wc] 25))
  have D0 := Lib.hid (hD.alloc (.cells #[.slice D.A D.n D.c, .slice D.WA D.Wn D.Wc] 25))
  clear hD hB1 hk hm
  obtain ⟨S', e, hS⟩ : ∃ S e, Dp.sync D.disk = (S, e) := ⟨_, _, rfl⟩
  have HS := Lib.hid hS
  clear hS
  go_enter Try.func6, Try.ntmps6
  go_wp2_with fail
  refine (alive03_any _).mono ?_
  rintro e w1 ⟨rfl, hb⟩
  replace K0 := Lib.hid (K0.out.below hb K0.out.lt)
  replace C0 := Lib.hid (C0.out.trans (hb.mono C0.out.size))
  replace D0 := Lib.hid (D0.out.up hb)
  clear hb
  have y0 := K0.out.cell 0
  have y1 := K0.out.cell 1
  go_wp2_with fail
  refine (sync_is D _ S' e HS.out D0.out).mono ?_
  rintro e2 w2 ⟨DS, rfl, hx, hex, hb⟩
  have KS := Lib.hid (Blk.new w2 25 #[.slice DS.A DS.n DS.c, .slice DS.WA DS.Wn DS.Wc])
  have OS := Lib.hid ((own_disk_blk hx).alloc (.cells #[.slice DS.A DS.n DS.c, .slice DS.WA DS.Wn DS.Wc] 25))
  have ES := Lib.hid hex
  replace K0 := Lib.hid ((K0.out.below hb K0.out.lt).alloc (.cells #[.slice DS.A DS.n DS.c, .slice DS.WA DS.Wn DS.Wc] 25))
  replace C0 := Lib.hid (below_alloc (C0.out.trans (hb.mono C0.out.size)) (.cells #[.slice DS.A DS.n DS.c, .slice DS.WA DS.Wn DS.Wc] 25))
  replace D0 := Lib.hid ((D0.out.up hb).alloc (.cells #[.slice DS.A DS.n DS.c, .slice DS.WA DS.Wn DS.Wc] 25))
  clear hx hex hb y0 y1
  have y0 := K0.out.cell 0
  have y1 := K0.out.cell 1
  go_wp2_with fail
  refine (rgreat_any D _ D0.out).mono ?_
  rintro e3 w3 ⟨⟨r, rfl, -⟩, hb⟩
  replace C0 := Lib.hid (C0.out.trans (hb.mono C0.out.size))
  replace KS := Lib.hid (KS.out.below hb KS.out.lt)
  replace OS := Lib.hid (OS.out.below hb)
  clear hb y0 y1 K0 D0
  cases r with
  | true => go_wp2; go_ret; exact ⟨rfl, C0.out⟩
  | false =>
  by_cases hn : (300 : Int) < (n1 : Int)
  case pos =>
    have dn : decide ((300 : Int) < (n1 : Int)) = true := decide_eq_true hn
    go_wp2; go_ret; exact ⟨rfl, C0.out⟩
  have dn : decide ((300 : Int) < (n1 : Int)) = false := decide_eq_false hn
  by_cases qe : e = 0
  case neg =>
    have de : decide (e = 0) = false := decide_eq_false qe
    go_wp2; go_ret; exact ⟨rfl, C0.out⟩
  subst qe
  have hn300 : n1 ≤ 300 := by omega
  have HM0 : Hid (Dp.mayD D.disk = true) := by
    cases hm : Dp.mayD D.disk with
    | true => rfl
    | false =>
      have h := HS.out
      rw [Dp.sync, if_neg (by rw [hm]; simp)] at h
      simp at h
  obtain ⟨sd, hsd⟩ : ∃ sd, Dp.seen D.disk = sd := ⟨_, rfl⟩
  have ES2 : Hid (DS.disk = ⟨sd, []⟩) := by
    have h := (Dp.sync_see HM0.out).1
    rw [HS.out] at h
    rw [Hid, ES.out, ← hsd]
    exact (Prod.mk.inj h).1
  have HM1 : Hid (Dp.mayD ⟨sd, []⟩ = true) := by rw [Hid, ← hsd, Dp.mayD_nil]; exact decide_eq_true (Dp.seen_len HM0.out)
  clear hsd ES HS HM0
  have y0 := KS.out.cell 0
  have y1 := KS.out.cell 1
  have hgs : w2.heap.size < w3.heap.size := KS.out.lt
  have hG0 : w.heap.size ≤ w3.heap.size := C0.out.size
  have KX := Lib.hid (Blk.new w3 25 #[.slice DS.A DS.n DS.c, .slice DS.WA DS.Wn DS.Wc])
  replace C0 := Lib.hid (below_alloc C0.out (.cells #[.slice DS.A DS.n DS.c, .slice DS.WA DS.Wn DS.Wc] 25))
  replace KS := Lib.hid (KS.out.alloc (.cells #[.slice DS.A DS.n DS.c, .slice DS.WA DS.Wn DS.Wc] 25))
  replace OS := Lib.hid (OS.out.alloc (.cells #[.slice DS.A DS.n DS.c, .slice DS.WA DS.Wn DS.Wc] 25))
  go_wp2
  generalize w3.alloc (.cells #[.slice DS.A DS.n DS.c, .slice DS.WA DS.Wn DS.Wc] 25) = W at *
  generalize w3.heap.size = G at *
  generalize w2.heap.size = gs at *
  go_loopw [13] (fun y wr => KRel w gs G n1 sd DS y wr) (fun y _ => n1 - (intOf y).toNat)
  case atStart => exact ⟨0, DS, rfl, Nat.zero_le _, C0.out, KS.out, OS.out, KX.out, OS.out, (by rw [ES2.out]), (by rw [ES2.out]; intro p hp; cases hp), (by rw [ES2.out]; exact HM1.out)⟩
  case round =>
    obtain ⟨k, X, rfl, hk, h1, h2, h3, h4, h5, h6, h7, h8⟩ := hrel
    have C1 := Lib.hid h1
    have KS1 := Lib.hid h2
    have OS1 := Lib.hid h3
    have KX1 := Lib.hid h4
    have hGlt : G < wr.heap.size := h4.lt
    have OX1 := Lib.hid h5
    have HX1 := Lib.hid h6
    have HX2 := Lib.hid h7
    have HX3 := Lib.hid h8
    clear h1 h2 h3 h4 h5 h6 h7 h8 y0 y1 C0 KS OS KX
    by_cases hlt : k < n1
    · obtain ⟨ad, u, rfl, hbl, hu, hc⟩ := (HB1.out.1.below C1.out).at_ hlt
      have hg : l1[k]? = some (l1[k]'(by rw [L1.out]; exact hlt)) := List.getElem?_eq_getElem _
      rw [cs_get, hg] at hu
      simp only [Option.map_some, Option.some.injEq] at hu
      have hpa := HB1.out.2.2.2 _ (List.getElem_mem (l := l1) (n := k) (by rw [L1.out]; exact hlt))
      obtain ⟨p, hp⟩ : ∃ p, l1[k]'(by rw [L1.out]; exact hlt) = p := ⟨_, rfl⟩
      rw [hp] at hu hpa
      clear hg hp
      subst hu
      obtain ⟨sw, pA, pn, pc, pd⟩ := p
      obtain ⟨hpa, rfl⟩ : PutAt w w.heap.size ⟨sw, pA, pn, pc, pd⟩ ∧ sw = false := hpa
      have PP := Lib.hid hpa
      have HC := Lib.hid hc
      have hbl2 := hbl
      clear hpa
      by_cases h5 : (5000 : Int) < (pn : Int)
      · have d5 : decide ((5000 : Int) < (pn : Int)) = true := decide_eq_true h5
        go_wp2
        go_ret
        exact ⟨rfl, C1.out⟩
      have d5 : decide ((5000 : Int) < (pn : Int)) = false := decide_eq_false h5
      have hpl : pn ≤ 5000 := by omega
      obtain ⟨Y, f, hY⟩ : ∃ Y f, Dp.write X.disk ⟨false, pd⟩ = (Y, f) := ⟨_, _, rfl⟩
      have HY := Lib.hid hY
      clear hY
      go_wp2_with fail
      have DXd := Lib.hid OX1.out.drew.at_
      have PPd := Lib.hid ((PP.out.below (below_drewN C1.out 1)).more C1.out.size)
      have HSS : Hid (wr.drew.cell? ⟨G, 0, none⟩ = some (.slice X.A X.n X.c) ∧ wr.drew.cell? ⟨G, 1, none⟩ = some (.slice X.WA X.Wn X.Wc) ∧ wr.drew.cell? (ad.add k) = some (.slice pA pn pc)) := ⟨KX1.out.cell 0, KX1.out.cell 1, HC.out⟩
      refine T_region 11 (fun w' => w'.cell? ⟨G, 0, none⟩ = some (.slice X.A X.n X.c) ∧ w'.cell? ⟨G, 1, none⟩ = some (.slice X.WA X.Wn X.Wc) ∧ w'.cell? (ad.add k) = some (.slice pA pn pc)) (by kernel_rfl) (by kernel_rfl) ?_
      refine T_takeL (i := 0) (v := ?_) rfl (by kernel_rfl) (fun _ _ _ h => h) (Or.inl ⟨by rfl, ?_⟩) HSS.out ?_
      rotate_left
      · ((intro w hSw; (try dsimp only at hSw); go_simp) <;> with_reducible rfl)
      try simp only [Act.put, List.setIfInBounds_toArray, List.set_cons_zero, List.set_cons_succ]
      refine T_takeL (i := 1) (v := ?_) rfl (by kernel_rfl) (fun _ _ _ h => h) (Or.inl ⟨by rfl, ?_⟩) HSS.out ?_
      rotate_left
      · ((intro w hSw; (try dsimp only at hSw); go_simp) <;> with_reducible rfl)
      try simp only [Act.put, List.setIfInBounds_toArray, List.set_cons_zero, List.set_cons_succ]
      refine T_takeL (i := 2) (v := ?_) rfl (by kernel_rfl) (fun _ _ _ h => h) (Or.inl ⟨by rfl, ?_⟩) HSS.out ?_
      rotate_left
      · ((intro w hSw; (try dsimp only at hSw); go_simp) <;> with_reducible rfl)
      try simp only [Act.put, List.setIfInBounds_toArray, List.set_cons_zero, List.set_cons_succ]
      refine T_takeL (i := 3) (v := ?_) rfl (by kernel_rfl) (fun _ _ _ h => h) (Or.inl ⟨by rfl, ?_⟩) HSS.out ?_
      rotate_left
      · ((intro w hSw; (try dsimp only at hSw); go_simp) <;> with_reducible rfl)
      try simp only [Act.put, List.setIfInBounds_toArray, List.set_cons_zero, List.set_cons_succ]
      refine T_takeL (i := 4) (v := ?_) rfl (by kernel_rfl) (fun _ _ _ h => h) (Or.inl ⟨by rfl, ?_⟩) HSS.out ?_
      rotate_left
      · ((intro w hSw; (try dsimp only at hSw); go_simp) <;> with_reducible rfl)
      try simp only [Act.put, List.setIfInBounds_toArray, List.set_cons_zero, List.set_cons_succ]
      have hadb : (ad.add k).block < w.heap.size := by rw [block_of_add]; exact hbl2
      refine T_two (i := 5) (j := 9) rfl rfl (by kernel_rfl) ?_ ?_
      · go_wp2_with fail
        refine (append_is X pA pn pc pd _ Y f HY.out DXd.out PPd.out).mono ?_
        rintro e5 w5 ⟨DY, rfl, hx, hex, hb⟩
        have KX5 := Lib.hid (KX1.out.drew.below hb KX1.out.lt)
        have KS5 := Lib.hid (KS1.out.drew.below hb KS1.out.lt)
        have OS5 := Lib.hid (OS1.out.drew.below hb)
        have OX5 := Lib.hid (OX1.out.drew.below hb)
        have OY5 := Lib.hid (own_disk_blk hx)
        have C5 := Lib.hid ((below_drewN C1.out 1).trans (hb.mono C1.out.size))
        have HC5 : Hid (w5.cell? (ad.add k) = some (.slice pA pn pc)) := (hb.cell (p := ad.add k) (Nat.lt_of_lt_of_le hadb C1.out.size)).trans HC.out
        have HE := Lib.hid hex
        have HSS5 : Hid (w5.cell? ⟨G, 0, none⟩ = some (.slice X.A X.n X.c) ∧ w5.cell? ⟨G, 1, none⟩ = some (.slice X.WA X.Wn X.Wc) ∧ w5.cell? (ad.add k) = some (.slice pA pn pc)) := ⟨KX5.out.cell 0, KX5.out.cell 1, HC5.out⟩
        clear hx hex hb KX1 KS1 OS1 OX1 C1 HC HSS DXd PPd
        go_wp2_with fail
        simp only [Qn]
        refine ⟨HSS5.out, ?_⟩
        refine T_takeL (i := 6) (v := ?_) rfl (by kernel_rfl) (fun _ _ _ h => h) (Or.inl ⟨by rfl, ?_⟩) HSS5.out ?_
        rotate_left
        · ((intro w hSw; (try dsimp only at hSw); go_simp) <;> with_reducible rfl)
        try simp only [Act.put, List.setIfInBounds_toArray, List.set_cons_zero, List.set_cons_succ]
        refine T_takeL (i := 7) (v := ?_) rfl (by kernel_rfl) (fun _ _ _ h => h) (Or.inl ⟨by rfl, ?_⟩) HSS5.out ?_
        rotate_left
        · ((intro w hSw; (try dsimp only at hSw); go_simp) <;> with_reducible rfl)
        try simp only [Act.put, List.setIfInBounds_toArray, List.set_cons_zero, List.set_cons_succ]
        refine T_takeL (i := 8) (v := ?_) rfl (by kernel_rfl) (fun _ _ _ h => h) (Or.inl ⟨by rfl, ?_⟩) HSS5.out ?_
        rotate_left
        · ((intro w hSw; (try dsimp only at hSw); go_simp) <;> with_reducible rfl)
        try simp only [Act.put, List.setIfInBounds_toArray, List.set_cons_zero, List.set_cons_succ]
        refine T_one (i := 9) rfl (by kernel_rfl) ?_
        go_wp2_with fail
        have HSS6 : Hid ((w5.alloc (.cells #[.slice none 0 0, .slice none 0 0] 25)).cell? ⟨G, 0, none⟩ = some (.slice X.A X.n X.c) ∧ (w5.alloc (.cells #[.slice none 0 0, .slice none 0 0] 25)).cell? ⟨G, 1, none⟩ = some (.slice X.WA X.Wn X.Wc) ∧ (w5.alloc (.cells #[.slice none 0 0, .slice none 0 0] 25)).cell? (ad.add k) = some (.slice pA pn pc)) := ⟨(KX5.out.alloc (.cells #[.slice none 0 0, .slice none 0 0] 25)).cell 0, (KX5.out.alloc (.cells #[.slice none 0 0, .slice none 0 0] 25)).cell 1, (World.cell?_alloc_lt w5 _ (ad.add k) (by have := C5.out.size; omega)).trans HC5.out⟩
        have HSS7 : Hid ((w5.alloc (.cells #[.slice DY.A DY.n DY.c, .slice DY.WA DY.Wn DY.Wc] 25)).cell? ⟨G, 0, none⟩ = some (.slice X.A X.n X.c) ∧ (w5.alloc (.cells #[.slice DY.A DY.n DY.c, .slice DY.WA DY.Wn DY.Wc] 25)).cell? ⟨G, 1, none⟩ = some (.slice X.WA X.Wn X.Wc) ∧ (w5.alloc (.cells #[.slice DY.A DY.n DY.c, .slice DY.WA DY.Wn DY.Wc] 25)).cell? (ad.add k) = some (.slice pA pn pc)) := ⟨(KX5.out.alloc (.cells #[.slice DY.A DY.n DY.c, .slice DY.WA DY.Wn DY.Wc] 25)).cell 0, (KX5.out.alloc (.cells #[.slice DY.A DY.n DY.c, .slice DY.WA DY.Wn DY.Wc] 25)).cell 1, (World.cell?_alloc_lt w5 _ (ad.add k) (by have := C5.out.size; omega)).trans HC5.out⟩
        have KXe := Lib.hid (KX5.out.alloc (.cells #[.slice DY.A DY.n DY.c, .slice DY.WA DY.Wn DY.Wc] 25))
        have KSe := Lib.hid (KS5.out.alloc (.cells #[.slice DY.A DY.n DY.c, .slice DY.WA DY.Wn DY.Wc] 25))
        have OSe := Lib.hid (OS5.out.alloc (.cells #[.slice DY.A DY.n DY.c, .slice DY.WA DY.Wn DY.Wc] 25))
        have OXe := Lib.hid (OX5.out.alloc (.cells #[.slice DY.A DY.n DY.c, .slice DY.WA DY.Wn DY.Wc] 25))
        have OYe := Lib.hid (OY5.out.alloc (.cells #[.slice DY.A DY.n DY.c, .slice DY.WA DY.Wn DY.Wc] 25))
        have Ce := Lib.hid (below_alloc C5.out (.cells #[.slice DY.A DY.n DY.c, .slice DY.WA DY.Wn DY.Wc] 25))
        have K14 := Lib.hid (Blk.new w5 25 #[.slice DY.A DY.n DY.c, .slice DY.WA DY.Wn DY.Wc])
        clear KX5 KS5 OS5 OX5 OY5 C5 HC5
        simp only [Qn]
        refine ⟨HSS6.out, ?_⟩
        refine T_one (i := 10) rfl (by kernel_rfl) ?_
        go_wp2_with fail
        simp only [Qn]
        refine ⟨HSS7.out, ?_⟩
        refine T_end (by kernel_rfl) ?_
        have x0 := K14.out.cell 0
        have x1 := K14.out.cell 1
        have fx0 := KXe.out.frozen 0
        have u0 := KXe.out.cell 0
        have u1 := KXe.out.cell 1
        have fx1 := KXe.out.frozen 1
        by_cases hf : f = 0
        · subst hf
          have HA := Lib.hid (app_keeps HY.out HX2.out)
          go_wp2
          go_roundw
          case rel => exact ⟨k + 1, DY, by go_num, by omega, (Ce.out.setCell (p := ⟨G, 0, none⟩) (by show w.heap.size ≤ G; omega) _).setCell (p := ⟨G, 1, none⟩) (by show w.heap.size ≤ G; omega) _, (KSe.out.far (p := ⟨G, 0, none⟩) (by show gs ≠ G; omega) _).far (p := ⟨G, 1, none⟩) (by show gs ≠ G; omega) _, (OSe.out.set_ KXe.out 0 _).set_ (KXe.out.set_ 0 _) 1 _, (KXe.out.set_ 0 _).set_ 1 _, (OYe.out.set_ KXe.out 0 _).set_ (KXe.out.set_ 0 _) 1 _, (by rw [HE.out, HA.out.2.1]; exact HX1.out), (by rw [HE.out]; exact HA.out.2.2), (by rw [HE.out]; exact HA.out.1)⟩
          case measure => simp [intOf]; omega
        · have df : decide (f = 0) = false := decide_eq_false hf
          go_wp2
          go_roundw
          case rel => exact ⟨k + 1, X, by go_num, by omega, Ce.out, KSe.out, OSe.out, KXe.out, OXe.out, HX1.out, HX2.out, HX3.out⟩
          case measure => simp [intOf]; omega
      · have KX4 := Lib.hid (KX1.out.drew.alloc (.cells #[.slice none 0 0, .slice none 0 0] 25))
        have KS4 := Lib.hid (KS1.out.drew.alloc (.cells #[.slice none 0 0, .slice none 0 0] 25))
        have OS4 := Lib.hid (OS1.out.drew.alloc (.cells #[.slice none 0 0, .slice none 0 0] 25))
        have OX4 := Lib.hid (OX1.out.drew.alloc (.cells #[.slice none 0 0, .slice none 0 0] 25))
        have C4 := Lib.hid (below_alloc (below_drewN C1.out 1) (.cells #[.slice none 0 0, .slice none 0 0] 25))
        have K4 := Lib.hid (Blk.newAt (w := wr.drew) (g := wr.heap.size) rfl 25 #[.slice none 0 0, .slice none 0 0])
        have DX4 := Lib.hid (DXd.out.alloc (.cells #[.slice none 0 0, .slice none 0 0] 25))
        have PP4 := Lib.hid (PPd.out.alloc (.cells #[.slice none 0 0, .slice none 0 0] 25))
        have HC4 : Hid ((wr.drew.alloc (.cells #[.slice none 0 0, .slice none 0 0] 25)).cell? (ad.add k) = some (.slice pA pn pc)) := (World.cell?_alloc_lt wr.drew _ (ad.add k) (by have := C1.out.size; show _ < wr.heap.size; omega)).trans HC.out
        have HSS4 : Hid ((wr.drew.alloc (.cells #[.slice none 0 0, .slice none 0 0] 25)).cell? ⟨G, 0, none⟩ = some (.slice X.A X.n X.c) ∧ (wr.drew.alloc (.cells #[.slice none 0 0, .slice none 0 0] 25)).cell? ⟨G, 1, none⟩ = some (.slice X.WA X.Wn X.Wc) ∧ (wr.drew.alloc (.cells #[.slice none 0 0, .slice none 0 0] 25)).cell? (ad.add k) = some (.slice pA pn pc)) := ⟨KX4.out.cell 0, KX4.out.cell 1, HC4.out⟩
        clear KX1 KS1 OS1 OX1 HC HSS DXd PPd
        go_wp2_with fail
        simp only [Qn]
        refine ⟨HSS4.out, ?_⟩
        refine T_one (i := 5) rfl (by kernel_rfl) ?_
        go_wp2_with fail
        refine (append_is X pA pn pc pd _ Y f HY.out DX4.out PP4.out).mono ?_
        rintro e5 w5 ⟨DY, rfl, hx, hex, hb⟩
        have KX5 := Lib.hid (KX4.out.below hb KX4.out.lt)
        have KS5 := Lib.hid (KS4.out.below hb KS4.out.lt)
        have OS5 := Lib.hid (OS4.out.below hb)
        have OX5 := Lib.hid (OX4.out.below hb)
        have OY5 := Lib.hid (own_disk_blk hx)
        have K5 := Lib.hid (K4.out.below hb K4.out.lt)
        have C5 := Lib.hid (C4.out.trans (hb.mono C4.out.size))
        have HC5 : Hid (w5.cell? (ad.add k) = some (.slice pA pn pc)) := (hb.cell (p := ad.add k) (Nat.lt_of_lt_of_le hadb C4.out.size)).trans HC4.out
        have HE := Lib.hid hex
        have hg14 : gs ≠ wr.heap.size ∧ G ≠ wr.heap.size ∧ w.heap.size ≤ wr.heap.size ∧ (ad.add k).block ≠ wr.heap.size := by
          have q1 := C1.out.size
          have q2 : G < wr.heap.size := by have := KX4.out; exact hGlt
          omega
        clear hx hex hb KX4 KS4 OS4 OX4 C1 C4 K4 DX4 PP4 HC4 HSS4
        have HSS5 : Hid (w5.cell? ⟨G, 0, none⟩ = some (.slice X.A X.n X.c) ∧ w5.cell? ⟨G, 1, none⟩ = some (.slice X.WA X.Wn X.Wc) ∧ w5.cell? (ad.add k) = some (.slice pA pn pc)) := ⟨KX5.out.cell 0, KX5.out.cell 1, HC5.out⟩
        go_wp2_with fail
        simp only [Qn]
        refine ⟨HSS5.out, ?_⟩
        refine T_takeL (i := 6) (v := ?_) rfl (by kernel_rfl) (fun _ _ _ h => h) (Or.inl ⟨by rfl, ?_⟩) HSS5.out ?_
        rotate_left
        · ((intro w hSw; (try dsimp only at hSw); go_simp) <;> with_reducible rfl)
        try simp only [Act.put, List.setIfInBounds_toArray, List.set_cons_zero, List.set_cons_succ]
        refine T_takeL (i := 7) (v := ?_) rfl (by kernel_rfl) (fun _ _ _ h => h) (Or.inl ⟨by rfl, ?_⟩) HSS5.out ?_
        rotate_left
        · ((intro w hSw; (try dsimp only at hSw); go_simp) <;> with_reducible rfl)
        try simp only [Act.put, List.setIfInBounds_toArray, List.set_cons_zero, List.set_cons_succ]
        refine T_takeL (i := 8) (v := ?_) rfl (by kernel_rfl) (fun _ _ _ h => h) (Or.inl ⟨by rfl, ?_⟩) HSS5.out ?_
        rotate_left
        · ((intro w hSw; (try dsimp only at hSw); go_simp) <;> with_reducible rfl)
        try simp only [Act.put, List.setIfInBounds_toArray, List.set_cons_zero, List.set_cons_succ]
        have KXe := Lib.hid ((KX5.out.far (p := ⟨wr.heap.size, 0, none⟩) hg14.2.1 (.slice DY.A DY.n DY.c)).far (p := ⟨wr.heap.size, 1, none⟩) hg14.2.1 (.slice DY.WA DY.Wn DY.Wc))
        have KSe := Lib.hid ((KS5.out.far (p := ⟨wr.heap.size, 0, none⟩) hg14.1 (.slice DY.A DY.n DY.c)).far (p := ⟨wr.heap.size, 1, none⟩) hg14.1 (.slice DY.WA DY.Wn DY.Wc))
        have K14 := Lib.hid ((K5.out.set_ 0 (.slice DY.A DY.n DY.c)).set_ 1 (.slice DY.WA DY.Wn DY.Wc))
        have OSe := Lib.hid ((OS5.out.set_ K5.out 0 (.slice DY.A DY.n DY.c)).set_ (K5.out.set_ 0 (.slice DY.A DY.n DY.c)) 1 (.slice DY.WA DY.Wn DY.Wc))
        have OXe := Lib.hid ((OX5.out.set_ K5.out 0 (.slice DY.A DY.n DY.c)).set_ (K5.out.set_ 0 (.slice DY.A DY.n DY.c)) 1 (.slice DY.WA DY.Wn DY.Wc))
        have OYe := Lib.hid ((OY5.out.set_ K5.out 0 (.slice DY.A DY.n DY.c)).set_ (K5.out.set_ 0 (.slice DY.A DY.n DY.c)) 1 (.slice DY.WA DY.Wn DY.Wc))
        have Ce := Lib.hid ((C5.out.setCell (p := ⟨wr.heap.size, 0, none⟩) hg14.2.2.1 (.slice DY.A DY.n DY.c)).setCell (p := ⟨wr.heap.size, 1, none⟩) hg14.2.2.1 (.slice DY.WA DY.Wn DY.Wc))
        have HSS7 : Hid (((w5.setCell ⟨wr.heap.size, 0, none⟩ (.slice DY.A DY.n DY.c)).setCell ⟨wr.heap.size, 1, none⟩ (.slice DY.WA DY.Wn DY.Wc)).cell? ⟨G, 0, none⟩ = some (.slice X.A X.n X.c) ∧ ((w5.setCell ⟨wr.heap.size, 0, none⟩ (.slice DY.A DY.n DY.c)).setCell ⟨wr.heap.size, 1, none⟩ (.slice DY.WA DY.Wn DY.Wc)).cell? ⟨G, 1, none⟩ = some (.slice X.WA X.Wn X.Wc) ∧ ((w5.setCell ⟨wr.heap.size, 0, none⟩ (.slice DY.A DY.n DY.c)).setCell ⟨wr.heap.size, 1, none⟩ (.slice DY.WA DY.Wn DY.Wc)).cell? (ad.add k) = some (.slice pA pn pc)) := ⟨KXe.out.cell 0, KXe.out.cell 1, (World.cell?_setCell_other _ _ _ _ (fun e => hg14.2.2.2 (congrArg Addr.block e).symm)).trans ((World.cell?_setCell_other _ _ _ _ (fun e => hg14.2.2.2 (congrArg Addr.block e).symm)).trans HC5.out)⟩
        have k0 := K5.out.cell 0
        have k1 := K5.out.cell 1
        have fk0 := K5.out.frozen 0
        have fk1 := K5.out.frozen 1
        refine T_one (i := 10) rfl (by kernel_rfl) ?_
        go_wp2_with fail
        simp only [Qn]
        refine ⟨HSS7.out, ?_⟩
        refine T_end (by kernel_rfl) ?_
        clear k0 k1 fk0 fk1 KX5 KS5 OS5 OX5 OY5 K5 C5 HC5
        have x0 := K14.out.cell 0
        have x1 := K14.out.cell 1
        have fx0 := KXe.out.frozen 0
        have u0 := KXe.out.cell 0
        have u1 := KXe.out.cell 1
        have fx1 := KXe.out.frozen 1
        by_cases hf : f = 0
        · subst hf
          have HA := Lib.hid (app_keeps HY.out HX2.out)
          go_wp2
          go_roundw
          case rel => exact ⟨k + 1, DY, by go_num, by omega, (Ce.out.setCell (p := ⟨G, 0, none⟩) (by show w.heap.size ≤ G; omega) _).setCell (p := ⟨G, 1, none⟩) (by show w.heap.size ≤ G; omega) _, (KSe.out.far (p := ⟨G, 0, none⟩) (by show gs ≠ G; omega) _).far (p := ⟨G, 1, none⟩) (by show gs ≠ G; omega) _, (OSe.out.set_ KXe.out 0 _).set_ (KXe.out.set_ 0 _) 1 _, (KXe.out.set_ 0 _).set_ 1 _, (OYe.out.set_ KXe.out 0 _).set_ (KXe.out.set_ 0 _) 1 _, (by rw [HE.out, HA.out.2.1]; exact HX1.out), (by rw [HE.out]; exact HA.out.2.2), (by rw [HE.out]; exact HA.out.1)⟩
          case measure => simp [intOf]; omega
        · have df : decide (f = 0) = false := decide_eq_false hf
          go_wp2
          go_roundw
          case rel => exact ⟨k + 1, X, by go_num, by omega, Ce.out, KSe.out, OSe.out, KXe.out, OXe.out, HX1.out, HX2.out, HX3.out⟩
          case measure => simp [intOf]; omega
    · obtain ⟨R, g, hR⟩ : ∃ R g, Dp.crash X.disk keep many = (R, g) := ⟨_, _, rfl⟩
      have HR := Lib.hid hR
      have HSX : Hid (Dp.see X.disk = (Dp.seen X.disk, 0)) := by rw [Hid, Dp.see, if_pos HX3.out]
      have HXD : Hid (X.disk.wait.length = X.Wn) := wait_n OX1.out.at_
      clear hR
      have y0 := KX1.out.cell 0
      have y1 := KX1.out.cell 1
      go_wp2_with fail
      refine (see_is X _ _ _ HSX.out OX1.out.at_).mono ?_
      rintro e5 w5 ⟨Ap, cp, mp, rfl, hmm, ho, hb⟩
      have Rp := Lib.hid (Reads.of_own ho)
      have Mp := Lib.hid hmm
      have Qp := Lib.hid (own_cap ho)
      replace C1 := Lib.hid (C1.out.trans (hb.mono C1.out.size))
      replace KS1 := Lib.hid (KS1.out.below hb KS1.out.lt)
      replace OS1 := Lib.hid (OS1.out.below hb)
      replace KX1 := Lib.hid (KX1.out.below hb KX1.out.lt)
      replace OX1 := Lib.hid (OX1.out.below hb)
      clear hmm ho hb y0 y1
      have y0 := KX1.out.cell 0
      have y1 := KX1.out.cell 1
      go_wp2_with fail
      refine (crash_is X keep many _ R g HR.out OX1.out.at_ hmh).mono ?_
      rintro e6 w6 ⟨DZ, rfl, hx, hex, hb⟩
      have KZ := Lib.hid (Blk.new w6 25 #[.slice DZ.A DZ.n DZ.c, .slice DZ.WA DZ.Wn DZ.Wc])
      have OZ := Lib.hid ((own_disk_blk hx).alloc (.cells #[.slice DZ.A DZ.n DZ.c, .slice DZ.WA DZ.Wn DZ.Wc] 25))
      have EZ := Lib.hid hex
      replace C1 := Lib.hid (below_alloc (C1.out.trans (hb.mono C1.out.size)) (.cells #[.slice DZ.A DZ.n DZ.c, .slice DZ.WA DZ.Wn DZ.Wc] 25))
      replace KS1 := Lib.hid ((KS1.out.below hb KS1.out.lt).alloc (.cells #[.slice DZ.A DZ.n DZ.c, .slice DZ.WA DZ.Wn DZ.Wc] 25))
      replace OS1 := Lib.hid ((OS1.out.below hb).alloc (.cells #[.slice DZ.A DZ.n DZ.c, .slice DZ.WA DZ.Wn DZ.Wc] 25))
      replace KX1 := Lib.hid ((KX1.out.below hb KX1.out.lt).alloc (.cells #[.slice DZ.A DZ.n DZ.c, .slice DZ.WA DZ.Wn DZ.Wc] 25))
      replace OX1 := Lib.hid ((OX1.out.below hb).alloc (.cells #[.slice DZ.A DZ.n DZ.c, .slice DZ.WA DZ.Wn DZ.Wc] 25))
      replace Rp := Lib.hid (((Rp.out.below hb).more hb.size).up_alloc (.cells #[.slice DZ.A DZ.n DZ.c, .slice DZ.WA DZ.Wn DZ.Wc] 25))
      clear hx hex hb y0 y1
      by_cases hmn : many < 0
      · have hmx : ¬ (0 : Int) ≤ many := by omega
        have dmn : decide (many < 0) = true := decide_eq_true hmn
        have y0 := KS1.out.cell 0
        have y1 := KS1.out.cell 1
        go_wp2_with fail
        refine (crash_is DS 0 0 _ ⟨sd, []⟩ 0 (by rw [ES2.out]; exact crash_still HM1.out (by omega)) OS1.out.at_ (by omega)).mono ?_
        rintro e7 w7 ⟨DT, rfl, hx, hex, hb⟩
        have KT := Lib.hid (Blk.new w7 25 #[.slice DT.A DT.n DT.c, .slice DT.WA DT.Wn DT.Wc])
        have OT := Lib.hid ((own_disk_blk hx).alloc (.cells #[.slice DT.A DT.n DT.c, .slice DT.WA DT.Wn DT.Wc] 25))
        have ET := Lib.hid hex
        replace C1 := Lib.hid (below_alloc (C1.out.trans (hb.mono C1.out.size)) (.cells #[.slice DT.A DT.n DT.c, .slice DT.WA DT.Wn DT.Wc] 25))
        replace KS1 := Lib.hid ((KS1.out.below hb KS1.out.lt).alloc (.cells #[.slice DT.A DT.n DT.c, .slice DT.WA DT.Wn DT.Wc] 25))
        replace OS1 := Lib.hid ((OS1.out.below hb).alloc (.cells #[.slice DT.A DT.n DT.c, .slice DT.WA DT.Wn DT.Wc] 25))
        replace KX1 := Lib.hid ((KX1.out.below hb KX1.out.lt).alloc (.cells #[.slice DT.A DT.n DT.c, .slice DT.WA DT.Wn DT.Wc] 25))
        replace OX1 := Lib.hid ((OX1.out.below hb).alloc (.cells #[.slice DT.A DT.n DT.c, .slice DT.WA DT.Wn DT.Wc] 25))
        replace Rp := Lib.hid (((Rp.out.below hb).more hb.size).up_alloc (.cells #[.slice DT.A DT.n DT.c, .slice DT.WA DT.Wn DT.Wc] 25))
        replace KZ := Lib.hid ((KZ.out.below hb KZ.out.lt).alloc (.cells #[.slice DT.A DT.n DT.c, .slice DT.WA DT.Wn DT.Wc] 25))
        replace OZ := Lib.hid ((OZ.out.below hb).alloc (.cells #[.slice DT.A DT.n DT.c, .slice DT.WA DT.Wn DT.Wc] 25))
        clear hx hex hb y0 y1
        have rs := OS1.out.at_.rd
        have rt := OT.out.at_.rd
        have rz := OZ.out.at_.rd
        rw [show DS.d = sd from congrArg Dp.Disk.data ES2.out] at rs
        rw [show DT.d = sd from congrArg Dp.Disk.data ET.out] at rt
        rw [show DZ.d = R.data from congrArg Dp.Disk.data EZ.out] at rz
        have RS := Lib.hid rs
        have RT := Lib.hid rt
        have RZ := Lib.hid rz
        have LS : Hid (sd.length = DS.n) := by rw [Hid, ← OS1.out.at_.len_d, show DS.d = sd from congrArg Dp.Disk.data ES2.out]
        have LZ : Hid (R.data.length = DZ.n) := by rw [Hid, ← OZ.out.at_.len_d, show DZ.d = R.data from congrArg Dp.Disk.data EZ.out]
        have WZ : Hid (R.wait.length = DZ.Wn) := by rw [Hid, ← EZ.out]; exact wait_n OZ.out.at_
        clear rs rt rz OS1 OX1 OZ OT
        have v1 := conv_b (c := DT.c) RT.out
        have v2 := conv_b (c := DS.c) RS.out
        have v3 := fun q => conv_b (w := (w7.alloc (.cells #[.slice DT.A DT.n DT.c, .slice DT.WA DT.Wn DT.Wc] 25)).drewN q) (c := DZ.c) (RZ.out.drewN q)
        have t0 := KT.out.cell 0
        have s0 := KS1.out.cell 0
        have z0 := KZ.out.cell 0
        have z1 := KZ.out.cell 1
        have x1 := KX1.out.cell 1
        rcases crash_code HX3.out HR.out with hg | ⟨hg, hbad⟩
        · subst hg
          obtain ⟨p0, p1, p2, p3⟩ := keeps_plain HX3.out HX2.out HR.out
          rw [LZ.out, HX1.out, LS.out] at p2
          rw [LZ.out, Mp.out] at p3
          have T1 : Hid ((Dp.seen X.disk).take DZ.n = R.data) := by rw [Hid, ← LZ.out]; exact p1.symm
          have WZ0 : DZ.Wn = 0 := by rw [← WZ.out, p0]; rfl
          rw [WZ0] at z1
          have hsl := fun W => run_slice_to (P := Try.prog) Try.underlying22 Ap mp cp DZ.n (Nat.le_trans p3 Qp.out.1) W u8_size
          have rq := Rp.out.first p3
          rw [cb_take, T1.out] at rq
          have v4 := fun q => conv_b (w := (w7.alloc (.cells #[.slice DT.A DT.n DT.c, .slice DT.WA DT.Wn DT.Wc] 25)).drewN q) (c := cp) (rq.drewN q)
          have g1 : decide ((DS.n : Int) ≤ (DZ.n : Int)) = true := decide_eq_true (by omega)
          have g2 : decide ((DZ.n : Int) ≤ (mp : Int)) = true := decide_eq_true (by omega)
          have g3 : decide (DS.n ≤ DZ.n) = true := decide_eq_true p2
          have g4 : decide (DZ.n ≤ mp) = true := decide_eq_true p3
          clear p0 p1 rq WZ0
          go_wp2_with fail
          go_quiet (fail)
          go_wp2
          go_ret
          exact ⟨rfl, below_drewN C1.out _⟩
        · subst hg
          rw [HXD.out] at hbad
          have hxw : X.Wn ≤ 1024 := by rw [← HXD.out]; exact Dp.mayD_len HX3.out
          by_cases hk0 : keep < 0
          · have dk0 : decide (keep < 0) = true := decide_eq_true hk0
            go_wp2
            go_ret
            exact ⟨rfl, C1.out⟩
          have dk0 : decide (keep < 0) = false := decide_eq_false hk0
          by_cases hk1 : (X.Wn : Int) < keep
          · have dk1 : decide ((X.Wn : Int) < keep) = true := decide_eq_true hk1
            go_wp2
            go_ret
            exact ⟨rfl, C1.out⟩
          have dk1 : decide ((X.Wn : Int) < keep) = false := decide_eq_false hk1
          go_wp2
          go_ret
          exact ⟨rfl, C1.out⟩
      · have hmx : (0 : Int) ≤ many := by omega
        have dmn : decide (many < 0) = false := decide_eq_false hmn
        have y0 := KS1.out.cell 0
        have y1 := KS1.out.cell 1
        go_wp2_with fail
        refine (crash_is DS 0 many _ ⟨sd, []⟩ 0 (by rw [ES2.out]; exact crash_still HM1.out (by omega)) OS1.out.at_ (by omega)).mono ?_
        rintro e7 w7 ⟨DT, rfl, hx, hex, hb⟩
        have KT := Lib.hid (Blk.new w7 25 #[.slice DT.A DT.n DT.c, .slice DT.WA DT.Wn DT.Wc])
        have OT := Lib.hid ((own_disk_blk hx).alloc (.cells #[.slice DT.A DT.n DT.c, .slice DT.WA DT.Wn DT.Wc] 25))
        have ET := Lib.hid hex
        replace C1 := Lib.hid (below_alloc (C1.out.trans (hb.mono C1.out.size)) (.cells #[.slice DT.A DT.n DT.c, .slice DT.WA DT.Wn DT.Wc] 25))
        replace KS1 := Lib.hid ((KS1.out.below hb KS1.out.lt).alloc (.cells #[.slice DT.A DT.n DT.c, .slice DT.WA DT.Wn DT.Wc] 25))
        replace OS1 := Lib.hid ((OS1.out.below hb).alloc (.cells #[.slice DT.A DT.n DT.c, .slice DT.WA DT.Wn DT.Wc] 25))
        replace KX1 := Lib.hid ((KX1.out.below hb KX1.out.lt).alloc (.cells #[.slice DT.A DT.n DT.c, .slice DT.WA DT.Wn DT.Wc] 25))
        replace OX1 := Lib.hid ((OX1.out.below hb).alloc (.cells #[.slice DT.A DT.n DT.c, .slice DT.WA DT.Wn DT.Wc] 25))
        replace Rp := Lib.hid (((Rp.out.below hb).more hb.size).up_alloc (.cells #[.slice DT.A DT.n DT.c, .slice DT.WA DT.Wn DT.Wc] 25))
        replace KZ := Lib.hid ((KZ.out.below hb KZ.out.lt).alloc (.cells #[.slice DT.A DT.n DT.c, .slice DT.WA DT.Wn DT.Wc] 25))
        replace OZ := Lib.hid ((OZ.out.below hb).alloc (.cells #[.slice DT.A DT.n DT.c, .slice DT.WA DT.Wn DT.Wc] 25))
        clear hx hex hb y0 y1
        have rs := OS1.out.at_.rd
        have rt := OT.out.at_.rd
        have rz := OZ.out.at_.rd
        rw [show DS.d = sd from congrArg Dp.Disk.data ES2.out] at rs
        rw [show DT.d = sd from congrArg Dp.Disk.data ET.out] at rt
        rw [show DZ.d = R.data from congrArg Dp.Disk.data EZ.out] at rz
        have RS := Lib.hid rs
        have RT := Lib.hid rt
        have RZ := Lib.hid rz
        have LS : Hid (sd.length = DS.n) := by rw [Hid, ← OS1.out.at_.len_d, show DS.d = sd from congrArg Dp.Disk.data ES2.out]
        have LZ : Hid (R.data.length = DZ.n) := by rw [Hid, ← OZ.out.at_.len_d, show DZ.d = R.data from congrArg Dp.Disk.data EZ.out]
        have WZ : Hid (R.wait.length = DZ.Wn) := by rw [Hid, ← EZ.out]; exact wait_n OZ.out.at_
        clear rs rt rz OS1 OX1 OZ OT
        have v1 := conv_b (c := DT.c) RT.out
        have v2 := conv_b (c := DS.c) RS.out
        have v3 := fun q => conv_b (w := (w7.alloc (.cells #[.slice DT.A DT.n DT.c, .slice DT.WA DT.Wn DT.Wc] 25)).drewN q) (c := DZ.c) (RZ.out.drewN q)
        have t0 := KT.out.cell 0
        have s0 := KS1.out.cell 0
        have z0 := KZ.out.cell 0
        have z1 := KZ.out.cell 1
        have x1 := KX1.out.cell 1
        rcases crash_code HX3.out HR.out with hg | ⟨hg, hbad⟩
        · subst hg
          obtain ⟨p0, p1, p2, p3⟩ := keeps_plain HX3.out HX2.out HR.out
          rw [LZ.out, HX1.out, LS.out] at p2
          rw [LZ.out, Mp.out] at p3
          have T1 : Hid ((Dp.seen X.disk).take DZ.n = R.data) := by rw [Hid, ← LZ.out]; exact p1.symm
          have WZ0 : DZ.Wn = 0 := by rw [← WZ.out, p0]; rfl
          rw [WZ0] at z1
          have hsl := fun W => run_slice_to (P := Try.prog) Try.underlying22 Ap mp cp DZ.n (Nat.le_trans p3 Qp.out.1) W u8_size
          have rq := Rp.out.first p3
          rw [cb_take, T1.out] at rq
          have v4 := fun q => conv_b (w := (w7.alloc (.cells #[.slice DT.A DT.n DT.c, .slice DT.WA DT.Wn DT.Wc] 25)).drewN q) (c := cp) (rq.drewN q)
          have g1 : decide ((DS.n : Int) ≤ (DZ.n : Int)) = true := decide_eq_true (by omega)
          have g2 : decide ((DZ.n : Int) ≤ (mp : Int)) = true := decide_eq_true (by omega)
          have g3 : decide (DS.n ≤ DZ.n) = true := decide_eq_true p2
          have g4 : decide (DZ.n ≤ mp) = true := decide_eq_true p3
          clear p0 p1 rq WZ0
          go_wp2_with fail
          go_quiet (fail)
          go_wp2
          go_ret
          exact ⟨rfl, below_drewN C1.out _⟩
        · subst hg
          rw [HXD.out] at hbad
          have hxw : X.Wn ≤ 1024 := by rw [← HXD.out]; exact Dp.mayD_len HX3.out
          by_cases hk0 : keep < 0
          · have dk0 : decide (keep < 0) = true := decide_eq_true hk0
            go_wp2
            go_ret
            exact ⟨rfl, C1.out⟩
          have dk0 : decide (keep < 0) = false := decide_eq_false hk0
          by_cases hk1 : (X.Wn : Int) < keep
          · have dk1 : decide ((X.Wn : Int) < keep) = true := decide_eq_true hk1
            go_wp2
            go_ret
            exact ⟨rfl, C1.out⟩
          have dk1 : decide ((X.Wn : Int) < keep) = false := decide_eq_false hk1
          exfalso
          omega
end Go.Proofs.Ytihinhdgfbnlmaa
