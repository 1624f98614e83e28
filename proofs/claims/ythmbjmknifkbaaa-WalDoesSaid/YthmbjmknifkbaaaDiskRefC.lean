/-
  Layer 3, the reference: Twin.
-/
import Derived.Test.YthmbjmknifkbaaaDiskRefA
namespace Go.Proofs.Ythmbjmknifkbaaa
open Go.RowKit
set_option maxHeartbeats 4000000
set_option maxRecDepth 100000
set_option linter.unusedVariables false
set_option linter.unusedSimpArgs false

theorem rtwin_any (D : HD) (w : World) (h : DiskAt w w.heap.size D) (hs : Sm D.disk) :
    Calls Try.prog 6 #[.agg #[.slice D.A D.n D.c, .slice D.WA D.Wn D.Wc]] w fun e w' => ∃ D', e = .returned (.agg #[.slice D'.A D'.n D'.c, .slice D'.WA D'.Wn D'.Wc]) ∧ OwnDisk w' w.heap.size D' ∧ D'.disk = D.disk ∧ Below w.heap.size w w' := by
  have hsm := hs.n h rfl
  have hlen := h.len_l
  have hlim := h.lim
  obtain ⟨A, n, c, d, WA, Wn, Wc, l⟩ := D
  simp only at hlen hsm hlim ⊢
  obtain ⟨s1, s2⟩ := hsm
  have hz : w.heap.size + 1 < w.heap.size + 2 := by omega
  have HD0 := Lib.hid h
  have HPL := Lib.hid (fun q hq => (h.all q hq).2.2.2)
  replace s1 : n ≤ 140737488351232 := by omega
  have HL := Lib.hid hlen
  have B0 := Lib.hid (((Below.refl _ w).alloc (Nat.le_refl w.heap.size) (.cells #[.slice A n c, .slice WA Wn Wc] 25)).alloc (by simp) (.cells #[.slice none 0 0, .slice none 0 0] 25))
  have KD := Lib.hid ((Blk.new w 25 #[.slice A n c, .slice WA Wn Wc]).alloc (.cells #[.slice none 0 0, .slice none 0 0] 25))
  have KR := Lib.hid (Blk.newAt (w := w.alloc (.cells #[.slice A n c, .slice WA Wn Wc] 25)) (g := w.heap.size + 1) (by simp) 25 #[.slice none 0 0, .slice none 0 0])
  have HR0 := Lib.hid (h.rd.below B0.out)
  clear h hs hlen
  go_enter Try.func6, Try.ntmps6
  go_wp2_with (at_builtin; refine app_bl rfl (.const (.slice none 0 0)) (.tmp 6) rfl (w.heap.size + 2) (.slice none 0 0) 0 [] rfl (World.ownsRow_nil _ _ _ _) w.heap.size A n c d rfl HR0.out (by omega) (by simp) ?_)
  intro v' w2 h1 h2
  have KD2 := Lib.hid ((KD.out.grown h2.1 (by simp [Value.ownBlock])).alloc (.cells #[v', .slice none 0 0] 25))
  have KR2 := Lib.hid ((KR.out.grown h2.1 (by simp [Value.ownBlock])).alloc (.cells #[v', .slice none 0 0] 25))
  have K7 := Lib.hid (Blk.new w2 25 #[v', .slice none 0 0])
  have B2 := Lib.hid ((below_grown0 B0.out h2.1 B0.out.size).alloc (Nat.le_trans B0.out.size h2.1.size) (.cells #[v', .slice none 0 0] 25))
  obtain ⟨A1, c1, rfl, _, _, _⟩ := own_form h1
  have O1 := Lib.hid (h1.alloc (.cells #[.slice A1 n c1, .slice none 0 0] 25))
  have hz2 : w.heap.size + 2 ≤ w2.heap.size := by have := h2.1.size; simpa using this
  clear h1 h2 KD KR B0
  go_wp2
  have HWS := Lib.hid (show (w2.alloc (.cells #[.slice A1 n c1, .slice none 0 0] 25)).heap.size = w2.heap.size + 1 by simp)
  generalize w2.alloc (.cells #[.slice A1 n c1, .slice none 0 0] 25) = W at *
  generalize w2.heap.size = g7 at *
  go_loopw [4] (fun y wr => DPutRel W g7 A1 n c1 l y wr) (fun y _ => Wn - (intOf y).toNat)
  case atStart => exact ⟨0, none, 0, [], rfl, Nat.zero_le _, World.grownBy.refl _ _, K7.out, World.ownsRow_nil _ _ _ _, rfl, by simp⟩
  case round =>
    obtain ⟨k, WA2, Wc2, l', rfl, hk, hg, hK, hO, hl', hA⟩ := hrel
    have HG := Lib.hid hg
    have HK := Lib.hid hK
    have HO := Lib.hid hO
    have HL' := Lib.hid hl'
    have HA := Lib.hid hA
    clear hg hK hO hl' hA
    rw [HL.out] at hk
    have HBW := Lib.hid (below_grown B2.out HG.out B2.out.size (by omega))
    have KDr := Lib.hid (KD2.out.grown HG.out (by intro e; injection e with e; omega))
    have hszr := HG.out.size
    have y1 := KDr.out.cell 1
    by_cases hlt : k < Wn
    · obtain ⟨g, off, q, e, hgg, hmm, hc⟩ := (HD0.out.rw_.below HBW.out).hput hlt
      have hqm := List.mem_of_getElem? hmm
      have hqa := (HD0.out.all q hqm).below HBW.out
      have hql := HPL.out q hqm
      simp only at e
      subst e
      obtain ⟨qw, qA, qn, qc, qd⟩ := q
      simp only at hql
      have HM2 := Lib.hid hmm
      have HQ := Lib.hid hqa.1
      have HC0 : Hid (wr.cell? ⟨g, off + k * 2, none⟩ = some (.bool qw)) := by have := hc 0 _ rfl; rwa [Nat.add_zero] at this
      have HC1 : Hid (wr.cell? ⟨g, off + k * 2 + 1, none⟩ = some (.slice qA qn qc)) := hc 1 _ rfl
      clear hc hmm hqa hqm
      go_wp2_with fail
      have HS0 : Hid (wr.drew.cell? ⟨g7, 1, none⟩ = some (.slice WA2 k Wc2) ∧ wr.drew.cell? ⟨w.heap.size, 1, none⟩ = some (.slice (some ⟨g, off, none⟩) Wn Wc) ∧ wr.drew.cell? ⟨g, off + k * 2, none⟩ = some (.bool qw) ∧ wr.drew.cell? ⟨g, off + k * 2 + 1, none⟩ = some (.slice qA qn qc)) := ⟨HK.out.cell 1, KDr.out.cell 1, HC0.out, HC1.out⟩
      refine T_region 18 (fun w' => w'.cell? ⟨g7, 1, none⟩ = some (.slice WA2 k Wc2) ∧ w'.cell? ⟨w.heap.size, 1, none⟩ = some (.slice (some ⟨g, off, none⟩) Wn Wc) ∧ w'.cell? ⟨g, off + k * 2, none⟩ = some (.bool qw) ∧ w'.cell? ⟨g, off + k * 2 + 1, none⟩ = some (.slice qA qn qc)) (by kernel_rfl) (by kernel_rfl) ?_
      refine T_takeL (i := 0) (v := ?_) rfl (by kernel_rfl) (fun _ _ _ h => h) (Or.inl ⟨by rfl, ?_⟩) HS0.out ?_
      rotate_left
      · ((intro w hSw; (try dsimp only at hSw); go_simp) <;> with_reducible rfl)
      try simp only [Act.put, List.setIfInBounds_toArray, List.set_cons_zero, List.set_cons_succ]
      refine T_takeL (i := 1) (v := ?_) rfl (by kernel_rfl) (fun _ _ _ h => h) (Or.inl ⟨by rfl, ?_⟩) HS0.out ?_
      rotate_left
      · ((intro w hSw; (try dsimp only at hSw); go_simp) <;> with_reducible rfl)
      try simp only [Act.put, List.setIfInBounds_toArray, List.set_cons_zero, List.set_cons_succ]
      refine T_takeL (i := 2) (v := ?_) rfl (by kernel_rfl) (fun _ _ _ h => h) (Or.inl ⟨by rfl, ?_⟩) HS0.out ?_
      rotate_left
      · ((intro w hSw; (try dsimp only at hSw); go_simp) <;> with_reducible rfl)
      try simp only [Act.put, List.setIfInBounds_toArray, List.set_cons_zero, List.set_cons_succ]
      refine T_takeL (i := 3) (v := ?_) rfl (by kernel_rfl) (fun _ _ _ h => h) (Or.inl ⟨by rfl, ?_⟩) HS0.out ?_
      rotate_left
      · ((intro w hSw; (try dsimp only at hSw); go_simp) <;> with_reducible rfl)
      try simp only [Act.put, List.setIfInBounds_toArray, List.set_cons_zero, List.set_cons_succ]
      refine T_takeL (i := 4) (v := ?_) rfl (by kernel_rfl) (fun _ _ _ h => h) (Or.inl ⟨by rfl, ?_⟩) HS0.out ?_
      rotate_left
      · ((intro w hSw; (try dsimp only at hSw); go_simp) <;> with_reducible rfl)
      try simp only [Act.put, List.setIfInBounds_toArray, List.set_cons_zero, List.set_cons_succ]
      refine T_takeL (i := 5) (v := ?_) rfl (by kernel_rfl) (fun _ _ _ h => h) (Or.inl ⟨by rfl, ?_⟩) HS0.out ?_
      rotate_left
      · ((intro w hSw; (try dsimp only at hSw); go_simp) <;> with_reducible rfl)
      try simp only [Act.put, List.setIfInBounds_toArray, List.set_cons_zero, List.set_cons_succ]
      refine T_takeL (i := 6) (v := ?_) rfl (by kernel_rfl) (fun _ _ _ h => h) (Or.inl ⟨by rfl, ?_⟩) HS0.out ?_
      rotate_left
      · ((intro w hSw; (try dsimp only at hSw); go_simp) <;> with_reducible rfl)
      try simp only [Act.put, List.setIfInBounds_toArray, List.set_cons_zero, List.set_cons_succ]
      refine T_takeL (i := 7) (v := ?_) rfl (by kernel_rfl) (fun _ _ _ h => h) (Or.inl ⟨by rfl, ?_⟩) HS0.out ?_
      rotate_left
      · ((intro w hSw; (try dsimp only at hSw); go_simp) <;> with_reducible rfl)
      try simp only [Act.put, List.setIfInBounds_toArray, List.set_cons_zero, List.set_cons_succ]
      refine T_takeL (i := 8) (v := ?_) rfl (by kernel_rfl) (fun _ _ _ h => h) (Or.inl ⟨by rfl, ?_⟩) HS0.out ?_
      rotate_left
      · ((intro w hSw; (try dsimp only at hSw); go_simp) <;> with_reducible rfl)
      try simp only [Act.put, List.setIfInBounds_toArray, List.set_cons_zero, List.set_cons_succ]
      refine T_takeL (i := 9) (v := ?_) rfl (by kernel_rfl) (fun _ _ _ h => h) (Or.inl ⟨by rfl, ?_⟩) HS0.out ?_
      rotate_left
      · ((intro w hSw; (try dsimp only at hSw); go_simp) <;> with_reducible rfl)
      try simp only [Act.put, List.setIfInBounds_toArray, List.set_cons_zero, List.set_cons_succ]
      refine T_takeL (i := 10) (v := ?_) rfl (by kernel_rfl) (fun _ _ _ h => h) (Or.inl ⟨by rfl, ?_⟩) HS0.out ?_
      rotate_left
      · ((intro w hSw; (try dsimp only at hSw); go_simp) <;> with_reducible rfl)
      try simp only [Act.put, List.setIfInBounds_toArray, List.set_cons_zero, List.set_cons_succ]
      refine T_takeL (i := 11) (v := ?_) rfl (by kernel_rfl) (fun _ _ _ h => h) (Or.inl ⟨by rfl, ?_⟩) HS0.out ?_
      rotate_left
      · ((intro w hSw; (try dsimp only at hSw); go_simp) <;> with_reducible rfl)
      try simp only [Act.put, List.setIfInBounds_toArray, List.set_cons_zero, List.set_cons_succ]
      refine T_takeL (i := 12) (v := ?_) rfl (by kernel_rfl) (fun _ _ _ h => h) (Or.inl ⟨by rfl, ?_⟩) HS0.out ?_
      rotate_left
      · ((intro w hSw; (try dsimp only at hSw); go_simp) <;> with_reducible rfl)
      try simp only [Act.put, List.setIfInBounds_toArray, List.set_cons_zero, List.set_cons_succ]
      refine T_takeL (i := 13) (v := ?_) rfl (by kernel_rfl) (fun _ _ _ h => h) (Or.inl ⟨by rfl, ?_⟩) HS0.out ?_
      rotate_left
      · ((intro w hSw; (try dsimp only at hSw); go_simp) <;> with_reducible rfl)
      try simp only [Act.put, List.setIfInBounds_toArray, List.set_cons_zero, List.set_cons_succ]
      refine T_one (i := 14) rfl (by kernel_rfl) ?_
      refine (app_bl rfl (.const (.slice none 0 0)) (.tmp 29) rfl W.heap.size (.slice none 0 0) 0 [] rfl (World.ownsRow_nil _ _ _ _) w.heap.size qA qn qc qd rfl HQ.out.drew (by omega) (by have := HG.out.size; exact this) ?_)
      intro v4 w4 o4 g4
      have hown4 : wr.drew.grownBy w4 none := g4.1
      have HB4 := Lib.hid (below_grown0 HBW.out.drew hown4 HBW.out.size)
      have HG4 := Lib.hid (grown_tr (only_drew HG.out) ⟨hown4.os, hown4.tape, hown4.output, hown4.size, fun i hi _ => hown4.block i hi (by simp)⟩)
      have KG4 := Lib.hid (HK.out.drew.grown hown4 (by simp))
      have KD4 := Lib.hid (KDr.out.drew.grown hown4 (by simp))
      have HO4 := Lib.hid (own_grown0 (show wr.drew.ownsRow _ _ _ _ _ _ from HO.out) hown4)
      have HLT : Hid (∀ g, (Value.slice WA2 k Wc2).ownBlock = some g → W.heap.size ≤ g ∧ g < wr.heap.size) := fun g hg => own_lt HO.out hg
      have HA4 : Hid (∀ q ∈ l', w4.ownsRow W.heap.size 5 1 (.slice q.A q.n q.c) q.n (cb q.d) ∧ q.n ≤ 140737488351232) := fun q hq => ⟨own_grown0 (show wr.drew.ownsRow _ _ _ _ _ _ from (HA.out q hq).1) hown4, (HA.out q hq).2⟩
      have hsw4 : wr.heap.size ≤ w4.heap.size := hown4.size
      obtain ⟨A4, c4, rfl⟩ := own_shape o4
      rw [Nat.zero_add, List.nil_append] at o4
      have O4 := Lib.hid o4
      have HC04 : Hid (w4.cell? ⟨g, off + k * 2, none⟩ = some (.bool qw)) := (World.cell?_of_block (hown4.block g (by show g < wr.heap.size; have := HBW.out.size; omega) (by simp))).trans HC0.out
      have HC14 : Hid (w4.cell? ⟨g, off + k * 2 + 1, none⟩ = some (.slice qA qn qc)) := (World.cell?_of_block (hown4.block g (by show g < wr.heap.size; have := HBW.out.size; omega) (by simp))).trans HC1.out
      have HS4 : Hid (w4.cell? ⟨g7, 1, none⟩ = some (.slice WA2 k Wc2) ∧ w4.cell? ⟨w.heap.size, 1, none⟩ = some (.slice (some ⟨g, off, none⟩) Wn Wc) ∧ w4.cell? ⟨g, off + k * 2, none⟩ = some (.bool qw) ∧ w4.cell? ⟨g, off + k * 2 + 1, none⟩ = some (.slice qA qn qc)) := ⟨KG4.out.cell 1, KD4.out.cell 1, HC04.out, HC14.out⟩
      clear o4 g4 hown4 HG HK HO HA HS0 HQ HC0 HC1 KDr y1
      simp only [Nat.zero_add]
      go_wp2_with fail
      simp only [Qn]
      refine ⟨HS4.out, ?_⟩
      refine T_takeL (i := 15) (v := ?_) rfl (by kernel_rfl) (fun _ _ _ h => h) (Or.inl ⟨by rfl, ?_⟩) HS4.out ?_
      rotate_left
      · ((intro w hSw; (try dsimp only at hSw); go_simp) <;> with_reducible rfl)
      try simp only [Act.put, List.setIfInBounds_toArray, List.set_cons_zero, List.set_cons_succ]
      have KG5 := Lib.hid (KG4.out.alloc (.cells #[.bool qw, .slice A4 qn c4] 42))
      have KD5 := Lib.hid (KD4.out.alloc (.cells #[.bool qw, .slice A4 qn c4] 42))
      have HB5 := Lib.hid (HB4.out.alloc HB4.out.size (.cells #[.bool qw, .slice A4 qn c4] 42))
      have hg5 : g < w4.heap.size := by have := HB4.out.size; omega
      have HC05 : Hid ((w4.alloc (.cells #[.bool qw, .slice A4 qn c4] 42)).cell? ⟨g, off + k * 2, none⟩ = some (.bool qw)) := (World.cell?_alloc_lt w4 _ ⟨g, off + k * 2, none⟩ hg5).trans HC04.out
      have HC15 : Hid ((w4.alloc (.cells #[.bool qw, .slice A4 qn c4] 42)).cell? ⟨g, off + k * 2 + 1, none⟩ = some (.slice qA qn qc)) := (World.cell?_alloc_lt w4 _ ⟨g, off + k * 2 + 1, none⟩ hg5).trans HC14.out
      have HS5 : Hid ((w4.alloc (.cells #[.bool qw, .slice A4 qn c4] 42)).cell? ⟨g7, 1, none⟩ = some (.slice WA2 k Wc2) ∧ (w4.alloc (.cells #[.bool qw, .slice A4 qn c4] 42)).cell? ⟨w.heap.size, 1, none⟩ = some (.slice (some ⟨g, off, none⟩) Wn Wc) ∧ (w4.alloc (.cells #[.bool qw, .slice A4 qn c4] 42)).cell? ⟨g, off + k * 2, none⟩ = some (.bool qw) ∧ (w4.alloc (.cells #[.bool qw, .slice A4 qn c4] 42)).cell? ⟨g, off + k * 2 + 1, none⟩ = some (.slice qA qn qc)) := ⟨KG5.out.cell 1, KD5.out.cell 1, HC05.out, HC15.out⟩
      refine T_one (i := 16) rfl (by kernel_rfl) ?_
      go_wp2_with fail
      simp only [Qn]
      refine ⟨HS5.out, ?_⟩
      refine T_one (i := 17) rfl (by kernel_rfl) ?_
      refine (app_p rfl (.tmp 17) (.tmp 32) rfl W.heap.size (.slice WA2 k Wc2) k l' rfl (HO4.out.alloc (.cells #[.bool qw, .slice A4 qn c4] 42)) (w4.heap.size + 1) (some ⟨w4.heap.size, 0, none⟩) 1 ⟨qw, A4, qn, c4, qd⟩ rfl (new_put w4 qw A4 qn c4 qd) (by omega) (by simp; omega) ?_)
      intro v5 w5 o5 g5
      have KG6 := Lib.hid (KG5.out.grown g5.1 (fun e => own_blk_ne (HO4.out.alloc (.cells #[.bool qw, .slice A4 qn c4] 42)) KG5.out (by decide) e.symm))
      have KD6 := Lib.hid (KD5.out.grown g5.1 (fun e => own_blk_ne (HO4.out.alloc (.cells #[.bool qw, .slice A4 qn c4] 42)) KD5.out (by decide) e.symm))
      have HB6 := Lib.hid (HB5.out.grown g5.1 HB5.out.size (fun g hg => by have := (HLT.out _ hg).1; have := HWS.out; omega))
      have HG6 := Lib.hid (grown_row (only_alloc HG4.out (.cells #[.bool qw, .slice A4 qn c4] 42)) g5.1 (fun g hg => (HLT.out g hg).1))
      have HA6 : Hid (∀ q ∈ l' ++ [⟨qw, A4, qn, c4, qd⟩], w5.ownsRow W.heap.size 5 1 (.slice q.A q.n q.c) q.n (cb q.d) ∧ q.n ≤ 140737488351232) := by
        intro q hq
        rcases List.mem_append.1 hq with hq | hq
        · exact ⟨own_other ((HA4.out q hq).1.alloc _) (HO4.out.alloc _) (by decide) g5, (HA4.out q hq).2⟩
        · rw [List.mem_singleton] at hq
          subst hq
          exact ⟨own_other (O4.out.alloc _) (HO4.out.alloc _) (by decide) g5, by show qn ≤ _; omega⟩
      have HC06 : Hid (w5.cell? ⟨g, off + k * 2, none⟩ = some (.bool qw)) := (World.cell?_of_block (g5.1.block g (by simp; omega) (fun e => by have := (HLT.out _ e.symm).1; have := HWS.out; omega))).trans HC05.out
      have HC16 : Hid (w5.cell? ⟨g, off + k * 2 + 1, none⟩ = some (.slice qA qn qc)) := (World.cell?_of_block (g5.1.block g (by simp; omega) (fun e => by have := (HLT.out _ e.symm).1; have := HWS.out; omega))).trans HC15.out
      have HS6 : Hid (w5.cell? ⟨g7, 1, none⟩ = some (.slice WA2 k Wc2) ∧ w5.cell? ⟨w.heap.size, 1, none⟩ = some (.slice (some ⟨g, off, none⟩) Wn Wc) ∧ w5.cell? ⟨g, off + k * 2, none⟩ = some (.bool qw) ∧ w5.cell? ⟨g, off + k * 2 + 1, none⟩ = some (.slice qA qn qc)) := ⟨KG6.out.cell 1, KD6.out.cell 1, HC06.out, HC16.out⟩
      obtain ⟨A5, c5, rfl⟩ := own_shape o5
      have O6 := Lib.hid o5
      clear o5 g5 HG4 KG4 KD4 HO4 HA4 O4 HS4 KG5 KD5 HS5 HLT HB4 HB5 HC04 HC14 HC05 HC15 HC06 HC16
      go_wp2_with fail
      simp only [Qn]
      refine ⟨HS6.out, ?_⟩
      refine T_end (by kernel_rfl) ?_
      have y1 := KG6.out.cell 1
      have fz1 := KG6.out.frozen 1
      go_wp2
      go_roundw
      case rel => exact ⟨k + 1, A5, c5, l' ++ [⟨qw, A4, qn, c4, qd⟩], by go_num, by rw [HL.out]; omega, only_setCell HG6.out (Or.inl rfl) _, KG6.out.set_ 1 _, own_set O6.out KG6.out (by decide) 1 _, by rw [List.map_append, HL'.out, take_map_next HM2.out]; rfl, fun q hq => ⟨own_set (HA6.out q hq).1 KG6.out (by decide) 1 _, (HA6.out q hq).2⟩⟩
      case measure => simp [intOf]; omega
    · obtain rfl : k = Wn := by omega
      have KRr := Lib.hid (KR2.out.grown HG.out (by intro e; injection e with e; omega))
      have Or := Lib.hid (own_grown O1.out HG.out K7.out (by decide))
      have HLl : Hid (l'.map HP.put = l.map HP.put) := by
        rw [Hid, HL'.out, List.take_of_length_le (by rw [HL.out]; exact Nat.le_refl _)]
      have OD : Hid (OwnDisk wr w.heap.size ⟨A1, n, c1, d, WA2, k, Wc2, l'⟩) := Lib.hid ⟨own_mono Or.out (by omega), own_mono HO.out B2.out.size, hlim, by show k ≤ _; omega, fun q hq => ⟨own_mono (HA.out q hq).1 B2.out.size, (HA.out q hq).2⟩⟩
      have HDk : Hid ((⟨A1, n, c1, d, WA2, k, Wc2, l'⟩ : HD).disk = ⟨d, l.map HP.put⟩) := by rw [Hid, HD.disk]; simp only [HLl.out]
      have x0 := HK.out.cell 0
      have x1 := HK.out.cell 1
      have z0 := KRr.out.cell 0
      have z1 := KRr.out.cell 1
      have fz0 := KRr.out.frozen 0
      have fz1 := KRr.out.frozen 1
      clear HO HA HL' Or HLl KR2 K7 O1 B2 HG KD2 HD0 HPL
      go_wp2
      exact bodyPost_ret (v := .agg #[.slice A1 n c1, .slice WA2 k Wc2]) (by simp [results, Try.results6, go_sem, z0, z1]) rfl ⟨⟨A1, n, c1, d, WA2, k, Wc2, l'⟩, rfl, (OD.out.set_ KRr.out 0 _).set_ (KRr.out.set_ 0 _) 1 _, HDk.out, (HBW.out.setCell (by simp) _).setCell (by simp) _⟩
end Go.Proofs.Ythmbjmknifkbaaa
