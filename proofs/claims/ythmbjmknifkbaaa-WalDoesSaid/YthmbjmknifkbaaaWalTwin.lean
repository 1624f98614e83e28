/-
  Layer 4: wal.twin.
-/
import Derived.Test.YthmbjmknifkbaaaDiskRefA
namespace Go.Proofs.Ythmbjmknifkbaaa
open Go.RowKit
set_option maxHeartbeats 4000000
set_option maxRecDepth 100000
set_option linter.unusedVariables false
set_option linter.unusedSimpArgs false

theorem twin_any (D : HD) (w : World) (h : DiskAt w w.heap.size D) (hwn : D.Wn ≤ 1000000) :
    Calls Try.prog 18 #[.agg #[.slice D.A D.n D.c, .slice D.WA D.Wn D.Wc]] w fun e w' => ∃ D', e = .returned (.agg #[.slice D'.A D'.n D'.c, .slice D'.WA D'.Wn D'.Wc]) ∧ OwnDisk w' w.heap.size D' ∧ D'.disk = D.disk ∧ Below w.heap.size w w' := by
  have hlen := h.len_l
  have hlim := h.lim
  obtain ⟨A, n, c, d, WA, Wn, Wc, l⟩ := D
  simp only at hlen hlim hwn ⊢
  have hz : w.heap.size + 1 < w.heap.size + 2 := by omega
  have HD0 := Lib.hid h
  have HPL := Lib.hid (fun q hq => (h.all q hq).2.2.2)
  have HL := Lib.hid hlen
  have B0 := Lib.hid (((Below.refl _ w).alloc (Nat.le_refl w.heap.size) (.cells #[.slice A n c, .slice WA Wn Wc] 25)).alloc (by simp) (.cells #[.slice none 0 0, .slice none 0 0] 25))
  have KD := Lib.hid ((Blk.new w 25 #[.slice A n c, .slice WA Wn Wc]).alloc (.cells #[.slice none 0 0, .slice none 0 0] 25))
  have KR := Lib.hid (Blk.newAt (w := w.alloc (.cells #[.slice A n c, .slice WA Wn Wc] 25)) (g := w.heap.size + 1) (by simp) 25 #[.slice none 0 0, .slice none 0 0])
  have HR0 := Lib.hid (h.rd.below B0.out)
  clear h hlen
  go_enter Try.func18, Try.ntmps18
  go_wp2_with (at_builtin; refine app_bl rfl (.const (.slice none 0 0)) (.tmp 7) rfl (w.heap.size + 2) (.slice none 0 0) 0 [] rfl (World.ownsRow_nil _ _ _ _) w.heap.size A n c d rfl HR0.out (by omega) (by simp) ?_)
  intro v' w2 h1 h2
  have KD2 := Lib.hid ((KD.out.grown h2.1 (by simp [Value.ownBlock])).alloc (.cells #[v', .slice none 0 0] 25))
  have KR2 := Lib.hid ((KR.out.grown h2.1 (by simp [Value.ownBlock])).alloc (.cells #[v', .slice none 0 0] 25))
  have K7 := Lib.hid (Blk.new w2 25 #[v', .slice none 0 0])
  have B2 := Lib.hid ((below_grown0 B0.out h2.1 B0.out.size).alloc (Nat.le_trans B0.out.size h2.1.size) (.cells #[v', .slice none 0 0] 25))
  obtain ⟨A1, c1, rfl, _, _, _⟩ := own_form h1
  have O1 := Lib.hid (h1.alloc (.cells #[.slice A1 n c1, .slice none 0 0] 25))
  have hz2 : w.heap.size + 2 ≤ w2.heap.size := by have := h2.1.size; simpa using this
  clear h1 h2 KD KR B0
  have d1 := KD2.out.cell 1
  go_wp2
  clear d1
  have HWS := Lib.hid (show (w2.alloc (.cells #[.slice A1 n c1, .slice none 0 0] 25)).heap.size = w2.heap.size + 1 by simp)
  generalize w2.alloc (.cells #[.slice A1 n c1, .slice none 0 0] 25) = W at *
  generalize w2.heap.size = g7 at *
  go_loopw [13] (fun y wr => DPutRel W g7 A1 n c1 l y wr) (fun y _ => Wn - (intOf y).toNat)
  case atStart => exact ⟨0, none, 0, [], rfl, Nat.zero_le _, World.grownBy.refl _ _, K7.out, World.ownsRow_nil _ _ _ _, rfl, by simp⟩
  case round =>
    obtain ⟨k, WA2, Wc2, l', rfl, hk, hg, hK, hO, hl', hA⟩ := hrel
    have HG := Lib.hid hg
    have HK := Lib.hid hK
    have HO := Lib.hid hO
    have HL' := Lib.hid hl'
    have HA := Lib.hid hA
    clear hg hK hO hl' hA
    rw [HL.out] at hk
    have HBW := Lib.hid (below_grown B2.out HG.out B2.out.size (by omega))
    have KDr := Lib.hid (KD2.out.grown HG.out (by intro e; injection e with e; omega))
    have hszr := HG.out.size
    have y1 := KDr.out.cell 1
    by_cases hlt : k < Wn
    · obtain ⟨g, off, q, e, hgg, hmm, hc⟩ := (HD0.out.rw_.below HBW.out).hput hlt
      have hqm := List.mem_of_getElem? hmm
      have hqa := (HD0.out.all q hqm).below HBW.out
      have hql := HPL.out q hqm
      simp only at e
      subst e
      obtain ⟨qw, qA, qn, qc, qd⟩ := q
      simp only at hql
      have HM2 := Lib.hid hmm
      have HQ := Lib.hid hqa.1
      have HC : Hid (wr.rangeAt g (off + k * 2) [.bool qw, .slice qA qn qc]) := Lib.hid hc
      clear hc hmm hqa hqm y1
      have HQ1 := Lib.hid (HQ.out.keep (w' := wr.alloc (.cells #[.bool qw, .slice qA qn qc] 42)) fun p hp => World.cell?_alloc_lt wr _ p (by have := HBW.out.size; omega))
      go_wp2_with (first | (with_reducible refine wpList_load_mid rfl _ _ rfl _ _ rfl _ _ HC.out Try.underlying42 rfl (by kernel_rfl) ?_) | (at_builtin; refine app_bl rfl (.const (.slice none 0 0)) (.tmp 18) rfl W.heap.size (.slice none 0 0) 0 [] rfl (World.ownsRow_nil _ _ _ _) w.heap.size qA qn qc qd rfl HQ1.out (by omega) (by have := HG.out.size; simp; omega) ?_))
      intro v4 w4 o4 g4
      have hown4 : (wr.alloc (.cells #[.bool qw, .slice qA qn qc] 42)).grownBy w4 none := g4.1
      have HB4 := Lib.hid (below_grown0 (HBW.out.alloc HBW.out.size (.cells #[.bool qw, .slice qA qn qc] 42)) hown4 (by have := HBW.out.size; simp; omega))
      have HG4 := Lib.hid (grown_tr (only_alloc HG.out (.cells #[.bool qw, .slice qA qn qc] 42)) ⟨hown4.os, hown4.tape, hown4.output, hown4.size, fun i hi _ => hown4.block i hi (by simp)⟩)
      have KG4 := Lib.hid ((HK.out.alloc (.cells #[.bool qw, .slice qA qn qc] 42)).grown hown4 (by simp))
      have KP4 := Lib.hid ((Blk.new wr 42 #[.bool qw, .slice qA qn qc]).grown hown4 (by simp))
      have HO4 := Lib.hid (own_grown0 (HO.out.alloc (.cells #[.bool qw, .slice qA qn qc] 42)) hown4)
      have HLT : Hid (∀ g, (Value.slice WA2 k Wc2).ownBlock = some g → W.heap.size ≤ g ∧ g < wr.heap.size) := fun g hg => own_lt HO.out hg
      have HA4 : Hid (∀ q ∈ l', w4.ownsRow W.heap.size 5 1 (.slice q.A q.n q.c) q.n (cb q.d) ∧ q.n ≤ 140737488351232) := fun q hq => ⟨own_grown0 ((HA.out q hq).1.alloc _) hown4, (HA.out q hq).2⟩
      have hsw4 : wr.heap.size + 1 ≤ w4.heap.size := by have := hown4.size; simpa using this
      obtain ⟨A4, c4, rfl⟩ := own_shape o4
      have O4 := Lib.hid o4
      clear o4 g4 hown4 HG HK HO HA HQ HQ1 KDr HC
      have hne : wr.heap.size ≠ g7 := by have := HWS.out; omega
      have hne2 : g7 ≠ wr.heap.size := by have := HWS.out; omega
      have p0 := KP4.out.cell 0
      have p1 := KP4.out.cell 1
      have fp1 := KP4.out.frozen 1
      have k1 := KG4.out.cell 1
      -- the box of the write has its new bytes
      have KG5 := Lib.hid (KG4.out.far (p := ⟨wr.heap.size, 1, none⟩) hne2 (.slice A4 qn c4))
      have KP5 := Lib.hid (KP4.out.set_ 1 (.slice A4 qn c4))
      have HB5 := Lib.hid (HB4.out.setCell (p := ⟨wr.heap.size, 1, none⟩) (by show w.heap.size ≤ wr.heap.size; exact HBW.out.size) (.slice A4 qn c4))
      have HG5 := Lib.hid (only_setCell HG4.out (p := ⟨wr.heap.size, 1, none⟩) (Or.inr (by show W.heap.size ≤ wr.heap.size; omega)) (.slice A4 qn c4))
      have HO5 : Hid ((w4.setCell ⟨wr.heap.size, 1, none⟩ (.slice A4 qn c4)).ownsRow W.heap.size 42 2 (.slice WA2 k Wc2) k (hp l')) := own_keep HO4.out fun g hg => Below.heap_setCell w4 ⟨wr.heap.size, 1, none⟩ _ g (by have := (HLT.out g hg).2; show g ≠ wr.heap.size; omega)
      have HA5 : Hid (∀ q ∈ l', (w4.setCell ⟨wr.heap.size, 1, none⟩ (.slice A4 qn c4)).ownsRow W.heap.size 5 1 (.slice q.A q.n q.c) q.n (cb q.d) ∧ q.n ≤ 140737488351232) := fun q hq => ⟨own_set (HA4.out q hq).1 KP4.out (by decide) 1 _, (HA4.out q hq).2⟩
      have O5 := Lib.hid (own_set O4.out KP4.out (by decide) 1 (.slice A4 qn c4))
      have hsw5 : wr.heap.size + 1 ≤ (w4.setCell ⟨wr.heap.size, 1, none⟩ (.slice A4 qn c4)).heap.size := by simpa [World.setCell] using hsw4
      have NP : Hid (Reads ((w4.setCell ⟨wr.heap.size, 1, none⟩ (.slice A4 qn c4)).alloc (.cells #[.bool qw, .slice A4 qn c4] 42)) (w4.heap.size + 1) 2 (some ⟨w4.heap.size, 0, none⟩) 1 (hp [⟨qw, A4, qn, c4, qd⟩])) := by
        have h := new_put (w4.setCell ⟨wr.heap.size, 1, none⟩ (.slice A4 qn c4)) qw A4 qn c4 qd
        rw [show (w4.setCell ⟨wr.heap.size, 1, none⟩ (.slice A4 qn c4)).heap.size = w4.heap.size by simp [World.setCell]] at h
        exact h
      go_wp2_with (at_builtin; go_must (refine app_p rfl (.tmp 22) (.tmp 24) rfl W.heap.size (.slice WA2 k Wc2) k l' rfl (HO5.out.alloc (.cells #[.bool qw, .slice A4 qn c4] 42)) _ (some ⟨w4.heap.size, 0, none⟩) 1 ⟨qw, A4, qn, c4, qd⟩ rfl NP.out (by omega) (by simp; omega) ?_))
      intro v5 w5 o5 g5
      have KG6 := Lib.hid ((KG5.out.alloc (.cells #[.bool qw, .slice A4 qn c4] 42)).grown g5.1 (fun e => own_blk_ne (HO5.out.alloc (.cells #[.bool qw, .slice A4 qn c4] 42)) (KG5.out.alloc _) (by decide) e.symm))
      have HG6 := Lib.hid (grown_row (only_alloc HG5.out (.cells #[.bool qw, .slice A4 qn c4] 42)) g5.1 (fun g hg => (HLT.out g hg).1))
      have HA6 : Hid (∀ q ∈ l' ++ [⟨qw, A4, qn, c4, qd⟩], w5.ownsRow W.heap.size 5 1 (.slice q.A q.n q.c) q.n (cb q.d) ∧ q.n ≤ 140737488351232) := by
        intro q hq
        rcases List.mem_append.1 hq with hq | hq
        · exact ⟨own_other ((HA5.out q hq).1.alloc _) (HO5.out.alloc _) (by decide) g5, (HA5.out q hq).2⟩
        · rw [List.mem_singleton] at hq
          subst hq
          exact ⟨own_other (O5.out.alloc _) (HO5.out.alloc _) (by decide) g5, by show qn ≤ _; omega⟩
      obtain ⟨A5, c5, rfl⟩ := own_shape o5
      have O6 := Lib.hid o5
      clear o5 g5 HG4 KG4 KP4 HO4 HA4 O4 KG5 KP5 HO5 HA5 O5 HLT HB4 HB5 HG5 p0 p1 fp1 k1
      have y1 := KG6.out.cell 1
      have fz1 := KG6.out.frozen 1
      go_wp2
      go_roundw
      case rel => exact ⟨k + 1, A5, c5, l' ++ [⟨qw, A4, qn, c4, qd⟩], by go_num, by rw [HL.out]; omega, only_setCell HG6.out (Or.inl rfl) _, KG6.out.set_ 1 _, own_set O6.out KG6.out (by decide) 1 _, by rw [List.map_append, HL'.out, take_map_next HM2.out]; rfl, fun q hq => ⟨own_set (HA6.out q hq).1 KG6.out (by decide) 1 _, (HA6.out q hq).2⟩⟩
      case measure => simp [intOf]; omega
    · obtain rfl : k = Wn := by omega
      have KRr := Lib.hid (KR2.out.grown HG.out (by intro e; injection e with e; omega))
      have Or := Lib.hid (own_grown O1.out HG.out K7.out (by decide))
      have HLl : Hid (l'.map HP.put = l.map HP.put) := by
        rw [Hid, HL'.out, List.take_of_length_le (by rw [HL.out]; exact Nat.le_refl _)]
      have OD : Hid (OwnDisk wr w.heap.size ⟨A1, n, c1, d, WA2, k, Wc2, l'⟩) := Lib.hid ⟨own_mono Or.out (by omega), own_mono HO.out B2.out.size, hlim, by show k ≤ _; omega, fun q hq => ⟨own_mono (HA.out q hq).1 B2.out.size, (HA.out q hq).2⟩⟩
      have HDk : Hid ((⟨A1, n, c1, d, WA2, k, Wc2, l'⟩ : HD).disk = ⟨d, l.map HP.put⟩) := by rw [Hid, HD.disk]; simp only [HLl.out]
      have x0 := HK.out.cell 0
      have x1 := HK.out.cell 1
      have z0 := KRr.out.cell 0
      have z1 := KRr.out.cell 1
      have fz0 := KRr.out.frozen 0
      have fz1 := KRr.out.frozen 1
      clear HO HA HL' Or HLl KR2 K7 O1 B2 HG KD2 HD0 HPL
      go_wp2
      exact bodyPost_ret (v := .agg #[.slice A1 n c1, .slice WA2 k Wc2]) (by simp [results, Try.results18, go_sem, z0, z1]) rfl ⟨⟨A1, n, c1, d, WA2, k, Wc2, l'⟩, rfl, (OD.out.set_ KRr.out 0 _).set_ (KRr.out.set_ 0 _) 1 _, HDk.out, (HBW.out.setCell (by simp) _).setCell (by simp) _⟩
end Go.Proofs.Ythmbjmknifkbaaa
