/-
  wire.Write: the call's answer.
-/
import Derived.Test.YtdodfpjejjjciaaWireWrite
namespace Go.Proofs.Ytdodfpjejjjciaa
open Go.RowKit Bal
set_option maxHeartbeats 16000000
set_option maxRecDepth 100000
set_option linter.unusedVariables false
set_option linter.unusedSimpArgs false

def hd (m : Wp.Mail) (j : Nat) : List UInt8 := ([m.f, m.t, m.k, m.g].take j).flatMap fun n => Nm.enc n.toNat
theorem wrF_snoc (m : Wp.Mail) (c : UInt8) : ∀ cs : List UInt8, Wp.wrF (cs ++ [c]) m = Wp.wrF cs m ++ (if c = 118 then Nm.txt m.v else Nm.enc (m.get c).toNat)
  | [] => by simp [Wp.wrF]
  | d :: cs => by simp [Wp.wrF, wrF_snoc m c cs]
theorem bytesM_hd (m : Wp.Mail) : Wp.bytesM m = hd m 4 ++ Wp.wrF (Wp.fieldsL m.k) m := by simp [Wp.bytesM, hd]
theorem wrF_len (m : Wp.Mail) (hv : m.v.length ≤ 1024) (hb : ∀ c, 0 ≤ m.get c ∧ m.get c ≤ 1099511627776) : ∀ cs : List UInt8, (Wp.wrF cs m).length ≤ 1030 * cs.length
  | [] => Nat.le_refl _
  | d :: cs => by
    have ih := wrF_len m hv hb cs
    have h1 := Nm.enc_len6 (n := m.v.length) (by omega)
    have h2 := Nm.enc_len6 (n := (m.get d).toNat) (by have := hb d; omega)
    simp only [Wp.wrF, List.length_append, List.length_cons]
    split
    · simp only [Nm.txt, List.length_append]; omega
    · omega
theorem hd_len (m : Wp.Mail) (j : Nat) (hf : m.f ≤ 5) (ht : m.t ≤ 5) (hk : m.k ≤ 255) (hg : m.g ≤ 3) : (hd m j).length ≤ 24 := by
  have h1 := Nm.enc_len6 (n := m.f.toNat) (by omega)
  have h2 := Nm.enc_len6 (n := m.t.toNat) (by omega)
  have h3 := Nm.enc_len6 (n := m.k.toNat) (by omega)
  have h4 := Nm.enc_len6 (n := m.g.toNat) (by omega)
  unfold hd
  match j with
  | 0 => simp
  | 1 => simp; omega
  | 2 => simp; omega
  | 3 => simp; omega
  | j + 4 => simp; omega
theorem fields_short (k : Int) : (Wp.fieldsL k).length ≤ 4 := by
  unfold Wp.fieldsL
  repeat' split
  all_goals decide
theorem mayM_get {m : Wp.Mail} (h : Wp.mayM m = true) (c : UInt8) : 0 ≤ m.get c ∧ m.get c ≤ 1099511627776 := by
  obtain ⟨_, _, _, _, _, h6, h7, h8, h9, h10, _⟩ := Wp.mayM_cases h
  unfold Wp.Mail.get
  repeat' split
  all_goals omega
def L1 (m : Wp.Mail) (w : World) (gm gb gi : Nat) (x : Value) (wr : World) : Prop :=
  ∃ j : Nat, x = .int .i64 (j : Int) ∧ j ≤ 4 ∧ MSt w gm gb (mA m) (hd m j) wr ∧ Blk wr gi 3 #[.int .i64 m.f, .int .i64 m.t, .int .i64 m.k, .int .i64 m.g]
def L2 (m : Wp.Mail) (w : World) (gm gb gc cap : Nat) (F : ByteArray) (x : Value) (wr : World) : Prop :=
  ∃ j : Nat, x = .int .i64 (j : Int) ∧ j ≤ (Wp.fieldsL m.k).length ∧ MSt w gm gb (mA m) (hd m 4 ++ Wp.wrF ((Wp.fieldsL m.k).take j) m) wr ∧ CvB wr gc F cap

theorem wwrite_bad (m : Wp.Mail) (w : World) (hm : IsMailM m) (h : Wp.mayM m = false) :
    Calls Try.prog 12 #[.agg (mA m)] w fun e w' => e = .returned (.tuple #[.slice none 0 0, .int .i64 8]) ∧ Below w.heap.size w w' := by
  have W1 := wcheck_any m (w.alloc (.cells (mA m) 23)) hm
  rw [h, if_neg (by decide)] at W1
  have HW := Lib.hid W1
  clear W1 h
  obtain ⟨U, hU⟩ : ∃ U, S m.v = U := ⟨_, rfl⟩
  have eA : mA m = #[.int .i64 m.f, .int .i64 m.t, .int .u8 m.k, .int .i64 m.g, .int .i64 m.s, .int .i64 m.b, .int .i64 m.p, .string U, .int .i64 m.i, .int .i64 m.tm] := by rw [← hU]; rfl
  clear hU
  rw [eA] at HW ⊢
  clear eA
  go_enter Try.func12, Try.ntmps12
  go_wp2_with fail
  with_reducible refine HW.out.mono ?_
  rintro e w1 ⟨rfl, hb⟩
  have HB := Lib.hid (below_of_alloc (hb.mono (B' := w.heap.size) (by simp)) (Nat.le_refl _))
  clear hb HW
  go_wp2
  go_ret2
  exact ⟨rfl, HB.out⟩

theorem wwrite_ok (m : Wp.Mail) (w : World) (hm : IsMailM m) (h : Wp.mayM m = true) :
    Calls Try.prog 12 #[.agg (mA m)] w fun e w' => ∃ A c, e = .returned (.tuple #[.slice A (Wp.bytesM m).length c, .int .i64 0]) ∧ w'.ownsRow w.heap.size 5 1 (.slice A (Wp.bytesM m).length c) (Wp.bytesM m).length (cb (Wp.bytesM m)) ∧ Below w.heap.size w w' := by
  have W1 := wcheck_any m (w.alloc (.cells (mA m) 23)) hm
  rw [h, if_pos rfl] at W1
  have HW := Lib.hid W1
  obtain ⟨⟨f0, f1⟩, ⟨t0, t1⟩, ⟨g0, g1⟩, hv, ⟨k0, k1⟩, _⟩ := Wp.mayM_cases h
  have HG := Lib.hid (mayM_get h)
  have HBY := Lib.hid (bytesM_hd m)
  obtain ⟨fl, hfl⟩ : ∃ fl, Wp.fieldsL m.k = fl := ⟨_, rfl⟩
  have hfs := fields_short m.k
  have hlet := (Wp.fields_nodup m.k).2
  rw [hfl] at hfs hlet
  have HLET := Lib.hid hlet
  have HHL := Lib.hid fun j => hd_len m j f1 t1 (by omega) g1
  have HWL := Lib.hid (wrF_len m hv (mayM_get h))
  have HFL := Lib.hid hfl
  clear W1 h hlet
  obtain ⟨F, hF⟩ : ∃ F, S fl = F := ⟨_, rfl⟩
  have hfz : F.size = fl.length := by rw [← hF]; exact S_size fl
  have HFd : Hid (F.data.toList = fl) := by rw [Hid, ← hF]; rfl
  have HFI := Lib.hid (fun w => (show Calls Try.prog 29 #[.int .u8 m.k] w fun e w' => e = .returned (.string F) ∧ Below w.heap.size w w' from by rw [← hF, ← hfl]; exact wfields_any m.k w (by omega) (by omega)))
  clear hF hfl
  obtain ⟨U, hU⟩ : ∃ U, S m.v = U := ⟨_, rfl⟩
  have hUz : U.size ≤ 1024 := by rw [← hU, S_size]; exact hv
  have HUd : Hid (U.data.toList = m.v) := by rw [Hid, ← hU]; rfl
  have eA : mA m = #[.int .i64 m.f, .int .i64 m.t, .int .u8 m.k, .int .i64 m.g, .int .i64 m.s, .int .i64 m.b, .int .i64 m.p, .string U, .int .i64 m.i, .int .i64 m.tm] := by rw [← hU]; rfl
  have hcell7 : (mA m)[7]? = some (.string U) := by rw [← hU]; rfl
  have HC7 := Lib.hid hcell7
  clear hU hcell7
  have EA := Lib.hid eA
  rw [eA] at HW ⊢
  clear eA
  go_enter Try.func12, Try.ntmps12
  go_wp2_with fail
  with_reducible refine HW.out.mono ?_
  rintro e w1 ⟨rfl, hb⟩
  have KM := Lib.hid (Blk.below (Blk.new w 23 #[.int .i64 m.f, .int .i64 m.t, .int .u8 m.k, .int .i64 m.g, .int .i64 m.s, .int .i64 m.b, .int .i64 m.p, .string U, .int .i64 m.i, .int .i64 m.tm]) hb (by simp))
  have B1 := Lib.hid (below_of_alloc (hb.mono (B' := w.heap.size) (by simp)) (Nat.le_refl _))
  have c0 := KM.out.cell 0
  have c1 := KM.out.cell 1
  have c2 := KM.out.cell 2
  have c3 := KM.out.cell 3
  have lt1 := KM.out.lt
  have lt2 : w.heap.size < w1.heap.size + 1 := by omega
  clear hb HW
  have H1 : Hid (MSt w w.heap.size w1.heap.size (mA m) (hd m 0) ((w1.alloc (.cells #[.slice none 0 0] 24)).alloc (.cells #[.int .i64 m.f, .int .i64 m.t, .int .i64 m.k, .int .i64 m.g] 3))) := by
    rw [Hid, EA.out]
    exact ⟨.slice none 0 0, (Blk.new w1 _ _).alloc _, World.ownsRow_nil _ _ _ _, (KM.out.alloc _).alloc _, (B1.out.alloc B1.out.size _).alloc (by simp; have := B1.out.size; omega) _, B1.out.size⟩
  have H2 : Hid (Blk ((w1.alloc (.cells #[.slice none 0 0] 24)).alloc (.cells #[.int .i64 m.f, .int .i64 m.t, .int .i64 m.k, .int .i64 m.g] 3)) (w1.heap.size + 1) 3 #[.int .i64 m.f, .int .i64 m.t, .int .i64 m.k, .int .i64 m.g]) := by
    have := Blk.new (w1.alloc (.cells #[.slice none 0 0] 24)) 3 #[.int .i64 m.f, .int .i64 m.t, .int .i64 m.k, .int .i64 m.g]
    simpa [Hid] using this
  go_wp2_with fail
  clear c0 c1 c2 c3
  go_loopw [30] (fun x wr => L1 m w w.heap.size w1.heap.size (w1.heap.size + 1) x wr) (fun x _ => 4 - (intOf x).toNat)
  case atStart => exact ⟨0, rfl, by omega, H1.out, H2.out⟩
  case round =>
    obtain ⟨j, rfl, hj, hm, hi⟩ := hrel
    have HM := Lib.hid hm
    have HI := Lib.hid hi
    clear hm hi H1 H2
    have hl24 := HHL.out j
    by_cases hlt : j < 4
    · obtain ⟨n, hn, hn0, hn1, hnx⟩ : ∃ n : Int, wr.cell? ⟨w1.heap.size + 1, j, none⟩ = some (.int .i64 n) ∧ 0 ≤ n ∧ n ≤ 1099511627776 ∧ hd m (j + 1) = hd m j ++ Nm.enc n.toNat := by
        have hcell := HI.out.cell j
        match j, hlt with
        | 0, _ => exact ⟨m.f, hcell, by omega, by omega, by simp [hd]⟩
        | 1, _ => exact ⟨m.t, hcell, by omega, by omega, by simp [hd]⟩
        | 2, _ => exact ⟨m.k, hcell, by omega, by omega, by simp [hd]⟩
        | 3, _ => exact ⟨m.g, hcell, by omega, by omega, by simp [hd]⟩
      have HN := Lib.hid hnx
      have PU := Lib.hid (wput_any w w.heap.size w1.heap.size (mA m) (hd m j) n (Nm.enc n.toNat) wr HM.out hn0 hn1 rfl (by omega))
      clear hnx
      go_wp2_with fail
      with_reducible refine PU.out.mono ?_
      rintro e w3 ⟨rfl, hm3, hst⟩
      have HM3 := Lib.hid hm3
      have HI3 := Lib.hid (hst.1 _ _ _ (by decide) (by decide) HI.out)
      clear hm3 hst hn PU
      go_wp2
      go_roundw
      case rel => exact ⟨j + 1, by go_num, by omega, by rw [HN.out]; exact HM3.out, HI3.out⟩
      case measure => simp [intOf]; omega
    · obtain rfl : j = 4 := by omega
      have KM4 := HM.out.mail
      rw [EA.out] at KM4
      have c2 := KM4.cell 2
      clear KM4
      have hcv := fun w => run_conv_to w F
      go_wp2_with fail
      refine (HFI.out _).mono ?_
      rintro e w5 ⟨rfl, hb⟩
      have HM5 := Lib.hid (HM.out.below hb)
      clear hb c2
      have H1 : Hid (MSt w w.heap.size w1.heap.size (mA m) (hd m 4 ++ Wp.wrF ((Wp.fieldsL m.k).take 0) m) (convW w5 F)) := by
        have := HM5.out.below (convW_below w5 F)
        simpa [Hid, Wp.wrF] using this
      have H2 := Lib.hid (CvB.new w5 F)
      have hcap := convC_ge w5 F
      go_wp2_with fail
      obtain ⟨W5, hW5⟩ : ∃ W, convW w5 F = W := ⟨_, rfl⟩
      obtain ⟨cap, hcp⟩ : ∃ c, convC w5 F = c := ⟨_, rfl⟩
      obtain ⟨gc, hgc⟩ : ∃ g, w5.heap.size = g := ⟨_, rfl⟩
      rw [hW5] at H1 H2
      rw [hcp] at H2 hcap
      rw [hgc] at H2
      rw [hW5, hcp, hgc]
      clear hW5 hcp hgc hcv
      go_loopw [43] (fun x wr => L2 m w w.heap.size w1.heap.size gc cap F x wr) (fun x _ => 4 - (intOf x).toNat)
      case atStart => exact ⟨0, rfl, Nat.zero_le _, H1.out, H2.out⟩
      case round =>
        obtain ⟨j, rfl, hj, hm, hi⟩ := hrel
        have HM := Lib.hid hm
        have HI := Lib.hid hi
        clear hm hi H1 H2
        rw [HFL.out] at hj HM
        have hl24 := HHL.out 4
        have hwl := HWL.out (fl.take j)
        have htl : (fl.take j).length ≤ 4 := by rw [List.length_take]; omega
        have hll : (hd m 4 ++ Wp.wrF (fl.take j) m).length ≤ 10000 := by rw [List.length_append]; omega
        clear hwl htl hl24
        by_cases hlt : j < fl.length
        · obtain ⟨c, hc⟩ : ∃ c, fl[j] = c := ⟨_, rfl⟩
          have hts := take_snoc' hlt
          rw [hc] at hts
          have HTS := Lib.hid hts
          have hjz : j < F.size := by rw [hfz]; exact hlt
          have hcell : wr.cell? ⟨gc, j, none⟩ = some (.int .u8 (c.toNat : Int)) := by
            have h1 := HI.out.cell j (by rw [HFd.out]; exact hlt)
            simp only [HFd.out, hc] at h1
            exact h1
          have hlc := HLET.out c (hc ▸ List.getElem_mem hlt)
          clear hts hc
          by_cases h118 : c = 118
          · subst h118
            obtain ⟨acc, hacc⟩ : ∃ a, hd m 4 ++ Wp.wrF (fl.take j) m = a := ⟨_, rfl⟩
            rw [hacc] at HM hll
            have HACC := Lib.hid hacc
            clear hacc
            have cm7 : wr.cell? ⟨w.heap.size, 7, none⟩ = some (.string U) := (HM.out.mail.cell 7).trans HC7.out
            obtain ⟨x5, hx5⟩ : ∃ x, Nm.txt m.v = x := ⟨_, rfl⟩
            have l5 : x5.length ≤ 1030 := by rw [← hx5]; have h1 := Nm.enc_len6 (n := m.v.length) (by omega); simp only [Nm.txt, List.length_append]; omega
            have HX5 := Lib.hid hx5
            have HX6 : Hid (Nm.txt U.data.toList = x5) := by rw [Hid, HUd.out]; exact hx5
            clear hx5
            go_wp2_with fail
            refine (ntext_ok U x5 x5.length wr (by omega) HX6.out rfl).mono ?_
            rintro e w6 ⟨A, cc, rfl, ho, hb⟩
            have HB := Lib.hid hb
            have HR := Lib.hid (Reads.of_own ho)
            have H2 := Lib.hid (HM.out.below hb)
            have HI6 := Lib.hid (HI.out.below hb HI.out.lt)
            clear ho hb cm7 hcell
            obtain ⟨v, q1, q2, q4, q5, q6⟩ := H2.out
            have cb1 := q1.cell 0
            have K1 := Lib.hid q1
            have K2 := Lib.hid q2
            have K4 := Lib.hid q4
            have K5 := Lib.hid q5
            clear q1 q2 q4 q5
            go_wp2_with (at_builtin; refine app_bs rfl (.tmp 61) (.tmp 62) rfl w.heap.size v _ acc rfl K2.out w6.heap.size A x5.length cc x5 rfl HR.out ?d1 ?d2 ?_)
            case d1 => omega
            case d2 => exact K5.out.size
            intro v' w7 o hg
            obtain ⟨A', c', rfl, -, -, -⟩ := own_form o
            have k1 := K1.out.grown hg.1 (Ne.symm (own_blk_ne K2.out K1.out (by decide)))
            have c1 := k1.cell 0
            have f1 := k1.frozen 0
            have O := Lib.hid o
            have HGR := Lib.hid hg
            clear k1 o hg cb1
            go_wp2
            go_roundw
            case rel =>
              have := MSt.add K1.out K2.out K4.out K5.out q6 rfl O.out HGR.out
              refine ⟨j + 1, by go_num, by rw [HFL.out]; exact hlt, ?_, this.2.2 _ _ _ HI6.out⟩
              have h1 := this.1
              rw [HFL.out, HTS.out, wrF_snoc, if_pos rfl, HX5.out, ← List.append_assoc, HACC.out]
              exact h1
            case measure => simp [intOf]; omega
          · have hl2 := hlc.resolve_left h118
            have hne : ((c.toNat : Int) == 118) = false := by
              have : c.toNat ≠ 118 := fun e => h118 (UInt8.toNat_inj.1 e)
              simpa using (show ¬ (c.toNat : Int) = 118 by omega)
            have hne2 : ((c.toNat : Int) != 118) = true := by simp only [bne, hne, Bool.not_false]
            have cg : wr.cell? ⟨w.heap.size, off c, none⟩ = some (.int .i64 (m.get c)) := (HM.out.mail.cell (off c)).trans (mA_get m c)
            have bG := HG.out c
            have P1 := Lib.hid (wplace_any w.heap.size c wr hl2)
            have PU := Lib.hid (wput_any w w.heap.size w1.heap.size (mA m) _ (m.get c) (Nm.enc (m.get c).toNat) wr HM.out bG.1 bG.2 rfl (by omega))
            clear hlc hl2
            go_wp2_with fail
            with_reducible refine P1.out.mono ?_
            rintro e w' ⟨rfl, rfl⟩
            go_wp2_with fail
            with_reducible refine PU.out.mono ?_
            rintro e w7 ⟨rfl, hm7, hst⟩
            have HM7 := Lib.hid hm7
            have HI7 := Lib.hid (hst.2 _ _ _ HI.out)
            clear hm7 hst PU P1 cg hcell
            go_wp2
            go_roundw
            case rel =>
              refine ⟨j + 1, by go_num, by rw [HFL.out]; exact hlt, ?_, HI7.out⟩
              rw [HFL.out, HTS.out, wrF_snoc, if_neg h118, ← List.append_assoc]
              exact HM7.out
            case measure => simp [intOf]; omega
        · obtain rfl : j = fl.length := by omega
          have hjz : ¬ fl.length < F.size := by omega
          have hfin := HM.out
          rw [List.take_length, ← HFL.out, ← HBY.out] at hfin
          obtain ⟨v, q1, q2, q4, q5, q6⟩ := hfin
          obtain ⟨A', c', rfl, -, -, -⟩ := own_form q2
          have cb1 := q1.cell 0
          have K2 := Lib.hid q2
          have K5 := Lib.hid q5
          clear q1 q2 q4 q5
          go_wp2
          go_ret2
          exact ⟨_, _, rfl, K2.out, K5.out⟩
end Go.Proofs.Ytdodfpjejjjciaa
