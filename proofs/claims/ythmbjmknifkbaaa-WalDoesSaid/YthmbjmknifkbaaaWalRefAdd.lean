/-
  Layer 4: Add of the reference.
-/
import Derived.Test.YthmbjmknifkbaaaDiskDoes
import Derived.Test.YthmbjmknifkbaaaWalAdd
import Derived.Test.YthmbjmknifkbaaaWalLaw
import Derived.Test.YthmbjmknifkbaaaFrameRef
namespace Go.Proofs.Ythmbjmknifkbaaa
open Go.RowKit
set_option maxHeartbeats 16000000
set_option maxRecDepth 100000
set_option linter.unusedVariables false
set_option linter.unusedSimpArgs false

def RARel (w : World) (G : Nat) (n : Nat) (d : Dp.Disk) (l : List (List UInt8)) (y : Value) (wr : World) : Prop :=
  ∃ (k : Nat) (X : HD), y = .int .i64 (k : Int) ∧ k ≤ n ∧ Below w.heap.size w wr ∧ Blk wr G 25 #[.slice X.A X.n X.c, .slice X.WA X.Wn X.Wc] ∧ OwnDisk wr w.heap.size X ∧ Wa.adds d l = Wa.adds X.disk (l.drop k) ∧
    Blk wr (w.heap.size + 1) 25 #[.slice none 0 0, .slice none 0 0] ∧ Dp.mayD X.disk = true
theorem write_may2 {X R : Dp.Disk} {p : Dp.Put} (h : Dp.write X p = (R, 0)) : Dp.mayD R = true := by
  have := Dp.write_may X p
  rw [h] at this
  exact this

theorem radd_any (D : HD) (A : Option Addr) (n c : Nat) (l : List (List UInt8)) (w : World) (R : Dp.Disk) (r : Int) (hr : Wa.add D.disk l = (R, r)) (h : DiskAt w w.heap.size D) (hl : Reads w w.heap.size 1 A n (ct (l.map S))) (hn : n ≤ 1024) (hs : Sm D.disk) :
    Calls Try.prog 10 #[.agg #[.slice D.A D.n D.c, .slice D.WA D.Wn D.Wc], .slice A n c] w fun e w' => ∃ D', e = .returned (.tuple #[.agg #[.slice D'.A D'.n D'.c, .slice D'.WA D'.Wn D'.Wc], .int .i64 r]) ∧ OwnDisk w' w.heap.size D' ∧ D'.disk = R ∧ Below w.heap.size w w' := by
  have hz : w.heap.size + 1 < w.heap.size + 2 := by omega
  have hll : l.length = n := by have := hl.len_t; simpa using this
  have HD0 := Lib.hid h
  have HL0 := Lib.hid hl
  have HR := Lib.hid hr
  have HLL := Lib.hid hll
  have SM := Lib.hid hs
  have D1 := Lib.hid ((h.alloc (.cells #[.slice D.A D.n D.c, .slice D.WA D.Wn D.Wc] 25)).alloc (.cells #[.slice none 0 0, .slice none 0 0] 25))
  have C := Lib.hid (((Below.refl _ w).alloc (Nat.le_refl w.heap.size) (.cells #[.slice D.A D.n D.c, .slice D.WA D.Wn D.Wc] 25)).alloc (by simp) (.cells #[.slice none 0 0, .slice none 0 0] 25))
  have K1 := Lib.hid ((Blk.new w 25 #[.slice D.A D.n D.c, .slice D.WA D.Wn D.Wc]).alloc (.cells #[.slice none 0 0, .slice none 0 0] 25))
  have KR := Lib.hid (Blk.newAt (w := w.alloc (.cells #[.slice D.A D.n D.c, .slice D.WA D.Wn D.Wc] 25)) (g := w.heap.size + 1) (by simp) 25 #[.slice none 0 0, .slice none 0 0])
  clear h hr hl hll hs
  have y0 := K1.out.cell 0
  have y1 := K1.out.cell 1
  cases hm : Dp.mayD D.disk with
  | false =>
    have e0 : Dp.see D.disk = ([], 30) := by rw [Dp.see, if_neg (by rw [hm]; simp)]
    have hr := HR.out
    rw [Wa.add, if_neg (by rw [hm]; simp)] at hr
    obtain ⟨rfl, rfl⟩ := Prod.mk.inj hr
    have HS := Lib.hid e0
    clear hr e0 HR hm
    go_enter Try.func10, Try.ntmps10
    go_wp2_with fail
    refine (rsee_is D _ _ _ HS.out D1.out SM.out).mono ?_
    rintro e w2 ⟨A2, c2, m, rfl, hmm, ho, hb⟩
    replace KR := Lib.hid (KR.out.below hb KR.out.lt)
    replace C := Lib.hid (C.out.trans (hb.mono C.out.size))
    clear hmm ho hb y0 y1
    have z0 := KR.out.cell 0
    have z1 := KR.out.cell 1
    have fz0 := KR.out.frozen 0
    have fz1 := KR.out.frozen 1
    go_wp2
    exact bodyPost_ret (v := .tuple #[.agg #[.slice none 0 0, .slice none 0 0], .int .i64 30]) (by simp [results, Try.results10, go_sem, z0, z1]) rfl ⟨zeroHD, rfl, zeroHD_own _ _, rfl, (C.out.setCell (by simp) _).setCell (by simp) _⟩
  | true =>
    have e0 : Dp.see D.disk = (Dp.seen D.disk, 0) := by rw [Dp.see, if_pos hm]
    have HS := Lib.hid e0
    have HM := Lib.hid hm
    have hr := HR.out
    rw [Wa.add, if_pos hm] at hr
    have HR2 := Lib.hid hr
    have HSL := Lib.hid (Dp.seen_len hm)
    clear e0 hm hr HR
    go_enter Try.func10, Try.ntmps10
    go_wp2_with fail
    refine (rsee_is D _ _ _ HS.out D1.out SM.out).mono ?_
    rintro e w2 ⟨A2, c2, m, rfl, hmm, ho, hb⟩
    have hm20 : m ≤ 1048576 := by rw [← hmm]; exact HSL.out
    have hmc : m ≤ c2 := (own_cap ho).1
    have OB := Lib.hid ho
    have HMM := Lib.hid hmm
    have hw12 := C.out.size
    replace K1 := Lib.hid (K1.out.below hb K1.out.lt)
    replace KR := Lib.hid (KR.out.below hb KR.out.lt)
    replace C := Lib.hid (C.out.trans (hb.mono C.out.size))
    have hw2 : w.heap.size + 1 < w2.heap.size := KR.out.lt
    clear hmm ho hb y0 y1 D1
    have z1024 : ¬ (1024 : Int) < (n : Int) := by omega
    go_wp2
    -- the texts' lengths
    go_loopw [8] (fun y wr => ∃ k : Nat, y = .int .i64 (k : Int) ∧ k ≤ n ∧ (∀ t ∈ l.take k, t.length ≤ 4096) ∧ wr = w2) (fun y _ => n - (intOf y).toNat)
    case atStart => exact ⟨0, rfl, Nat.zero_le _, by simp, rfl⟩
    case round =>
      obtain ⟨k, rfl, hk, ha, rfl⟩ := hrel
      have HA := Lib.hid ha
      clear ha
      by_cases hlt : k < n
      · obtain ⟨ad, t, rfl, ht, hc, hbl⟩ := strs_at (HL0.out.below C.out) hlt
        have HT := Lib.hid ht
        have HC := Lib.hid hc
        clear ht hc
        have c0 := HC.out
        have sz : (S t).size = t.length := S_size t
        by_cases h4 : t.length ≤ 4096
        · have h4i : ¬ (4096 : Int) < (t.length : Int) := by omega
          go_wp2
          go_roundw
          case rel => exact ⟨k + 1, by go_num, by omega, mem_take_next HT.out HA.out h4, trivial⟩
          case measure => simp [intOf]; omega
        · have h4i : (4096 : Int) < (t.length : Int) := by omega
          have hr := HR2.out
          rw [all_false HT.out (by omega), if_neg (by simp)] at hr
          obtain ⟨rfl, rfl⟩ := Prod.mk.inj hr
          clear hr HR2
          have z0 := KR.out.cell 0
          have z1 := KR.out.cell 1
          have fz0 := KR.out.frozen 0
          have fz1 := KR.out.frozen 1
          go_wp2
          exact bodyPost_ret (v := .tuple #[.agg #[.slice none 0 0, .slice none 0 0], .int .i64 3]) (by simp [results, Try.results10, go_sem, z0, z1]) rfl ⟨zeroHD, rfl, zeroHD_own _ _, rfl, (C.out.setCell (by simp) _).setCell (by simp) _⟩
      · obtain rfl : k = n := by omega
        have hall : l.all (fun t => decide (t.length ≤ 4096)) = true := by
          rw [List.all_eq_true]
          intro t ht
          have e1 : l.take k = l := List.take_of_length_le (by rw [HLL.out]; exact Nat.le_refl _)
          exact decide_eq_true (HA.out t (by rw [e1]; exact ht))
        have hr := HR2.out
        rw [if_pos hall] at hr
        replace HR2 := Lib.hid hr
        have HA4 : Hid (∀ t ∈ l, t.length ≤ 4096) := by rw [Hid]; simpa using hall
        clear hr hall HA
        have kn : ¬ (k : Int) < (k : Int) := by omega
        go_wp2_with fail
        refine (all_any A2 m c2 (Dp.seen D.disk) wr (Reads.of_own OB.out) hmc hm20).mono ?_
        rintro e w6 ⟨A6, c6, rfl, -, hb⟩
        obtain ⟨Lz, z, hcut⟩ : ∃ Lz z, Nm.cut (Dp.seen D.disk) = (Lz, z) := ⟨_, _, rfl⟩
        simp only [hcut]
        have hr := HR2.out
        rw [hcut, HMM.out] at hr
        simp only at hr
        replace HR2 := Lib.hid hr
        replace K1 := Lib.hid (K1.out.below hb K1.out.lt)
        replace KR := Lib.hid (KR.out.below hb KR.out.lt)
        replace C := Lib.hid (C.out.trans (hb.mono C.out.size))
        have hw6 := hb.size
        clear hb hcut hr OB
        by_cases hq : z = m
        · have hq2 : (z : Int) = (m : Int) := by omega
          have dq : decide ((z : Int) = (m : Int)) = true := decide_eq_true hq2
          have hr := HR2.out
          rw [if_pos hq] at hr
          replace HR2 := Lib.hid hr
          clear hr hq
          have y0 := K1.out.cell 0
          have y1 := K1.out.cell 1
          go_wp2_with fail
          refine (rtwin_any D _ ((HD0.out.below C.out).more C.out.size) SM.out).mono ?_
          rintro e w7 ⟨D7, rfl, hx, hex, hb⟩
          replace KR := Lib.hid ((KR.out.below hb KR.out.lt).alloc (.cells #[.slice D7.A D7.n D7.c, .slice D7.WA D7.Wn D7.Wc] 25))
          have KX := Lib.hid (Blk.new w7 25 #[.slice D7.A D7.n D7.c, .slice D7.WA D7.Wn D7.Wc])
          have O7 := Lib.hid ((hx.mono (base' := w.heap.size) C.out.size).alloc (.cells #[.slice D7.A D7.n D7.c, .slice D7.WA D7.Wn D7.Wc] 25))
          have E7 := Lib.hid hex
          replace C := Lib.hid (below_alloc (C.out.trans (hb.mono C.out.size)) (.cells #[.slice D7.A D7.n D7.c, .slice D7.WA D7.Wn D7.Wc] 25))
          have hw7 := hb.size
          have hwg : w.heap.size + 1 < w7.heap.size := by omega
          clear hx hex hb y0 y1 K1
          go_wp2_with fail
          have hne : w.heap.size + 1 ≠ w7.heap.size := by omega
          have hne2 : w7.heap.size ≠ w.heap.size + 1 := by omega
          generalize w7.heap.size = G at *
          generalize w7.alloc (.cells #[.slice D7.A D7.n D7.c, .slice D7.WA D7.Wn D7.Wc] 25) = W8 at *
          go_wp2
          go_loopw [12] (fun y wr => RARel w G k D.disk l y wr) (fun y _ => k - (intOf y).toNat)
          case atStart => exact ⟨0, D7, rfl, Nat.zero_le _, C.out, KX.out, O7.out, by rw [E7.out, List.drop_zero], KR.out, by rw [E7.out]; exact HM.out⟩
          case round =>
            clear KR KX O7 E7
            obtain ⟨i, X, rfl, hi, hc, hk1, hx, he, hkr, hmx⟩ := hrel
            replace C := Lib.hid hc
            have K1 := Lib.hid hk1
            have KR := Lib.hid hkr
            have HX := Lib.hid hx
            have HE := Lib.hid he
            have HMX := Lib.hid hmx
            clear hc hk1 hx he hkr hmx
            by_cases hlt : i < k
            · obtain ⟨ad, t, rfl, ht, hcc, hbl⟩ := strs_at (HL0.out.below C.out) hlt
              have h4 := HA4.out t (List.mem_of_getElem? ht)
              obtain ⟨pd, hpt⟩ : ∃ pd, Nm.txt t = pd := ⟨_, rfl⟩
              obtain ⟨pn, hpn⟩ : ∃ pn, pd.length = pn := ⟨_, rfl⟩
              have hps : pn ≤ 5000 := by rw [← hpn, ← hpt]; exact txt_small h4
              obtain ⟨R1, r1, hW⟩ : ∃ R1 r1, Dp.write X.disk ⟨false, pd⟩ = (R1, r1) := ⟨_, _, rfl⟩
              have hE := HE.out
              rw [adds_next ht, hpt, hW] at hE
              simp only at hE
              have HE2 := Lib.hid hE
              have HW := Lib.hid hW
              have HPT := Lib.hid hpt
              have HPN := Lib.hid hpn
              have HC := Lib.hid hcc
              clear hpt hpn hW hE HE hcc ht
              have c0 := HC.out
              go_wp2_with fail
              refine (rframe_ok (S t) pd pn wr (by rw [S_size]; exact h4) HPT.out HPN.out).mono ?_
              rintro e w9 ⟨pA, pc, rfl, ho, hb⟩
              have PP : Hid (PutAt w9 w9.heap.size ⟨false, pA, pn, pc, pd⟩) := ⟨Reads.of_own ho, (own_cap ho).1, (own_cap ho).2, by show pn ≤ _; omega⟩
              replace K1 := Lib.hid (K1.out.below hb K1.out.lt)
              replace KR := Lib.hid (KR.out.below hb KR.out.lt)
              replace HX := Lib.hid (HX.out.below hb)
              replace C := Lib.hid (C.out.trans (hb.mono C.out.size))
              clear ho hb c0 HC HPT HPN
              have q0 := K1.out.cell 0
              have q1 := K1.out.cell 1
              go_wp2_with fail
              refine (rwrite_is X false pA pn pc pd _ R1 r1 HW.out HX.out.at_ (sm_may HMX.out) PP.out (by omega)).mono ?_
              rintro e w9 ⟨D9, rfl, hx, hex, hb⟩
              clear q0 q1
              replace K1 := Lib.hid (K1.out.below hb K1.out.lt)
              replace KR := Lib.hid (KR.out.below hb KR.out.lt)
              have O9 := Lib.hid (hx.mono (base' := w.heap.size) C.out.size)
              have E9 := Lib.hid hex
              replace C := Lib.hid (C.out.trans (hb.mono C.out.size))
              have hG9 : G < w9.heap.size := K1.out.lt
              have hG9a : G ≠ w9.heap.size := by omega
              have hG9b : w9.heap.size ≠ G := by omega
              have hwG : w.heap.size ≤ G := by omega
              clear hx hex hb PP HX
              have q0 := K1.out.cell 0
              have q1 := K1.out.cell 1
              have fq0 := K1.out.frozen 0
              have fq1 := K1.out.frozen 1
              by_cases h0 : r1 = 0
              · subst h0
                have hE := HE2.out
                rw [if_pos rfl] at hE
                have HE3 := Lib.hid hE
                clear hE HE2
                go_wp2
                go_roundw
                case rel =>
                  have C2 := (C.out.setCell (p := ⟨G, 0, none⟩) hwG (.slice D9.A D9.n D9.c)).setCell (p := ⟨G, 1, none⟩) hwG (.slice D9.WA D9.Wn D9.Wc)
                  exact ⟨i + 1, D9, by go_num, by omega, below_alloc C2 (.cells #[.slice D9.A D9.n D9.c, .slice D9.WA D9.Wn D9.Wc] 25), ((K1.out.set_ 0 (.slice D9.A D9.n D9.c)).set_ 1 (.slice D9.WA D9.Wn D9.Wc)).alloc (.cells #[.slice D9.A D9.n D9.c, .slice D9.WA D9.Wn D9.Wc] 25), ((O9.out.set_ K1.out 0 _).set_ (K1.out.set_ 0 _) 1 _).alloc _, by rw [E9.out]; exact HE3.out, ((KR.out.far (p := ⟨G, 0, none⟩) hne (.slice D9.A D9.n D9.c)).far (p := ⟨G, 1, none⟩) hne (.slice D9.WA D9.Wn D9.Wc)).alloc (.cells #[.slice D9.A D9.n D9.c, .slice D9.WA D9.Wn D9.Wc] 25), by rw [E9.out]; exact write_may2 HW.out⟩
                case measure => simp [intOf]; omega
              · have hd0 : decide (r1 = 0) = false := decide_eq_false h0
                have hE := HE2.out
                rw [if_neg h0, HR2.out] at hE
                obtain ⟨rfl, rfl⟩ := Prod.mk.inj hE
                clear hE HE2 HR2
                have hw9c : w.heap.size + 1 < w9.heap.size := by omega
                have hw9 : w.heap.size + 1 ≠ w9.heap.size := by omega
                have hw9b : w9.heap.size ≠ w.heap.size + 1 := by omega
                have z0 := KR.out.cell 0
                have z1 := KR.out.cell 1
                have fz0 := KR.out.frozen 0
                have fz1 := KR.out.frozen 1
                go_wp2
                have KE := Lib.hid (((KR.out.set_ 0 (.slice none 0 0)).set_ 1 (.slice none 0 0)).alloc (.cells #[.slice D9.A D9.n D9.c, .slice D9.WA D9.Wn D9.Wc] 25))
                have x0 := KE.out.cell 0
                have x1 := KE.out.cell 1
                have CE := (C.out.setCell (p := ⟨w.heap.size + 1, 0, none⟩) (by simp) (.slice none 0 0)).setCell (p := ⟨w.heap.size + 1, 1, none⟩) (by simp) (.slice none 0 0)
                exact bodyPost_ret (v := .tuple #[.agg #[.slice none 0 0, .slice none 0 0], .int .i64 r]) (by simp [results, Try.results10, go_sem, x0, x1]) rfl ⟨zeroHD, rfl, zeroHD_own _ _, rfl, below_alloc CE (.cells #[.slice D9.A D9.n D9.c, .slice D9.WA D9.Wn D9.Wc] 25)⟩
            · obtain rfl : i = k := by omega
              have hE := HE.out
              rw [List.drop_of_length_le (by rw [HLL.out]; exact Nat.le_refl _), HR2.out] at hE
              obtain ⟨rfl, rfl⟩ := Prod.mk.inj hE
              clear hE HE HR2
              have q0 := K1.out.cell 0
              have q1 := K1.out.cell 1
              have z0 := KR.out.cell 0
              have z1 := KR.out.cell 1
              have fz0 := KR.out.frozen 0
              have fz1 := KR.out.frozen 1
              go_wp2
              exact bodyPost_ret (v := .tuple #[.agg #[.slice X.A X.n X.c, .slice X.WA X.Wn X.Wc], .int .i64 0]) (by simp [results, Try.results10, go_sem, z0, z1]) rfl ⟨X, rfl, (HX.out.set_ KR.out 0 _).set_ (KR.out.set_ 0 _) 1 _, rfl, (C.out.setCell (by simp) _).setCell (by simp) _⟩
        · have hq2 : ¬ (z : Int) = (m : Int) := by omega
          have dq : decide ((z : Int) = (m : Int)) = false := decide_eq_false hq2
          have hr := HR2.out
          rw [if_neg hq] at hr
          obtain ⟨rfl, rfl⟩ := Prod.mk.inj hr
          clear hr HR2
          have z0 := KR.out.cell 0
          have z1 := KR.out.cell 1
          have fz0 := KR.out.frozen 0
          have fz1 := KR.out.frozen 1
          go_wp2
          exact bodyPost_ret (v := .tuple #[.agg #[.slice none 0 0, .slice none 0 0], .int .i64 8]) (by simp [results, Try.results10, go_sem, z0, z1]) rfl ⟨zeroHD, rfl, zeroHD_own _ _, rfl, (C.out.setCell (by simp) _).setCell (by simp) _⟩
end Go.Proofs.Ythmbjmknifkbaaa
