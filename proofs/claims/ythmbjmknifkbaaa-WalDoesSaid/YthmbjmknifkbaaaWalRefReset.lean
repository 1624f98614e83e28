/-
  Layer 4: Reset of the reference.
-/
import Derived.Test.YthmbjmknifkbaaaWalPlain
import Derived.Test.YthmbjmknifkbaaaDiskDoes
import Derived.Test.YthmbjmknifkbaaaFrameRef
namespace Go.Proofs.Ythmbjmknifkbaaa
open Go.RowKit
set_option maxHeartbeats 16000000
set_option maxRecDepth 100000
set_option linter.unusedVariables false
set_option linter.unusedSimpArgs false

theorem rreset_any (D : HD) (A : Option Addr) (n c : Nat) (l : List (List UInt8)) (w : World) (R : Dp.Disk) (r : Int) (hr : Wa.reset D.disk l = (R, r)) (h : DiskAt w w.heap.size D) (hl : Reads w w.heap.size 1 A n (ct (l.map S))) (hn : n ≤ 65536) (hs : Sm D.disk) :
    Calls Try.prog 12 #[.agg #[.slice D.A D.n D.c, .slice D.WA D.Wn D.Wc], .slice A n c] w fun e w' => ∃ D', e = .returned (.tuple #[.agg #[.slice D'.A D'.n D'.c, .slice D'.WA D'.Wn D'.Wc], .int .i64 r]) ∧ OwnDisk w' w.heap.size D' ∧ D'.disk = R ∧ Below w.heap.size w w' := by
  have hz : w.heap.size + 1 < w.heap.size + 2 := by omega
  have HD0 := Lib.hid h
  have HL0 := Lib.hid hl
  have HR := Lib.hid hr
  have SM := Lib.hid hs
  have D1 := Lib.hid ((h.alloc (.cells #[.slice D.A D.n D.c, .slice D.WA D.Wn D.Wc] 25)).alloc (.cells #[.slice none 0 0, .slice none 0 0] 25))
  have C := Lib.hid (((Below.refl _ w).alloc (Nat.le_refl w.heap.size) (.cells #[.slice D.A D.n D.c, .slice D.WA D.Wn D.Wc] 25)).alloc (by simp) (.cells #[.slice none 0 0, .slice none 0 0] 25))
  have K1 := Lib.hid ((Blk.new w 25 #[.slice D.A D.n D.c, .slice D.WA D.Wn D.Wc]).alloc (.cells #[.slice none 0 0, .slice none 0 0] 25))
  have KR := Lib.hid (Blk.newAt (w := w.alloc (.cells #[.slice D.A D.n D.c, .slice D.WA D.Wn D.Wc] 25)) (g := w.heap.size + 1) (by simp) 25 #[.slice none 0 0, .slice none 0 0])
  clear h hr hl hs
  have y0 := K1.out.cell 0
  have y1 := K1.out.cell 1
  obtain ⟨b, hm⟩ : ∃ b, Dp.mayD D.disk = b := ⟨_, rfl⟩
  have HM := Lib.hid hm
  clear hm
  go_enter Try.func12, Try.ntmps12
  go_wp2_with fail
  refine (rmay_any D _ D1.out SM.out).mono ?_
  rintro e w1 ⟨rfl, hb⟩
  rw [HM.out]
  replace K1 := Lib.hid (K1.out.below hb K1.out.lt)
  replace KR := Lib.hid (KR.out.below hb KR.out.lt)
  replace C := Lib.hid (C.out.trans (hb.mono C.out.size))
  clear hb y0 y1 D1
  cases b with
  | false =>
    have hr := HR.out
    rw [Wa.reset, if_neg (by rw [HM.out]; simp)] at hr
    obtain ⟨rfl, rfl⟩ := Prod.mk.inj hr
    clear hr HR
    have z0 := KR.out.cell 0
    have z1 := KR.out.cell 1
    have fz0 := KR.out.frozen 0
    have fz1 := KR.out.frozen 1
    go_wp2
    exact bodyPost_ret (v := .tuple #[.agg #[.slice none 0 0, .slice none 0 0], .int .i64 30]) (by simp [results, Try.results12, go_sem, z0, z1]) rfl ⟨zeroHD, rfl, zeroHD_own _ _, rfl, (C.out.setCell (by simp) _).setCell (by simp) _⟩
  | true =>
    have hr := HR.out
    rw [Wa.reset, if_pos HM.out] at hr
    have HR2 := Lib.hid hr
    clear hr HR
    go_wp2_with fail
    refine (rjoin_any A n c l w1 ((HL0.out.below C.out).more C.out.size) hn).mono ?_
    rintro e w2 (⟨hj, A2, c2, rfl, ho, hb⟩ | ⟨hj, rfl, hb⟩)
    · have hjl := (joinOk_all hj).2
      have hr := HR2.out
      rw [if_pos hj] at hr
      obtain ⟨J, hJ⟩ : ∃ J, Nm.join l = J := ⟨_, rfl⟩
      rw [hJ] at ho hr hjl ⊢
      obtain ⟨q, hq⟩ : ∃ q, J.length = q := ⟨_, rfl⟩
      rw [hq] at ho hjl ⊢
      have HW := Lib.hid hr
      have PP := Lib.hid (show PutAt w2 w2.heap.size ⟨true, A2, q, c2, J⟩ from ⟨Reads.of_own ho, (own_cap ho).1, (own_cap ho).2, by show q ≤ _; omega⟩)
      replace K1 := Lib.hid (K1.out.below hb K1.out.lt)
      replace KR := Lib.hid (KR.out.below hb KR.out.lt)
      replace C := Lib.hid (C.out.trans (hb.mono C.out.size))
      clear hj hr HR2 hJ hq ho hb
      have y0 := K1.out.cell 0
      have y1 := K1.out.cell 1
      go_wp2_with fail
      refine (rwrite_is D true A2 q c2 J _ R r HW.out ((HD0.out.below C.out).more C.out.size) SM.out PP.out (by omega)).mono ?_
      rintro e w3 ⟨D3, rfl, hx, hex, hb⟩
      replace KR := Lib.hid (KR.out.below hb KR.out.lt)
      have O3 := Lib.hid (hx.mono (base' := w.heap.size) C.out.size)
      have E3 := Lib.hid hex
      replace C := Lib.hid (C.out.trans (hb.mono C.out.size))
      clear hx hex hb y0 y1 PP
      have z0 := KR.out.cell 0
      have z1 := KR.out.cell 1
      have fz0 := KR.out.frozen 0
      have fz1 := KR.out.frozen 1
      have hg : w.heap.size + 1 < w3.heap.size := KR.out.lt
      have hne : w.heap.size + 1 ≠ w3.heap.size := by omega
      have hne2 : w3.heap.size ≠ w.heap.size + 1 := by omega
      go_wp2
      have KE := Lib.hid (((KR.out.set_ 0 (.slice D3.A D3.n D3.c)).set_ 1 (.slice D3.WA D3.Wn D3.Wc)).alloc (.cells #[.slice D3.A D3.n D3.c, .slice D3.WA D3.Wn D3.Wc] 25))
      have x0 := KE.out.cell 0
      have x1 := KE.out.cell 1
      have CE := (C.out.setCell (p := ⟨w.heap.size + 1, 0, none⟩) (by simp) (.slice D3.A D3.n D3.c)).setCell (p := ⟨w.heap.size + 1, 1, none⟩) (by simp) (.slice D3.WA D3.Wn D3.Wc)
      exact bodyPost_ret (v := .tuple #[.agg #[.slice D3.A D3.n D3.c, .slice D3.WA D3.Wn D3.Wc], .int .i64 r]) (by simp [results, Try.results12, go_sem, x0, x1]) rfl ⟨D3, rfl, ((O3.out.set_ KR.out 0 _).set_ (KR.out.set_ 0 _) 1 _).alloc _, E3.out, below_alloc CE (.cells #[.slice D3.A D3.n D3.c, .slice D3.WA D3.Wn D3.Wc] 25)⟩
    · have hr := HR2.out
      rw [if_neg (by rw [hj]; simp)] at hr
      obtain ⟨rfl, rfl⟩ := Prod.mk.inj hr
      clear hr HR2 hj
      replace KR := Lib.hid (KR.out.below hb KR.out.lt)
      replace C := Lib.hid (C.out.trans (hb.mono C.out.size))
      clear hb
      have z0 := KR.out.cell 0
      have z1 := KR.out.cell 1
      have fz0 := KR.out.frozen 0
      have fz1 := KR.out.frozen 1
      go_wp2
      exact bodyPost_ret (v := .tuple #[.agg #[.slice none 0 0, .slice none 0 0], .int .i64 3]) (by simp [results, Try.results12, go_sem, z0, z1]) rfl ⟨zeroHD, rfl, zeroHD_own _ _, rfl, (C.out.setCell (by simp) _).setCell (by simp) _⟩
end Go.Proofs.Ythmbjmknifkbaaa
