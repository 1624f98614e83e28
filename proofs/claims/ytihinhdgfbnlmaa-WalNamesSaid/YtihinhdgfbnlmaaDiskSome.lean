/-
  The statements of layer 3: the chapter's disk (some), alive.
-/
import Derived.Test.YtihinhdgfbnlmaaDiskE
import Derived.Test.YtihinhdgfbnlmaaDiskRefE
namespace Go.Proofs.Ytihinhdgfbnlmaa
open Go.RowKit
set_option maxHeartbeats 4000000
set_option maxRecDepth 100000
set_option linter.unusedVariables false
set_option linter.unusedSimpArgs false

theorem reads_blk {w : World} {g n : Nat} {cs : Array Value} {l : List UInt8} (h : Blk w g 5 cs) (hc : cs.toList = cb l) (hn : l.length = n) : Reads w w.heap.size 1 (some ⟨g, 0, none⟩) n (cb l) := by
  refine row_reads (by rw [cb_length, hn]) ?_
  intro i u hu
  have hadd : (⟨g, 0, none⟩ : Addr).add i = ⟨g, i, none⟩ := by unfold Addr.add; split <;> simp_all
  rw [hadd, Blk.cell h i, ← Array.getElem?_toList, hc]
  exact hu
/-- Bytes in a block, as a disk that waits for nothing. -/
theorem blk_disk {w : World} {g n : Nat} {cs : Array Value} {l : List UInt8} (h : Blk w g 5 cs) (hc : cs.toList = cb l) (hn : l.length = n) (hl : n ≤ 1000000000) : DiskAt w w.heap.size ⟨some ⟨g, 0, none⟩, n, n, l, none, 0, 0, []⟩ :=
  ⟨reads_blk h hc hn, Reads.none_, Nat.le_refl _, by show n ≤ maxLen; unfold maxLen; omega, Nat.le_refl _, Nat.zero_le _, by show n ≤ _; omega, Nat.zero_le _, by simp⟩
theorem blk_put {w : World} {g n : Nat} {cs : Array Value} {l : List UInt8} (sw : Bool) (h : Blk w g 5 cs) (hc : cs.toList = cb l) (hn : l.length = n) (hl : n ≤ 1000000000) : PutAt w w.heap.size ⟨sw, some ⟨g, 0, none⟩, n, n, l⟩ :=
  ⟨reads_blk h hc hn, Nat.le_refl _, by show n ≤ maxLen; unfold maxLen; omega, by show n ≤ _; omega⟩

/-! ### one form per call, the plain answer under a name -/
theorem append_is (D : HD) (A : Option Addr) (n c : Nat) (d : List UInt8) (w : World) (R : Dp.Disk) (r : Int) (hr : Dp.write D.disk ⟨false, d⟩ = (R, r)) (h : DiskAt w w.heap.size D) (hp' : PutAt w w.heap.size ⟨false, A, n, c, d⟩) :
    Calls Try.prog 15 #[.agg #[.slice D.A D.n D.c, .slice D.WA D.Wn D.Wc], .slice A n c] w fun e w' => ∃ D', e = .returned (.tuple #[.agg #[.slice D'.A D'.n D'.c, .slice D'.WA D'.Wn D'.Wc], .int .i64 r]) ∧ OwnDisk w' w.heap.size D' ∧ D'.disk = R ∧ Below w.heap.size w w' := by
  have := append_any D A n c d w h hp'
  rw [hr] at this
  exact this
theorem swap_is (D : HD) (A : Option Addr) (n c : Nat) (d : List UInt8) (w : World) (R : Dp.Disk) (r : Int) (hr : Dp.write D.disk ⟨true, d⟩ = (R, r)) (h : DiskAt w w.heap.size D) (hp' : PutAt w w.heap.size ⟨true, A, n, c, d⟩) :
    Calls Try.prog 16 #[.agg #[.slice D.A D.n D.c, .slice D.WA D.Wn D.Wc], .slice A n c] w fun e w' => ∃ D', e = .returned (.tuple #[.agg #[.slice D'.A D'.n D'.c, .slice D'.WA D'.Wn D'.Wc], .int .i64 r]) ∧ OwnDisk w' w.heap.size D' ∧ D'.disk = R ∧ Below w.heap.size w w' := by
  have := swap_any D A n c d w h hp'
  rw [hr] at this
  exact this
theorem see_is (D : HD) (w : World) (R : List UInt8) (r : Int) (hr : Dp.see D.disk = (R, r)) (h : DiskAt w w.heap.size D) :
    Calls Try.prog 13 #[.agg #[.slice D.A D.n D.c, .slice D.WA D.Wn D.Wc]] w fun e w' => ∃ A2 c2 m, e = .returned (.tuple #[.slice A2 m c2, .int .i64 r]) ∧ R.length = m ∧ w'.ownsRow w.heap.size 5 1 (.slice A2 m c2) m (cb R) ∧ Below w.heap.size w w' := by
  have := see_any D w h
  rw [hr] at this
  exact this
theorem sync_is (D : HD) (w : World) (R : Dp.Disk) (r : Int) (hr : Dp.sync D.disk = (R, r)) (h : DiskAt w w.heap.size D) :
    Calls Try.prog 17 #[.agg #[.slice D.A D.n D.c, .slice D.WA D.Wn D.Wc]] w fun e w' => ∃ D', e = .returned (.tuple #[.agg #[.slice D'.A D'.n D'.c, .slice D'.WA D'.Wn D'.Wc], .int .i64 r]) ∧ OwnDisk w' w.heap.size D' ∧ D'.disk = R ∧ Below w.heap.size w w' := by
  have := sync_any D w h
  rw [hr] at this
  exact this
theorem crash_is (D : HD) (keep many : Int) (w : World) (R : Dp.Disk) (r : Int) (hr : Dp.crash D.disk keep many = (R, r)) (h : DiskAt w w.heap.size D) (hmb : many ≤ 9223372036854775807) :
    Calls Try.prog 19 #[.agg #[.slice D.A D.n D.c, .slice D.WA D.Wn D.Wc], .int .i64 keep, .int .i64 many] w fun e w' => ∃ D', e = .returned (.tuple #[.agg #[.slice D'.A D'.n D'.c, .slice D'.WA D'.Wn D'.Wc], .int .i64 r]) ∧ OwnDisk w' w.heap.size D' ∧ D'.disk = R ∧ Below w.heap.size w w' := by
  have := crash_any D keep many w h hmb
  rw [hr] at this
  exact this
theorem check_is (D : HD) (w : World) (r : Int) (hr : eD (Dp.mayD D.disk) = r) (h : DiskAt w w.heap.size D) :
    Calls Try.prog 20 #[.agg #[.slice D.A D.n D.c, .slice D.WA D.Wn D.Wc]] w fun e w' => e = .returned (.int .i64 r) ∧ Below w.heap.size w w' := by
  subst hr
  exact check_any D w _ rfl h
theorem OwnDisk.alloc {w : World} {base : Nat} {D : HD} (h : OwnDisk w base D) (o : Obj) : OwnDisk (w.alloc o) base D := h.below ((Below.refl _ w).alloc (Nat.le_refl _) o)

def someD : Dp.Disk := ⟨[1, 2], [⟨false, [3, 4]⟩, ⟨true, [9]⟩, ⟨false, [8]⟩]⟩
theorem some_any (w : World) :
    Calls Try.prog 18 #[] w fun e w' => ∃ D, e = .returned (.tuple #[.agg #[.slice D.A D.n D.c, .slice D.WA D.Wn D.Wc], .bool true]) ∧ OwnDisk w' w.heap.size D ∧ D.disk = someD ∧ Below w.heap.size w w' := by
  have hz : w.heap.size < w.heap.size + 1 := by omega
  have B0 := Lib.hid ((((Below.refl _ w).alloc (Nat.le_refl w.heap.size) (.cells #[.slice none 0 0, .slice none 0 0] 25)).alloc (by simp) (.cells #[.int .u8 1, .int .u8 2] 5)).alloc (by simp; omega) (.cells #[.int .u8 3, .int .u8 4] 5))
  have KR0 := Lib.hid (((Blk.new w 25 #[.slice none 0 0, .slice none 0 0]).alloc (.cells #[.int .u8 1, .int .u8 2] 5)).alloc (.cells #[.int .u8 3, .int .u8 4] 5))
  have Ka := Lib.hid ((Blk.newAt (w := w.alloc (.cells #[.slice none 0 0, .slice none 0 0] 25)) (g := w.heap.size + 1) (by simp) 5 #[.int .u8 1, .int .u8 2]).alloc (.cells #[.int .u8 3, .int .u8 4] 5))
  have Kb := Lib.hid (Blk.newAt (w := (w.alloc (.cells #[.slice none 0 0, .slice none 0 0] 25)).alloc (.cells #[.int .u8 1, .int .u8 2] 5)) (g := w.heap.size + 2) (by simp) 5 #[.int .u8 3, .int .u8 4])
  go_enter Try.func18, Try.ntmps18
  go_wp2_with fail
  refine (append_is ⟨some ⟨w.heap.size + 1, 0, none⟩, 2, 2, [1, 2], none, 0, 0, []⟩ (some ⟨w.heap.size + 2, 0, none⟩) 2 2 [3, 4] _ ⟨[1, 2], [⟨false, [3, 4]⟩]⟩ 0 rfl (blk_disk Ka.out rfl rfl (by decide)) (blk_put false Kb.out rfl rfl (by decide))).mono ?_
  rintro e w1 ⟨D1, rfl, h1, he, hb⟩
  have KR1 := Lib.hid ((((KR0.out.below hb KR0.out.lt).alloc (.cells #[.slice D1.A D1.n D1.c, .slice D1.WA D1.Wn D1.Wc] 25)).alloc (.cells #[.int .u8 9] 5)))
  have K1 := Lib.hid ((Blk.new w1 25 #[.slice D1.A D1.n D1.c, .slice D1.WA D1.Wn D1.Wc]).alloc (.cells #[.int .u8 9] 5))
  have O1 := Lib.hid (((h1.mono (base' := w.heap.size) (by simp; omega)).alloc (.cells #[.slice D1.A D1.n D1.c, .slice D1.WA D1.Wn D1.Wc] 25)).alloc (.cells #[.int .u8 9] 5))
  have Kn := Lib.hid (Blk.newAt (w := w1.alloc (.cells #[.slice D1.A D1.n D1.c, .slice D1.WA D1.Wn D1.Wc] 25)) (g := w1.heap.size + 1) (by simp) 5 #[.int .u8 9])
  have B1 := Lib.hid (((B0.out.trans (hb.mono B0.out.size)).alloc (Nat.le_trans B0.out.size hb.size) (.cells #[.slice D1.A D1.n D1.c, .slice D1.WA D1.Wn D1.Wc] 25)).alloc (by have := Nat.le_trans B0.out.size hb.size; simp; omega) (.cells #[.int .u8 9] 5))
  have HE1 := Lib.hid he
  have hsz1 : w.heap.size + 2 < w1.heap.size := by have := Ka.out.lt; have := Kb.out.lt; have := hb.size; omega
  clear h1 he hb KR0 Ka Kb B0
  go_wp2_with fail
  refine (swap_is D1 (some ⟨w1.heap.size + 1, 0, none⟩) 1 1 [9] _ ⟨[1, 2], [⟨false, [3, 4]⟩, ⟨true, [9]⟩]⟩ 0 (by rw [HE1.out]; rfl) O1.out.at_ (blk_put true Kn.out rfl rfl (by decide))).mono ?_
  rintro e w2 ⟨D2, rfl, h2, he, hb⟩
  have KR2 := Lib.hid (KR1.out.below hb KR1.out.lt)
  have K2 := Lib.hid (K1.out.below hb K1.out.lt)
  have O2 := Lib.hid (h2.mono (base' := w.heap.size) B1.out.size)
  have B2 := Lib.hid (B1.out.trans (hb.mono B1.out.size))
  have HE2 := Lib.hid he
  clear h2 he hb KR1 K1 O1 Kn B1 HE1
  have KR3 := Lib.hid (((KR2.out.far (p := ⟨w1.heap.size, 0, none⟩) (by show w.heap.size ≠ w1.heap.size; omega) (.slice D2.A D2.n D2.c)).far (p := ⟨w1.heap.size, 1, none⟩) (by show w.heap.size ≠ w1.heap.size; omega) (.slice D2.WA D2.Wn D2.Wc)).alloc (.cells #[.int .u8 8] 5))
  have K3 := Lib.hid (((K2.out.set_ 0 (.slice D2.A D2.n D2.c)).set_ 1 (.slice D2.WA D2.Wn D2.Wc)).alloc (.cells #[.int .u8 8] 5))
  have O3 := Lib.hid (((O2.out.set_ K2.out 0 (.slice D2.A D2.n D2.c)).set_ (K2.out.set_ 0 (.slice D2.A D2.n D2.c)) 1 (.slice D2.WA D2.Wn D2.Wc)).alloc (.cells #[.int .u8 8] 5))
  have B3 := Lib.hid (((B2.out.setCell (p := ⟨w1.heap.size, 0, none⟩) (by show w.heap.size ≤ w1.heap.size; omega) (.slice D2.A D2.n D2.c)).setCell (p := ⟨w1.heap.size, 1, none⟩) (by show w.heap.size ≤ w1.heap.size; omega) (.slice D2.WA D2.Wn D2.Wc)).alloc (by have := B2.out.size; simp; exact this) (.cells #[.int .u8 8] 5))
  have Kn := Lib.hid (Blk.newAt (w := (w2.setCell ⟨w1.heap.size, 0, none⟩ (.slice D2.A D2.n D2.c)).setCell ⟨w1.heap.size, 1, none⟩ (.slice D2.WA D2.Wn D2.Wc)) (g := w2.heap.size) (by simp) 5 #[.int .u8 8])
  have q0 := K2.out.cell 0
  have q1 := K2.out.cell 1
  have fq0 := K2.out.frozen 0
  have fq1 := K2.out.frozen 1
  go_wp2_with fail
  refine (append_is D2 (some ⟨w2.heap.size, 0, none⟩) 1 1 [8] _ someD 0 (by rw [HE2.out]; rfl) O3.out.at_ (blk_put false Kn.out rfl rfl (by decide))).mono ?_
  rintro e w3 ⟨D3, rfl, h3, he, hb⟩
  have KR4 := Lib.hid (KR3.out.below hb KR3.out.lt)
  have K4 := Lib.hid (K3.out.below hb K3.out.lt)
  have O4 := Lib.hid (h3.mono (base' := w.heap.size) B3.out.size)
  have B4 := Lib.hid (B3.out.trans (hb.mono B3.out.size))
  have HE4 := Lib.hid he
  clear h3 he hb KR3 K3 O3 Kn B3 HE2 q0 q1 fq0 fq1 KR2 K2 O2 B2
  have q0 := K4.out.cell 0
  have q1 := K4.out.cell 1
  have fq0 := K4.out.frozen 0
  have fq1 := K4.out.frozen 1
  have z0 := KR4.out.cell 0
  have z1 := KR4.out.cell 1
  have fz0 := KR4.out.frozen 0
  have fz1 := KR4.out.frozen 1
  have hne : w.heap.size ≠ w1.heap.size := by omega
  have hne2 : w1.heap.size ≠ w.heap.size := by omega
  go_wp2
  have KR5 := Lib.hid ((KR4.out.far (p := ⟨w1.heap.size, 0, none⟩) (by show w.heap.size ≠ w1.heap.size; omega) (.slice D3.A D3.n D3.c)).far (p := ⟨w1.heap.size, 1, none⟩) (by show w.heap.size ≠ w1.heap.size; omega) (.slice D3.WA D3.Wn D3.Wc))
  have O5 := Lib.hid ((O4.out.set_ K4.out 0 (.slice D3.A D3.n D3.c)).set_ (K4.out.set_ 0 (.slice D3.A D3.n D3.c)) 1 (.slice D3.WA D3.Wn D3.Wc))
  have B5 := Lib.hid ((B4.out.setCell (p := ⟨w1.heap.size, 0, none⟩) (by show w.heap.size ≤ w1.heap.size; omega) (.slice D3.A D3.n D3.c)).setCell (p := ⟨w1.heap.size, 1, none⟩) (by show w.heap.size ≤ w1.heap.size; omega) (.slice D3.WA D3.Wn D3.Wc))
  exact bodyPost_ret (v := .tuple #[.agg #[.slice D3.A D3.n D3.c, .slice D3.WA D3.Wn D3.Wc], .bool true]) (by simp [results, Try.results18, go_sem, z0, z1, hne, hne2]) rfl ⟨D3, rfl, (O5.out.set_ KR5.out 0 _).set_ (KR5.out.set_ 0 _) 1 _, HE4.out, (B5.out.setCell (by simp) _).setCell (by simp) _⟩

theorem alive03_any (w : World) : Calls Try.prog 12 #[] w fun e w' => e = .returned (.bool true) ∧ Below w.heap.size w w' := by
  go_enter Try.func12, Try.ntmps12
  go_wp2_with fail
  refine (some_any w).mono ?_
  rintro e w1 ⟨D, rfl, h, he, hb⟩
  have HD1 := Lib.hid (h.at_.alloc (.cells #[.slice D.A D.n D.c, .slice D.WA D.Wn D.Wc] 25))
  have K1 := Lib.hid (Blk.new w1 25 #[.slice D.A D.n D.c, .slice D.WA D.Wn D.Wc])
  have B1 := Lib.hid (hb.alloc hb.size (.cells #[.slice D.A D.n D.c, .slice D.WA D.Wn D.Wc] 25))
  have HE := Lib.hid he
  have HN : Hid (D.Wn = 3) := by
    have h1 := h.at_.len_l
    have h2 := congrArg (fun x : Dp.Disk => x.wait.length) he
    simp only [HD.disk, List.length_map, someD, List.length_cons, List.length_nil] at h2
    rw [Hid]
    omega
  clear h he hb
  go_wp2_with fail
  refine (see_is D _ [9, 8] 0 (by rw [HE.out]; rfl) HD1.out).mono ?_
  rintro e w2 ⟨A2, c2, m, rfl, hm, ho, hb⟩
  obtain rfl : m = 2 := hm.symm
  have K2 := Lib.hid (K1.out.below hb K1.out.lt)
  have B2 := Lib.hid (B1.out.trans (hb.mono B1.out.size))
  have v1 := conv_b (c := c2) (Reads.of_own ho)
  clear hb ho K1 B1 HD1 hm
  have y1 := K2.out.cell 1
  rw [HN.out] at y1
  go_wp2
  go_ret
  exact ⟨rfl, B2.out⟩
end Go.Proofs.Ytihinhdgfbnlmaa
