/-
  record.Write: its closure by a contract of its own (what was written so far lies in a box), and the call's answer.
-/
import Derived.Test.YtdodfpjejjjciaaRecord
import Derived.Test.YtdodfpjejjjciaaNumPut
import Derived.Test.YtdodfpjejjjciaaConv
namespace Go.Proofs.Ytdodfpjejjjciaa
open Go.RowKit Bal
set_option maxHeartbeats 1000000
set_option maxRecDepth 100000
set_option linter.unusedVariables false
set_option linter.unusedSimpArgs false

/-- What the closure's two boxes hold: the bytes so far, and that nothing was wrong; and the record's own box. -/
def WSt (w0 : World) (g0 gb gf : Nat) (R : Array Value) (l : List UInt8) (w : World) : Prop :=
  ∃ v, Blk w gb 24 #[v] ∧ w.ownsRow w0.heap.size 5 1 v l.length (cb l) ∧ Blk w gf 25 #[.int .i64 0] ∧ Blk w g0 36 R ∧ Below w0.heap.size w0 w ∧ w0.heap.size ≤ gb ∧ w0.heap.size ≤ gf

theorem WSt.below {w0 w w' : World} {g0 gb gf : Nat} {R : Array Value} {l : List UInt8} (h : WSt w0 g0 gb gf R l w) (hb : Below w.heap.size w w') : WSt w0 g0 gb gf R l w' := by
  obtain ⟨v, h1, h2, h3, h4, h5, h6, h7⟩ := h
  exact ⟨v, h1.below hb h1.lt, own_kept h2 hb, h3.below hb h3.lt, h4.below hb h4.lt, h5.trans (hb.mono h5.size), h6, h7⟩

theorem WSt.add {w0 w w1 : World} {g0 gb gf : Nat} {R : Array Value} {l x : List UInt8} {v v' : Value} {m : Nat} (h1 : Blk w gb 24 #[v]) (h2 : w.ownsRow w0.heap.size 5 1 v l.length (cb l)) (h3 : Blk w gf 25 #[.int .i64 0])
    (h4 : Blk w g0 36 R) (h5 : Below w0.heap.size w0 w) (h6 : w0.heap.size ≤ gb) (h7 : w0.heap.size ≤ gf) (hx : x.length = m)
    (o : w1.ownsRow w0.heap.size 5 1 v' (l.length + m) (cb (l ++ x))) (hg : Grew w w1 v v') : WSt w0 g0 gb gf R (l ++ x) ((w1.setCell ⟨gb, 0, none⟩ v').setCell ⟨gf, 0, none⟩ (.int .i64 0)) := by
  have k1 := h1.grown hg.1 (Ne.symm (own_blk_ne h2 h1 (by decide)))
  have k3 := h3.grown hg.1 (Ne.symm (own_blk_ne h2 h3 (by decide)))
  have k4 := h4.grown hg.1 (Ne.symm (own_blk_ne h2 h4 (by decide)))
  have n13 : gf ≠ gb := k3.ne_ k1 (by decide)
  have n14 : g0 ≠ gb := k4.ne_ k1 (by decide)
  have n34 : g0 ≠ gf := k4.ne_ k3 (by decide)
  have q1 : Blk (w1.setCell ⟨gb, 0, none⟩ v') gb 24 #[v'] := by simpa using k1.set_ 0 v'
  have q3 : Blk (w1.setCell ⟨gb, 0, none⟩ v') gf 25 #[.int .i64 0] := k3.far n13 v'
  refine ⟨v', q1.far (Ne.symm n13) _, ?_, by simpa using q3.set_ 0 (.int .i64 0), (k4.far n14 v').far n34 _, ?_, h6, h7⟩
  · rw [List.length_append, hx]
    have o1 := ownsRow_setCell_other o (a := ⟨gb, 0, none⟩) (own_blk_ne o k1 (by decide)) v'
    exact ownsRow_setCell_other o1 (a := ⟨gf, 0, none⟩) (own_blk_ne o1 q3 (by decide)) _
  · have b1 : Below w0.heap.size w w1 := hg.below (Nat.le_trans h5.size (Nat.le_refl _)) fun k hk => (h2.lt k hk).1
    exact ((h5.trans b1).setCell h6 _).setCell h7 _

theorem radd_any (w0 : World) (g0 gb gf : Nat) (R : Array Value) (l x : List UInt8) (A : Option Addr) (m c : Nat) (w : World) (h : WSt w0 g0 gb gf R l w) (hx : Reads w w.heap.size 1 A m (cb x)) (hl : l.length + m ≤ 1000000) :
    Calls Try.prog 36 #[.slice A m c, .int .i64 0, .pointer (some ⟨gb, 0, none⟩), .pointer (some ⟨gf, 0, none⟩)] w fun e w' => e = .returned (.tuple #[]) ∧ WSt w0 g0 gb gf R (l ++ x) w' := by
  obtain ⟨v, h1, h2, h3, h4, h5, h6, h7⟩ := h
  have cb1 := h1.cell 0
  have ff := h3.cell 0
  have H1 := Lib.hid h1
  have H2 := Lib.hid h2
  have H3 := Lib.hid h3
  have H4 := Lib.hid h4
  have H5 := Lib.hid h5
  have HX := Lib.hid hx
  clear h1 h2 h3 h4 h5 hx
  go_enter Try.func36, Try.ntmps36
  go_wp2_with (at_builtin; refine app_bs rfl (.tmp 6) (.tmp 7) rfl w0.heap.size v l.length l rfl H2.out w.heap.size A m c x rfl HX.out ?d1 ?d2 ?_)
  case d1 => omega
  case d2 => exact H5.out.size
  intro v' w1 o hg
  obtain ⟨A', c', rfl, -, -, -⟩ := own_form o
  have k1 := H1.out.grown hg.1 (Ne.symm (own_blk_ne H2.out H1.out (by decide)))
  have k3 := H3.out.grown hg.1 (Ne.symm (own_blk_ne H2.out H3.out (by decide)))
  have n13 := k3.ne_ k1 (by decide)
  have c1 := k1.cell 0
  have f1 := k1.frozen 0
  have c3 := k3.cell 0
  have f3 := k3.frozen 0
  have O := Lib.hid o
  have HG := Lib.hid hg
  clear k1 k3 o hg cb1 ff
  have n31 := Ne.symm n13
  go_wp2
  go_end0
  exact ⟨rfl, WSt.add H1.out H2.out H3.out H4.out H5.out h6 h7 HX.out.len_b O.out HG.out⟩
theorem WSt.cells {w0 w : World} {g0 gb gf : Nat} {k g s b : Int} {v : ByteArray} {l : List UInt8} (h : WSt w0 g0 gb gf #[.int .u8 k, .int .i64 g, .int .i64 s, .int .i64 b, .string v] l w) :
    w.cell? ⟨g0, 0, none⟩ = some (.int .u8 k) ∧ w.cell? ⟨g0, 1, none⟩ = some (.int .i64 g) ∧ w.cell? ⟨g0, 2, none⟩ = some (.int .i64 s) ∧ w.cell? ⟨g0, 3, none⟩ = some (.int .i64 b) ∧ w.cell? ⟨g0, 4, none⟩ = some (.string v) := by
  obtain ⟨_, _, _, _, h4, _⟩ := h
  exact ⟨h4.cell 0, h4.cell 1, h4.cell 2, h4.cell 3, h4.cell 4⟩
/-- At the end: what the two boxes hold. -/
theorem WSt.fin {w0 w : World} {g0 gb gf : Nat} {R : Array Value} {l : List UInt8} (h : WSt w0 g0 gb gf R l w) : ∃ A n c t, w.cell? ⟨gb, 0, none⟩ = some (.slice A n c) ∧ w.cell? ⟨gf, 0, none⟩ = some (.int .i64 0) ∧
    (∀ q, (convert 24 9 (.slice A n c)).run Try.prog (w.drewN q) = .ok (.string t) (w.drewN q)) ∧ Below w0.heap.size w0 w ∧ t = S l := by
  obtain ⟨v, h1, h2, h3, h4, h5, _⟩ := h
  obtain ⟨A, c, rfl, hr, _, _⟩ := own_form h2
  exact ⟨A, _, c, _, h1.cell 0, h3.cell 0, fun q => run_conv Try.underlying24 Try.underlying5 Try.underlying9 (hr.drewN q), h5, rfl⟩

def recB (k g s b : Int) (v : ByteArray) : List UInt8 := Rp.bytesR ⟨k, g, s, b, v.data.toList⟩
theorem rE_ok {k g s b : Int} {n : Nat} (h : Rp.mayB k g s b n = true) : rE k g s b n = 0 := by simp [rE, h]
theorem rE_bad {k g s b : Int} {n : Nat} (h : Rp.mayB k g s b n = false) : rE k g s b n = 8 := by simp [rE, h]
theorem mayB_facts {k g s b : Int} {v : ByteArray} (h : Rp.mayB k g s b v.size = true) : (0 ≤ k ∧ k ≤ 3) ∧ (0 ≤ g ∧ g ≤ 4) ∧ (0 ≤ s ∧ s ≤ 200) ∧ (Rp.votes k = true → 0 ≤ b ∧ b ≤ 8388613) ∧ v.size ≤ 1024 ∧ (Rp.votes k = true ∨ Rp.value k = true) := by
  have hm : Rp.mayR ⟨k, g, s, b, v.data.toList⟩ = true := by simp only [Rp.mayR, size_data]; exact h
  obtain ⟨g0, g1, s0, s1, hv, hk⟩ := Rp.mayR_cases hm
  simp only at g0 g1 s0 s1 hv hk
  rw [size_data] at hv
  refine ⟨?_, by omega, by omega, fun _ => ?_, hv, ?_⟩
  · rcases hk with ⟨hk, _⟩ | ⟨hk, _⟩ | ⟨hk, _⟩ <;> omega
  · rcases hk with ⟨hk, _, _, _, _⟩ | ⟨hk, _, _, _⟩ | ⟨hk, _⟩ <;> omega
  · rcases hk with ⟨rfl, _⟩ | ⟨rfl, _⟩ | ⟨rfl, _⟩ <;> simp [Rp.votes, Rp.value]

theorem rwrite_bad (k g s b : Int) (v : ByteArray) (w : World) (hs : v.size ≤ 9223372036854775807) (b1 : -9223372036854775808 ≤ b) (b2 : b ≤ 9223372036854775807) (h : Rp.mayB k g s b v.size = false) :
    Calls Try.prog 16 #[.agg #[.int .u8 k, .int .i64 g, .int .i64 s, .int .i64 b, .string v]] w fun e w' => e = .returned (.tuple #[.string ⟨#[]⟩, .int .i64 8]) ∧ Below w.heap.size w w' := by
  have HE := Lib.hid (rE_bad h)
  clear h
  go_enter Try.func16, Try.ntmps16
  go_wp2_with fail
  refine (rcheck_any10 k g s b v _ hs b1 b2).mono ?_
  rw [HE.out]
  rintro e w1 ⟨rfl, hb⟩
  have HB := Lib.hid (below_of_alloc (hb.mono (B' := w.heap.size) (by simp)) (Nat.le_refl _))
  clear hb
  go_wp2
  go_ret2
  exact ⟨rfl, HB.out⟩

theorem rwrite_ok (k g s b : Int) (v : ByteArray) (w : World) (h : Rp.mayB k g s b v.size = true) :
    Calls Try.prog 16 #[.agg #[.int .u8 k, .int .i64 g, .int .i64 s, .int .i64 b, .string v]] w fun e w' => e = .returned (.tuple #[.string (S (recB k g s b v)), .int .i64 0]) ∧ Below w.heap.size w w' := by
  obtain ⟨⟨k0, k1⟩, ⟨g0, g1⟩, ⟨s0, s1⟩, hb0, hz, hor⟩ := mayB_facts h
  have HE := Lib.hid (rE_ok h)
  have HB0 := Lib.hid hb0
  have HOR := Lib.hid hor
  have HT : Hid (recB k g s b v = [] ++ Nm.enc k.toNat ++ Nm.enc g.toNat ++ Nm.enc s.toNat ++ (if Rp.votes k then Nm.enc b.toNat else []) ++ (if Rp.value k then Nm.txt v.data.toList else [])) := by simp [Hid, recB, Rp.bytesR]
  have hb12 : Rp.mayB k g s b v.size = true → -9223372036854775808 ≤ b ∧ b ≤ 9223372036854775807 := by
    intro h
    have hm : Rp.mayR ⟨k, g, s, b, v.data.toList⟩ = true := by simp only [Rp.mayR, size_data]; exact h
    have hk := (Rp.mayR_cases hm).2.2.2.2.2
    simp only at hk
    rcases hk with ⟨hk, _, _, _, _⟩ | ⟨hk, _, _, _⟩ | ⟨hk, _⟩ <;> omega
  have b1 := (hb12 h).1
  have b2 := (hb12 h).2
  clear h hb0 hor hb12
  obtain ⟨x1, hx1⟩ : ∃ x, Nm.enc k.toNat = x := ⟨_, rfl⟩
  obtain ⟨x2, hx2⟩ : ∃ x, Nm.enc g.toNat = x := ⟨_, rfl⟩
  obtain ⟨x3, hx3⟩ : ∃ x, Nm.enc s.toNat = x := ⟨_, rfl⟩
  have l1 := Nm.enc_len6 (n := k.toNat) (by omega)
  have l2 := Nm.enc_len6 (n := g.toNat) (by omega)
  have l3 := Nm.enc_len6 (n := s.toNat) (by omega)
  rw [hx1] at l1
  rw [hx2] at l2
  rw [hx3] at l3
  have HX1 := Lib.hid hx1
  have HX2 := Lib.hid hx2
  have HX3 := Lib.hid hx3
  clear hx1 hx2 hx3
  go_enter Try.func16, Try.ntmps16
  go_wp2_with fail
  refine (rcheck_any10 k g s b v _ (by omega) b1 b2).mono ?_
  rw [HE.out]
  rintro e w1 ⟨rfl, hb⟩
  have KR := Blk.below (Blk.new w 36 #[.int .u8 k, .int .i64 g, .int .i64 s, .int .i64 b, .string v]) hb (by simp)
  have hc0 := KR.cell 0
  have lt0 := KR.lt
  have HB := Lib.hid (below_of_alloc (hb.mono (B' := w.heap.size) (by simp)) (Nat.le_refl _))
  have HS : Hid (WSt w w.heap.size w1.heap.size (w1.heap.size + 1) #[.int .u8 k, .int .i64 g, .int .i64 s, .int .i64 b, .string v] [] ((w1.alloc (.cells #[.slice none 0 0] 24)).alloc (.cells #[.int .i64 0] 25))) :=
    ⟨.slice none 0 0, (Blk.new w1 _ _).alloc _, World.ownsRow_nil _ _ _ _, by have := Blk.new (w1.alloc (.cells #[.slice none 0 0] 24)) 25 #[.int .i64 0]; simpa using this, (KR.alloc _).alloc _, (HB.out.alloc HB.out.size _).alloc (by simp; have := HB.out.size; omega) _, HB.out.size, Nat.le_trans HB.out.size (Nat.le_succ _)⟩
  clear hb KR HB
  go_wp2_with fail
  refine (nput_is k x1 x1.length _ k0 (by omega) HX1.out rfl).mono ?_
  rintro e w2 ⟨A2, cc2, rfl, ho, hb⟩
  have HS := Lib.hid (HS.out.below hb)
  have HR := Lib.hid (Reads.of_own ho)
  clear ho hb
  go_wp2_with fail
  refine (radd_any w w.heap.size w1.heap.size (w1.heap.size + 1) _ ([]) x1 _ _ _ _ HS.out HR.out ?_).mono ?_
  · simp only [List.length_append, List.length_nil]; omega
  rintro e w3 ⟨rfl, hw⟩
  obtain ⟨d0, d1, d2, d3, d4⟩ := WSt.cells hw
  have HS := Lib.hid hw
  clear hw HR
  go_wp2_with fail
  refine (nput_is g x2 x2.length _ g0 (by omega) HX2.out rfl).mono ?_
  rintro e w4 ⟨A4, cc4, rfl, ho, hb⟩
  have HS := Lib.hid (HS.out.below hb)
  have HR := Lib.hid (Reads.of_own ho)
  clear ho hb
  go_wp2_with fail
  refine (radd_any w w.heap.size w1.heap.size (w1.heap.size + 1) _ ([] ++ x1) x2 _ _ _ _ HS.out HR.out ?_).mono ?_
  · simp only [List.length_append, List.length_nil]; omega
  rintro e w5 ⟨rfl, hw⟩
  obtain ⟨d0, d1, d2, d3, d4⟩ := WSt.cells hw
  have HS := Lib.hid hw
  clear hw HR
  go_wp2_with fail
  refine (nput_is s x3 x3.length _ s0 (by omega) HX3.out rfl).mono ?_
  rintro e w6 ⟨A6, cc6, rfl, ho, hb⟩
  have HS := Lib.hid (HS.out.below hb)
  have HR := Lib.hid (Reads.of_own ho)
  clear ho hb
  go_wp2_with fail
  refine (radd_any w w.heap.size w1.heap.size (w1.heap.size + 1) _ ([] ++ x1 ++ x2) x3 _ _ _ _ HS.out HR.out ?_).mono ?_
  · simp only [List.length_append, List.length_nil]; omega
  rintro e w7 ⟨rfl, hw⟩
  obtain ⟨d0, d1, d2, d3, d4⟩ := WSt.cells hw
  have HS := Lib.hid hw
  clear hw HR
  go_wp2_with fail
  refine (has_any k _).mono ?_
  rintro e w' ⟨rfl, rfl⟩
  cases hv : Rp.votes k with
  | true =>
    have hbb := HB0.out hv
    have b0 := hbb.1
    have b3 := hbb.2
    clear hbb
    obtain ⟨x4, hx4⟩ : ∃ x, Nm.enc b.toNat = x := ⟨_, rfl⟩
    have l4 := Nm.enc_len6 (n := b.toNat) (by omega)
    rw [hx4] at l4
    have HX4 := Lib.hid hx4
    clear hx4
    go_wp2_with fail
    refine (nput_is b x4 x4.length _ b0 (by omega) HX4.out rfl).mono ?_
    rintro e w8 ⟨A8, cc8, rfl, ho, hb⟩
    have HS := Lib.hid (HS.out.below hb)
    have HR := Lib.hid (Reads.of_own ho)
    clear ho hb
    go_wp2_with fail
    refine (radd_any w w.heap.size w1.heap.size (w1.heap.size + 1) _ ([] ++ x1 ++ x2 ++ x3) x4 _ _ _ _ HS.out HR.out ?_).mono ?_
    · simp only [List.length_append, List.length_nil]; omega
    rintro e w9 ⟨rfl, hw⟩
    obtain ⟨d0, d1, d2, d3, d4⟩ := WSt.cells hw
    have HS := Lib.hid hw
    clear hw HR
    cases hj : Rp.value k with
    | true =>
      obtain ⟨x5, hx5⟩ : ∃ x, Nm.txt v.data.toList = x := ⟨_, rfl⟩
      have l5 : x5.length ≤ 1030 := by rw [← hx5]; have h1 := Nm.enc_len6 (n := v.data.toList.length) (by rw [size_data]; omega); have h2 := size_data v; simp only [Nm.txt, List.length_append]; omega
      have HX5 := Lib.hid hx5
      clear hx5
      go_wp2_with fail
      refine (ntext_ok v x5 x5.length _ (by omega) HX5.out rfl).mono ?_
      rintro e w10 ⟨A10, cc10, rfl, ho, hb⟩
      have HS := Lib.hid (HS.out.below hb)
      have HR := Lib.hid (Reads.of_own ho)
      clear ho hb
      go_wp2_with fail
      refine (radd_any w w.heap.size w1.heap.size (w1.heap.size + 1) _ ([] ++ x1 ++ x2 ++ x3 ++ x4) x5 _ _ _ _ HS.out HR.out ?_).mono ?_
      · simp only [List.length_append, List.length_nil]; omega
      rintro e w11 ⟨rfl, hw⟩
      obtain ⟨d0, d1, d2, d3, d4⟩ := WSt.cells hw
      have HS := Lib.hid hw
      clear hw HR
      have HL : Hid (recB k g s b v = [] ++ x1 ++ x2 ++ x3 ++ x4 ++ x5) := by rw [Hid, HT.out, HX1.out, HX2.out, HX3.out]; simp [hv, hj, HX4.out, HX5.out]
      obtain ⟨Af, nf, cf, tf, e1, e2, e3, e4, e5⟩ := WSt.fin HS.out
      have HF := Lib.hid e4
      have HQ := Lib.hid e5
      clear e4 e5 d0 d1 d2 d3 d4
      go_wp2
      go_quiet (fail)
      go_wp2
      go_ret2
      rw [HL.out, ← HQ.out]
      exact ⟨rfl, below_drewN HF.out _⟩
    | false =>
      have HL : Hid (recB k g s b v = [] ++ x1 ++ x2 ++ x3 ++ x4) := by rw [Hid, HT.out, HX1.out, HX2.out, HX3.out]; simp [hv, hj, HX4.out]
      obtain ⟨Af, nf, cf, tf, e1, e2, e3, e4, e5⟩ := WSt.fin HS.out
      have HF := Lib.hid e4
      have HQ := Lib.hid e5
      clear e4 e5 d0 d1 d2 d3 d4
      go_wp2
      go_quiet (fail)
      go_wp2
      go_ret2
      rw [HL.out, ← HQ.out]
      exact ⟨rfl, below_drewN HF.out _⟩
  | false =>
    have hj : Rp.value k = true := HOR.out.resolve_left (by rw [hv]; decide)
    obtain ⟨x5, hx5⟩ : ∃ x, Nm.txt v.data.toList = x := ⟨_, rfl⟩
    have l5 : x5.length ≤ 1030 := by rw [← hx5]; have h1 := Nm.enc_len6 (n := v.data.toList.length) (by rw [size_data]; omega); have h2 := size_data v; simp only [Nm.txt, List.length_append]; omega
    have HX5 := Lib.hid hx5
    clear hx5
    go_wp2_with fail
    refine (ntext_ok v x5 x5.length _ (by omega) HX5.out rfl).mono ?_
    rintro e w8 ⟨A8, cc8, rfl, ho, hb⟩
    have HS := Lib.hid (HS.out.below hb)
    have HR := Lib.hid (Reads.of_own ho)
    clear ho hb
    go_wp2_with fail
    refine (radd_any w w.heap.size w1.heap.size (w1.heap.size + 1) _ ([] ++ x1 ++ x2 ++ x3) x5 _ _ _ _ HS.out HR.out ?_).mono ?_
    · simp only [List.length_append, List.length_nil]; omega
    rintro e w9 ⟨rfl, hw⟩
    obtain ⟨d0, d1, d2, d3, d4⟩ := WSt.cells hw
    have HS := Lib.hid hw
    clear hw HR
    have HL : Hid (recB k g s b v = [] ++ x1 ++ x2 ++ x3 ++ x5) := by rw [Hid, HT.out, HX1.out, HX2.out, HX3.out]; simp [hv, hj, HX5.out]
    obtain ⟨Af, nf, cf, tf, e1, e2, e3, e4, e5⟩ := WSt.fin HS.out
    have HF := Lib.hid e4
    have HQ := Lib.hid e5
    clear e4 e5 d0 d1 d2 d3 d4
    go_wp2
    go_quiet (fail)
    go_wp2
    go_ret2
    rw [HL.out, ← HQ.out]
    exact ⟨rfl, below_drewN HF.out _⟩
end Go.Proofs.Ytdodfpjejjjciaa
