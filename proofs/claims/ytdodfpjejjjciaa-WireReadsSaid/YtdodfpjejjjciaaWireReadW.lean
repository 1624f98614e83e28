/-
  wire.Read: the call's answer.
-/
import Derived.Test.YtdodfpjejjjciaaWireRead
import Derived.Test.YtdodfpjejjjciaaWireWriteW
namespace Go.Proofs.Ytdodfpjejjjciaa
open Go.RowKit Bal Go.Sort Go.BigFrame
set_option maxHeartbeats 16000000
set_option maxRecDepth 100000
set_option linter.unusedVariables false
set_option linter.unusedSimpArgs false

def zM : Wp.Mail := Wp.zeroM 0 0 0 0
def mailV (o : Option Wp.Mail) : Value := match o with
  | some m => .tuple #[.agg (mA m), .int .i64 0]
  | none => .tuple #[.agg (mA zM), .int .i64 8]
/-- What lies there between two readings. -/
def RdM (w0 : World) (gb gk go : Nat) (l : List UInt8) (bad : Bool) (w : World) : Prop :=
  ∃ (A : Option Addr) (n c : Nat), Blk w gb 24 #[.slice A n c] ∧ Blk w gk 4 #[.bool !bad] ∧ Blk w go 23 (mA zM) ∧ Reads w w0.heap.size 1 A n (cb l) ∧ n ≤ c ∧ c ≤ 9223372036854775807 ∧ n ≤ 4096 ∧ Below w0.heap.size w0 w ∧ w0.heap.size ≤ gb ∧ w0.heap.size ≤ gk
theorem RdM.below {w0 w w' : World} {gb gk go : Nat} {l : List UInt8} {bad : Bool} (h : RdM w0 gb gk go l bad w) (hb : Below w.heap.size w w') : RdM w0 gb gk go l bad w' := by
  obtain ⟨A, n, c, h1, h2, h3, h4, h5, h6, h7, h8, h9, h10⟩ := h
  exact ⟨A, n, c, h1.below hb h1.lt, h2.below hb h2.lt, h3.below hb h3.lt, h4.below (hb.mono h8.size), h5, h6, h7, h8.trans (hb.mono h8.size), h9, h10⟩
theorem RdM.far {w0 w : World} {gb gk go : Nat} {l : List UInt8} {bad : Bool} (h : RdM w0 gb gk go l bad w) {p : Addr} (h1 : gb ≠ p.block) (h2 : gk ≠ p.block) (h3 : go ≠ p.block) (h4 : w0.heap.size ≤ p.block) (u : Value) : RdM w0 gb gk go l bad (w.setCell p u) := by
  obtain ⟨A, n, c, q1, q2, q3, q4, q5, q6, q7, q8, q9, q10⟩ := h
  exact ⟨A, n, c, q1.far h1 u, q2.far h2 u, q3.far h3 u, q4.setCell h4 u, q5, q6, q7, q8.setCell h4 u, q9, q10⟩
theorem RdM.get {w0 w : World} {gb gk go : Nat} {l l' : List UInt8} {m : Nat} {bad bad' : Bool} (h : RdM w0 gb gk go l bad w) (hx : Rp.next (l, bad) = (m, (l', bad'))) :
    Calls Try.prog 47 #[.pointer (some ⟨gb, 0, none⟩), .pointer (some ⟨gk, 0, none⟩)] w fun e w' => e = .returned (.int .i64 (m : Int)) ∧ RdM w0 gb gk go l' bad' w' ∧ Only2 gb gk w w' := by
  obtain ⟨A, n, c, q1, q2, q3, q4, q5, q6, q7, q8, q9, q10⟩ := h
  refine (wget_any gb gk A n c _ l l' m bad bad' w q1 q2 q4 q5 (by omega) hx).mono ?_
  rintro e w' ⟨rfl, r1, r2, r3⟩
  have hl := q4.len_b
  have hk := nk_le l
  have hd := next_drop l bad
  rw [hx] at hd
  simp only at hd
  refine ⟨rfl, ⟨_, _, _, r1, r2, r3.blk q3 (q3.ne_ q1 (by decide)) (q3.ne_ q2 (by decide)), ?_, by omega, by omega, by omega, q8.trans (r3.below q9 q10), q9, q10⟩, r3⟩
  have := (q4.rest (k := nk l) (c := c) (by omega) q5).below (r3.below q9 q10)
  rw [cb_drop, ← hd] at this
  exact this

def L3 (w : World) (gb gk go gm gc cap : Nat) (F : ByteArray) (fl : List UInt8) (R : Wp.Mail × Rp.St) (x : Value) (wr : World) : Prop :=
  ∃ (j : Nat) (lj : List UInt8) (bj : Bool) (M : Wp.Mail), x = .int .i64 (j : Int) ∧ j ≤ fl.length ∧ RdM w gb gk go lj bj wr ∧ Blk wr gm 23 (mA M) ∧ CvB wr gc F cap ∧ Wp.rdF (fl.drop j) M (lj, bj) = R ∧ IsMailM M
theorem RdM.bb {w0 w : World} {gb gk go : Nat} {l : List UInt8} {bad : Bool} (h : RdM w0 gb gk go l bad w) : ∃ x, Blk w gb 24 #[x] := by
  obtain ⟨A, n, c, h1, _⟩ := h
  exact ⟨_, h1⟩
theorem RdM.bk {w0 w : World} {gb gk go : Nat} {l : List UInt8} {bad : Bool} (h : RdM w0 gb gk go l bad w) : ∃ x, Blk w gk 4 #[x] := by
  obtain ⟨A, n, c, _, h1, _⟩ := h
  exact ⟨_, h1⟩
theorem CvB.ne_e {w : World} {g g' cap : Nat} {s : ByteArray} {t : TypeId} (h : CvB w g s cap) (h' : ∃ x, Blk w g' t #[x]) : g ≠ g' := by
  obtain ⟨x, h'⟩ := h'
  exact h.ne_ h'
theorem next_le' (p : Rp.St) : (Rp.next p).1 ≤ 1099511627776 := by
  unfold Rp.next
  cases h : Nm.get p.1 with
  | none => simp
  | some q => obtain ⟨m, k⟩ := q; exact (Nm.get_back h).1
theorem put_IsM {m : Wp.Mail} (h : IsMailM m) (c : UInt8) (n : Int) (h0 : -9223372036854775808 ≤ n) (h1 : n ≤ 9223372036854775807) : IsMailM (m.put c n) := by
  obtain ⟨a1, a2, a3, a4, a5, a6, a7, a8, a9, a10⟩ := h
  have hn : inI n := ⟨h0, h1⟩
  unfold Wp.Mail.put
  repeat' split
  all_goals exact ⟨a1, a2, a3, a4, a5, by assumption, by assumption, by assumption, by assumption, by assumption⟩

theorem RdM.upd {w0 w w' : World} {gb gk go : Nat} {l l' : List UInt8} {bad bad' : Bool} {A : Option Addr} {n c : Nat} (h : RdM w0 gb gk go l bad w) (h1 : Blk w' gb 24 #[.slice A n c]) (h2 : Blk w' gk 4 #[.bool !bad']) (o : Only2 gb gk w w')
    (hr : Reads w w0.heap.size 1 A n (cb l')) (hc : n ≤ c) (hm : c ≤ 9223372036854775807) (hn : n ≤ 4096) : RdM w0 gb gk go l' bad' w' := by
  obtain ⟨_, _, _, q1, q2, q3, q4, q5, q6, q7, q8, q9, q10⟩ := h
  exact ⟨A, n, c, h1, h2, o.blk q3 (q3.ne_ q1 (by decide)) (q3.ne_ q2 (by decide)), hr.below (o.below q9 q10), hc, hm, hn, q8.trans (o.below q9 q10), q9, q10⟩
theorem set_o {w W : World} (h : Below w.heap.size w W) (i : Nat) (u : Value) : Below w.heap.size w (W.setCell ⟨w.heap.size + 1, i, none⟩ u) := h.setCell (Nat.le_succ _) u
theorem wread_any (A : Option Addr) (n c : Nat) (l : List UInt8) (w : World) (hr : Reads w w.heap.size 1 A n (cb l)) (hc : n ≤ c) (hc2 : c ≤ 9223372036854775807) (hn : n ≤ 4096) :
    Calls Try.prog 23 #[.slice A n c] w fun e w' => e = .returned (mailV (Wp.readM l)) ∧ Below w.heap.size w w' := by
  obtain ⟨⟨m1, l1, b1⟩, h1⟩ : ∃ p, Rp.next (l, false) = p := ⟨_, rfl⟩
  obtain ⟨⟨m2, l2, b2⟩, h2⟩ : ∃ p, Rp.next (l1, b1) = p := ⟨_, rfl⟩
  obtain ⟨⟨m3, l3, b3⟩, h3⟩ : ∃ p, Rp.next (l2, b2) = p := ⟨_, rfl⟩
  obtain ⟨⟨m4, l4, b4⟩, h4⟩ : ∃ p, Rp.next (l3, b3) = p := ⟨_, rfl⟩
  obtain ⟨κ, hκ⟩ : ∃ κ, min m3 255 = κ := ⟨_, rfl⟩
  have hκ2 : κ ≤ 255 := by omega
  have hmin : (if (255 : Int) < (m3 : Int) then (255 : Int) else (m3 : Int)) = (κ : Int) := by split <;> omega
  have HK := Lib.hid hκ
  have HH1 := Lib.hid h1
  have HH2 := Lib.hid h2
  have HH3 := Lib.hid h3
  have HH4 := Lib.hid h4
  clear h1 h2 h3 h4 hκ
  obtain ⟨W0, hW0⟩ : ∃ W0, ((w.alloc (.cells #[.slice A n c] 24)).alloc (.cells (mA zM) 23)).alloc (.cells #[.bool true] 4) = W0 := ⟨_, rfl⟩
  have S0 : Hid (RdM w w.heap.size (w.heap.size + 1 + 1) (w.heap.size + 1) l false W0) := by
    rw [Hid, ← hW0]
    refine ⟨A, n, c, ((Blk.new w _ _).alloc _).alloc _, ?_, ?_, ((hr.alloc (Nat.le_refl _) _).alloc (by simp) _).alloc (by simp; omega) _, hc, hc2, hn, (((Below.refl _ _).alloc (Nat.le_refl _) _).alloc (by simp) _).alloc (by simp; omega) _, Nat.le_refl _, by omega⟩
    · have := Blk.new ((w.alloc (.cells #[.slice A n c] 24)).alloc (.cells (mA zM) 23)) 4 #[.bool true]
      simpa using this
    · have := (Blk.new (w.alloc (.cells #[.slice A n c] 24)) 23 (mA zM)).alloc (.cells #[.bool true] 4)
      simpa using this
  have hz0 : W0.heap.size = w.heap.size + 3 := by rw [← hW0]; simp
  have HW0 := Lib.hid hW0
  have HZ0 := Lib.hid hz0
  clear hW0 hz0 hr
  go_enter Try.func23, Try.ntmps23
  go_wp2_with fail
  rw [show (Obj.cells #[.int .i64 0, .int .i64 0, .int .u8 0, .int .i64 0, .int .i64 0, .int .i64 0, .int .i64 0, .string ⟨#[]⟩, .int .i64 0, .int .i64 0] 23) = .cells (mA zM) 23 from rfl, HW0.out]
  refine (S0.out.get HH1.out).mono ?_
  rintro e w1 ⟨rfl, s1, o1⟩
  have S1 := Lib.hid s1
  have Z1 := Lib.hid (o1.2.2.2.1.trans HZ0.out)
  clear s1 o1 S0
  go_wp2_with fail
  refine (S1.out.get HH2.out).mono ?_
  rintro e w2 ⟨rfl, s2, o2⟩
  have S2 := Lib.hid s2
  have Z2 := Lib.hid (o2.2.2.2.1.trans Z1.out)
  clear s2 o2 S1
  go_wp2_with fail
  have n1 : w.heap.size ≠ w2.heap.size := by have := Z2.out; omega
  have n2 : w.heap.size + 1 ≠ w2.heap.size := by have := Z2.out; omega
  have n3 : w.heap.size + 1 + 1 ≠ w2.heap.size := by have := Z2.out; omega
  have n4 := Ne.symm n1
  have n5 := Ne.symm n2
  have n6 := Ne.symm n3
  have n7 : w.heap.size ≤ w2.heap.size := by have := Z2.out; omega
  have S3 := Lib.hid (S2.out.below ((Below.refl w2.heap.size w2).alloc (Nat.le_refl _) (.cells (mA (Wp.zeroM m1 m2 0 0)) 23)))
  have KM3 := Lib.hid (Blk.new w2 23 (mA (Wp.zeroM m1 m2 0 0)))
  clear S2
  refine (S3.out.get HH3.out).mono ?_
  rintro e w4 ⟨rfl, s4, o4⟩
  have S4 := Lib.hid s4
  have KM4 := Lib.hid (o4.blk KM3.out n4 n6)
  have c2 := KM4.out.cell 2
  have f2 := KM4.out.frozen 2
  clear s4 o4 S3 KM3
  go_wp2_with fail
  have S5 := Lib.hid (S4.out.far (p := ⟨w2.heap.size, 2, none⟩) n1 n3 n2 n7 (.int .u8 (κ : Int)))
  have KM5 : Hid (Blk (w4.setCell ⟨w2.heap.size, 2, none⟩ (.int .u8 (κ : Int))) w2.heap.size 23 (mA (Wp.zeroM m1 m2 κ 0))) := KM4.out.set_ 2 (.int .u8 (κ : Int))
  clear S4 KM4 c2 f2
  generalize w4.setCell ⟨w2.heap.size, 2, none⟩ (.int .u8 (κ : Int)) = w5 at *
  refine (S5.out.get HH4.out).mono ?_
  rintro e w6 ⟨rfl, s6, o6⟩
  have S6 := Lib.hid s6
  have KM6 := Lib.hid (o6.blk KM5.out n4 n6)
  have c3 := KM6.out.cell 3
  have f3 := KM6.out.frozen 3
  have c2 : w6.cell? ⟨w2.heap.size, 2, none⟩ = some (.int .u8 (κ : Int)) := KM6.out.cell 2
  clear s6 o6 S5 KM5
  go_wp2_with fail
  have S7 := Lib.hid (S6.out.far (p := ⟨w2.heap.size, 3, none⟩) n1 n3 n2 n7 (.int .i64 (m4 : Int)))
  have KM7 : Hid (Blk (w6.setCell ⟨w2.heap.size, 3, none⟩ (.int .i64 (m4 : Int))) w2.heap.size 23 (mA (Wp.zeroM m1 m2 κ m4))) := KM6.out.set_ 3 (.int .i64 (m4 : Int))
  clear S6 KM6 c2 c3 f3
  generalize w6.setCell ⟨w2.heap.size, 3, none⟩ (.int .i64 (m4 : Int)) = w7 at *
  obtain ⟨fl, hfl⟩ : ∃ fl, Wp.fieldsL (κ : Int) = fl := ⟨_, rfl⟩
  obtain ⟨F, hF⟩ : ∃ F, S fl = F := ⟨_, rfl⟩
  have HFI := wfields_any (κ : Int) w7 (by omega) (by omega)
  rw [hfl, hF] at HFI
  have hfz : F.size = fl.length := by rw [← hF]; exact S_size fl
  have HFd : Hid (F.data.toList = fl) := by rw [Hid, ← hF]; rfl
  have hfs := fields_short (κ : Int)
  have hlet := (Wp.fields_nodup (κ : Int)).2
  rw [hfl] at hfs hlet
  have HLET := Lib.hid hlet
  have HFL := Lib.hid hfl
  clear hF hfl hlet
  refine HFI.mono ?_
  clear HFI
  rintro e w8 ⟨rfl, hb⟩
  have S8 := Lib.hid ((S7.out.below hb).below (convW_below w8 F))
  have KM8 := Lib.hid (Blk.below (Blk.below KM7.out hb KM7.out.lt) (convW_below w8 F) (Blk.below KM7.out hb KM7.out.lt).lt)
  have H8 := Lib.hid (CvB.new w8 F)
  have hcap := convC_ge w8 F
  have hcv := fun w => run_conv_to w F
  clear hb S7 KM7
  have bm1 : m1 ≤ 1099511627776 := by have := next_le' (l, false); rw [HH1.out] at this; exact this
  have bm2 : m2 ≤ 1099511627776 := by have := next_le' (l1, b1); rw [HH2.out] at this; exact this
  have bm4 : m4 ≤ 1099511627776 := by have := next_le' (l3, b3); rw [HH4.out] at this; exact this
  go_wp2_with fail
  obtain ⟨W8, hW8⟩ : ∃ W, convW w8 F = W := ⟨_, rfl⟩
  obtain ⟨cap, hcp⟩ : ∃ c, convC w8 F = c := ⟨_, rfl⟩
  obtain ⟨gc, hgc⟩ : ∃ g, w8.heap.size = g := ⟨_, rfl⟩
  rw [hW8] at S8 KM8 H8
  rw [hcp] at H8 hcap
  rw [hgc] at H8
  rw [hW8, hcp, hgc]
  clear hW8 hcp hgc hcv
  obtain ⟨R, hR⟩ : ∃ R, Wp.rdF fl (Wp.zeroM m1 m2 κ m4) (l4, b4) = R := ⟨_, rfl⟩
  have HRD : Hid (Wp.readM l = if R.2.2 = false ∧ R.2.1 = [] ∧ Wp.mayM R.1 = true then some R.1 else none) := by
    rw [Hid, ← hR, ← HFL.out]
    simp only [Wp.readM, HH1.out, HH2.out, HH3.out, HH4.out, HK.out]
  have HR := Lib.hid hR
  clear hR
  go_loopw [35] (fun x wr => L3 w w.heap.size (w.heap.size + 1 + 1) (w.heap.size + 1) w2.heap.size gc cap F fl R x wr) (fun x _ => 4 - (intOf x).toNat)
  case atStart => exact ⟨0, l4, b4, _, rfl, Nat.zero_le _, S8.out, KM8.out, H8.out, HR.out, ⟨by simp [Wp.zeroM]; omega, by simp [Wp.zeroM], by simp [Wp.zeroM, inI]; omega, by simp [Wp.zeroM, inI]; omega, by simp [Wp.zeroM, inI]; omega, by simp [Wp.zeroM, inI], by simp [Wp.zeroM, inI], by simp [Wp.zeroM, inI], by simp [Wp.zeroM, inI], by simp [Wp.zeroM, inI]⟩⟩
  case round =>
    obtain ⟨j, lj, bj, M, rfl, hj, hs, hkm, hcvb, hrd, him⟩ := hrel
    have HS := Lib.hid hs
    have HM := Lib.hid hkm
    have HI := Lib.hid hcvb
    have HD := Lib.hid hrd
    have HIM := Lib.hid him
    clear hs hkm hcvb hrd him S8 KM8 H8
    by_cases hlt : j < fl.length
    · obtain ⟨c, hc⟩ : ∃ c, fl[j] = c := ⟨_, rfl⟩
      have hdr := List.drop_eq_getElem_cons hlt
      rw [hc] at hdr
      have HDR := Lib.hid hdr
      have hjz : j < F.size := by rw [hfz]; exact hlt
      have hcell : wr.cell? ⟨gc, j, none⟩ = some (.int .u8 (c.toNat : Int)) := by
        have h1 := HI.out.cell j (by rw [HFd.out]; exact hlt)
        simp only [HFd.out, hc] at h1
        exact h1
      have hlc := HLET.out c (hc ▸ List.getElem_mem hlt)
      clear hdr hc
      by_cases h118 : c = 118
      · subst h118
        obtain ⟨A1, n1, c1, q1, q2, q3, q4, q5, q6, q7, q8, q9, q10⟩ := HS.out
        have n1e : w.heap.size ≠ w2.heap.size := by have := Z2.out; omega
        have hlq := q4.len_b
        have T := getText_any A1 n1 c1 _ lj wr q4 q5 (by omega)
        have c7 : wr.cell? ⟨w2.heap.size, 7, none⟩ = some (.string (S M.v)) := HM.out.cell 7
        have f7 := HM.out.frozen 7
        have cg1 := q1.cell 0
        have cg2 := q2.cell 0
        have fg1 := q1.frozen 0
        have fg2 := q2.frozen 0
        clear hlc
        cases hg : Nm.getText lj with
        | none =>
          rw [hg] at T
          have HT := Lib.hid (show Calls Try.prog 40 #[.slice A1 n1 c1] wr fun e w' => e = .returned (.tuple #[.string ⟨#[]⟩, .int .i64 0, .int .i64 8]) ∧ wr = w' from T)
          have HX : Hid (Wp.textK (lj, bj) = ([], (lj, true))) := by simp [Hid, Wp.textK, hg]
          have hs0 := fun w => run_slice_from (P := Try.prog) Try.underlying24 A1 n1 c1 0 (by omega) w u8_size
          rw [cutA_zero, Nat.sub_zero, Nat.sub_zero, Int.natCast_zero] at hs0
          have R5 := q4
          have Q1 := Lib.hid (q1.far (p := ⟨w2.heap.size, 7, none⟩) n1e (.string ⟨#[]⟩))
          have Q2 := Lib.hid (q2.far (p := ⟨w2.heap.size, 7, none⟩) n3 (.string ⟨#[]⟩))
          have S10 := Lib.hid (HS.out.far (p := ⟨w2.heap.size, 7, none⟩) n1e n3 n2 n7 (.string ⟨#[]⟩))
          have KM10 : Hid (Blk (wr.setCell ⟨w2.heap.size, 7, none⟩ (.string ⟨#[]⟩)) w2.heap.size 23 (mA { M with v := [] })) := HM.out.set_ 7 (.string ⟨#[]⟩)
          have CV10 := Lib.hid (HI.out.far (p := ⟨w2.heap.size, 7, none⟩) (HI.out.ne_ HM.out) (.string ⟨#[]⟩))
          have HR5 := Lib.hid (R5.setCell (p := ⟨w2.heap.size, 7, none⟩) n7 (.string ⟨#[]⟩))
          clear T hg q1 q2 q3 q4 R5 hlq
          go_wp2_with fail
          with_reducible refine HT.out.mono ?_
          rintro e w' ⟨rfl, rfl⟩
          go_wp2_with fail
          generalize wr.setCell ⟨w2.heap.size, 7, none⟩ (.string ⟨#[]⟩) = W10 at *
          clear c7 f7 cg1 cg2 fg1 fg2 hcell
          have cg1 := Q1.out.cell 0
          have fg1 := Q1.out.frozen 0
          have fg2 := Q2.out.frozen 0
          have nbk := Q1.out.ne_ Q2.out (by decide)
          have nkb := Ne.symm nbk
          cases bj with
          | true =>
            have cg2 : W10.cell? ⟨w.heap.size + 1 + 1, 0, none⟩ = some (.bool false) := Q2.out.cell 0
            have tw := Lib.hid (two_set w.heap.size (w.heap.size + 1 + 1) W10 _ (.slice A1 n1 c1) _ (.bool false) Q1.out Q2.out)
            go_region
            all_goals go_wp2
            all_goals go_roundw
            all_goals first
              | (case rel => exact ⟨j + 1, lj, true, { M with v := [] }, by go_num, hlt, RdM.upd S10.out tw.out.1.1 tw.out.1.2.1 tw.out.1.2.2 HR5.out (by omega) (by omega) (by omega), tw.out.1.2.2.blk KM10.out n4 n6, tw.out.1.2.2.cv CV10.out (CV10.out.ne_ Q1.out) (CV10.out.ne_ Q2.out), by rw [← HD.out, HDR.out, Wp.rdF, if_pos rfl, HX.out], ⟨HIM.out.1, by simp, HIM.out.2.2⟩⟩)
              | (case rel => exact ⟨j + 1, lj, true, { M with v := [] }, by go_num, hlt, RdM.upd S10.out tw.out.2.1 tw.out.2.2.1 tw.out.2.2.2 HR5.out (by omega) (by omega) (by omega), tw.out.2.2.2.blk KM10.out n4 n6, tw.out.2.2.2.cv CV10.out (CV10.out.ne_ Q1.out) (CV10.out.ne_ Q2.out), by rw [← HD.out, HDR.out, Wp.rdF, if_pos rfl, HX.out], ⟨HIM.out.1, by simp, HIM.out.2.2⟩⟩)
              | (case measure => simp [intOf]; omega)
          | false =>
            have cg2 : W10.cell? ⟨w.heap.size + 1 + 1, 0, none⟩ = some (.bool true) := Q2.out.cell 0
            have tw := Lib.hid (two_set w.heap.size (w.heap.size + 1 + 1) W10 _ (.slice A1 n1 c1) _ (.bool false) Q1.out Q2.out)
            go_region
            all_goals go_wp2
            all_goals go_roundw
            all_goals first
              | (case rel => exact ⟨j + 1, lj, true, { M with v := [] }, by go_num, hlt, RdM.upd S10.out tw.out.1.1 tw.out.1.2.1 tw.out.1.2.2 HR5.out (by omega) (by omega) (by omega), tw.out.1.2.2.blk KM10.out n4 n6, tw.out.1.2.2.cv CV10.out (CV10.out.ne_ Q1.out) (CV10.out.ne_ Q2.out), by rw [← HD.out, HDR.out, Wp.rdF, if_pos rfl, HX.out], ⟨HIM.out.1, by simp, HIM.out.2.2⟩⟩)
              | (case rel => exact ⟨j + 1, lj, true, { M with v := [] }, by go_num, hlt, RdM.upd S10.out tw.out.2.1 tw.out.2.2.1 tw.out.2.2.2 HR5.out (by omega) (by omega) (by omega), tw.out.2.2.2.blk KM10.out n4 n6, tw.out.2.2.2.cv CV10.out (CV10.out.ne_ Q1.out) (CV10.out.ne_ Q2.out), by rw [← HD.out, HDR.out, Wp.rdF, if_pos rfl, HX.out], ⟨HIM.out.1, by simp, HIM.out.2.2⟩⟩)
              | (case measure => simp [intOf]; omega)
        | some p =>
          obtain ⟨t, k⟩ := p
          obtain ⟨g1, g2, g3, g4, g5⟩ := Nm.getText_back hg
          rw [hg] at T
          have HT := Lib.hid (show Calls Try.prog 40 #[.slice A1 n1 c1] wr fun e w' => e = .returned (.tuple #[.string (S t), .int .i64 (k : Int), .int .i64 0]) ∧ wr = w' from T)
          have HX : Hid (Wp.textK (lj, bj) = (t, (lj.drop k, bj))) := by simp [Hid, Wp.textK, hg]
          have hkn : k ≤ n1 := by omega
          have hs0 := fun w => run_slice_from (P := Try.prog) Try.underlying24 A1 n1 c1 k hkn w u8_size
          have R5 := q4.rest (k := k) (c := c1) hkn q5
          rw [cb_drop] at R5
          have hi0 : (0 : Int) ≤ (k : Int) := by omega
          have hi1 : (k : Int) ≤ (n1 : Int) := by omega
          have hi2 : (n1 : Int) ≤ (c1 : Int) := by omega
          have hvt : t.length ≤ 4096 := g1
          have Q1 := Lib.hid (q1.far (p := ⟨w2.heap.size, 7, none⟩) n1e (.string (S t)))
          have Q2 := Lib.hid (q2.far (p := ⟨w2.heap.size, 7, none⟩) n3 (.string (S t)))
          have S10 := Lib.hid (HS.out.far (p := ⟨w2.heap.size, 7, none⟩) n1e n3 n2 n7 (.string (S t)))
          have KM10 : Hid (Blk (wr.setCell ⟨w2.heap.size, 7, none⟩ (.string (S t))) w2.heap.size 23 (mA { M with v := t })) := HM.out.set_ 7 (.string (S t))
          have CV10 := Lib.hid (HI.out.far (p := ⟨w2.heap.size, 7, none⟩) (HI.out.ne_ HM.out) (.string (S t)))
          have HR5 := Lib.hid (R5.setCell (p := ⟨w2.heap.size, 7, none⟩) n7 (.string (S t)))
          clear T hg q1 q2 q3 q4 R5 hlq g1 g2 g3 g4 g5
          go_wp2_with fail
          with_reducible refine HT.out.mono ?_
          rintro e w' ⟨rfl, rfl⟩
          go_wp2_with fail
          generalize wr.setCell ⟨w2.heap.size, 7, none⟩ (.string (S t)) = W10 at *
          clear c7 f7 cg1 cg2 fg1 fg2 hcell
          have cg1 := Q1.out.cell 0
          have fg1 := Q1.out.frozen 0
          have fg2 := Q2.out.frozen 0
          have nbk := Q1.out.ne_ Q2.out (by decide)
          have nkb := Ne.symm nbk
          cases bj with
          | true =>
            have cg2 : W10.cell? ⟨w.heap.size + 1 + 1, 0, none⟩ = some (.bool false) := Q2.out.cell 0
            have tw := Lib.hid (two_set w.heap.size (w.heap.size + 1 + 1) W10 _ (.slice (cutA A1 c1 k) (n1 - k) (c1 - k)) _ (.bool false) Q1.out Q2.out)
            go_region
            all_goals go_wp2
            all_goals go_roundw
            all_goals first
              | (case rel => exact ⟨j + 1, lj.drop k, true, { M with v := t }, by go_num, hlt, RdM.upd S10.out tw.out.1.1 tw.out.1.2.1 tw.out.1.2.2 HR5.out (by omega) (by omega) (by omega), tw.out.1.2.2.blk KM10.out n4 n6, tw.out.1.2.2.cv CV10.out (CV10.out.ne_ Q1.out) (CV10.out.ne_ Q2.out), by rw [← HD.out, HDR.out, Wp.rdF, if_pos rfl, HX.out], ⟨HIM.out.1, by simp; omega, HIM.out.2.2⟩⟩)
              | (case rel => exact ⟨j + 1, lj.drop k, true, { M with v := t }, by go_num, hlt, RdM.upd S10.out tw.out.2.1 tw.out.2.2.1 tw.out.2.2.2 HR5.out (by omega) (by omega) (by omega), tw.out.2.2.2.blk KM10.out n4 n6, tw.out.2.2.2.cv CV10.out (CV10.out.ne_ Q1.out) (CV10.out.ne_ Q2.out), by rw [← HD.out, HDR.out, Wp.rdF, if_pos rfl, HX.out], ⟨HIM.out.1, by simp; omega, HIM.out.2.2⟩⟩)
              | (case measure => simp [intOf]; omega)
          | false =>
            have cg2 : W10.cell? ⟨w.heap.size + 1 + 1, 0, none⟩ = some (.bool true) := Q2.out.cell 0
            have tw := Lib.hid (two_set w.heap.size (w.heap.size + 1 + 1) W10 _ (.slice (cutA A1 c1 k) (n1 - k) (c1 - k)) _ (.bool true) Q1.out Q2.out)
            go_region
            all_goals go_wp2
            all_goals go_roundw
            all_goals first
              | (case rel => exact ⟨j + 1, lj.drop k, false, { M with v := t }, by go_num, hlt, RdM.upd S10.out tw.out.1.1 tw.out.1.2.1 tw.out.1.2.2 HR5.out (by omega) (by omega) (by omega), tw.out.1.2.2.blk KM10.out n4 n6, tw.out.1.2.2.cv CV10.out (CV10.out.ne_ Q1.out) (CV10.out.ne_ Q2.out), by rw [← HD.out, HDR.out, Wp.rdF, if_pos rfl, HX.out], ⟨HIM.out.1, by simp; omega, HIM.out.2.2⟩⟩)
              | (case rel => exact ⟨j + 1, lj.drop k, false, { M with v := t }, by go_num, hlt, RdM.upd S10.out tw.out.2.1 tw.out.2.2.1 tw.out.2.2.2 HR5.out (by omega) (by omega) (by omega), tw.out.2.2.2.blk KM10.out n4 n6, tw.out.2.2.2.cv CV10.out (CV10.out.ne_ Q1.out) (CV10.out.ne_ Q2.out), by rw [← HD.out, HDR.out, Wp.rdF, if_pos rfl, HX.out], ⟨HIM.out.1, by simp; omega, HIM.out.2.2⟩⟩)
              | (case measure => simp [intOf]; omega)
      · have hl2 := hlc.resolve_left h118
        have hne : ((c.toNat : Int) == 118) = false := by
          have : c.toNat ≠ 118 := fun e => h118 (UInt8.toNat_inj.1 e)
          simpa using (show ¬ (c.toNat : Int) = 118 by omega)
        have hne2 : ((c.toNat : Int) != 118) = true := by simp only [bne, hne, Bool.not_false]
        obtain ⟨⟨q, lq, bq⟩, hq⟩ : ∃ p, Rp.next (lj, bj) = p := ⟨_, rfl⟩
        have hqb : q ≤ 1099511627776 := by have := next_le' (lj, bj); rw [hq] at this; exact this
        have HQ := Lib.hid hq
        have P1 := Lib.hid (wplace_any w2.heap.size c wr hl2)
        have HL2 := Lib.hid hl2
        clear hlc hl2 hq
        go_wp2_with fail
        with_reducible refine P1.out.mono ?_
        rintro e w' ⟨rfl, rfl⟩
        go_wp2_with fail
        refine (HS.out.get HQ.out).mono ?_
        rintro e w9 ⟨rfl, s9, o9⟩
        have S9 := Lib.hid s9
        have KM9 := Lib.hid (o9.blk HM.out n4 n6)
        have CV9 := Lib.hid (o9.cv HI.out (HI.out.ne_e HS.out.bb) (HI.out.ne_e HS.out.bk))
        have co := (KM9.out.cell (off c)).trans (mA_get M c)
        have fo := KM9.out.frozen (off c)
        clear s9 o9 P1 hcell
        go_wp2_with fail
        have S10 := Lib.hid (S9.out.far (p := ⟨w2.heap.size, off c, none⟩) n1 n3 n2 n7 (.int .i64 (q : Int)))
        have KM10 := KM9.out.set_ (off c) (.int .i64 (q : Int))
        rw [mA_put] at KM10
        have KM11 := Lib.hid KM10
        have CV10 := Lib.hid (CV9.out.far (p := ⟨w2.heap.size, off c, none⟩) (CV9.out.ne_ KM9.out) (.int .i64 (q : Int)))
        clear KM10 co fo
        go_roundw
        case rel => exact ⟨j + 1, lq, bq, _, by go_num, hlt, S10.out, KM11.out, CV10.out, by rw [← HD.out, HDR.out, Wp.rdF, if_neg h118, HQ.out], put_IsM HIM.out c (q : Int) (by omega) (by omega)⟩
        case measure => simp [intOf]; omega
    · obtain rfl : j = fl.length := by omega
      have hjz : ¬ ((fl.length : Int) < (F.size : Int)) := by omega
      have hd := HD.out
      rw [List.drop_length] at hd
      have hR : R = (M, (lj, bj)) := by rw [← hd]; rfl
      have HRE := HRD.out
      rw [hR] at HRE
      simp only at HRE
      have HRX := Lib.hid HRE
      obtain ⟨A1, n1, c1, q1, q2, q3, q4, q5, q6, q7, q8, q9, q10⟩ := HS.out
      have hlq := Lib.hid q4.len_b
      have HB := Lib.hid q8
      have cg1 := q1.cell 0
      have z0 : wr.cell? ⟨w.heap.size + 1, 0, none⟩ = some (.int .i64 0) := q3.cell 0
      have fo0 := q3.frozen 0
      have z1 : wr.cell? ⟨w.heap.size + 1, 1, none⟩ = some (.int .i64 0) := q3.cell 1
      have fo1 := q3.frozen 1
      have z2 : wr.cell? ⟨w.heap.size + 1, 2, none⟩ = some (.int .u8 0) := q3.cell 2
      have fo2 := q3.frozen 2
      have z3 : wr.cell? ⟨w.heap.size + 1, 3, none⟩ = some (.int .i64 0) := q3.cell 3
      have fo3 := q3.frozen 3
      have z4 : wr.cell? ⟨w.heap.size + 1, 4, none⟩ = some (.int .i64 0) := q3.cell 4
      have fo4 := q3.frozen 4
      have z5 : wr.cell? ⟨w.heap.size + 1, 5, none⟩ = some (.int .i64 0) := q3.cell 5
      have fo5 := q3.frozen 5
      have z6 : wr.cell? ⟨w.heap.size + 1, 6, none⟩ = some (.int .i64 0) := q3.cell 6
      have fo6 := q3.frozen 6
      have z7 : wr.cell? ⟨w.heap.size + 1, 7, none⟩ = some (.string ⟨#[]⟩) := q3.cell 7
      have fo7 := q3.frozen 7
      have z8 : wr.cell? ⟨w.heap.size + 1, 8, none⟩ = some (.int .i64 0) := q3.cell 8
      have fo8 := q3.frozen 8
      have z9 : wr.cell? ⟨w.heap.size + 1, 9, none⟩ = some (.int .i64 0) := q3.cell 9
      have fo9 := q3.frozen 9
      have y0 : wr.cell? ⟨w2.heap.size, 0, none⟩ = some (.int .i64 M.f) := HM.out.cell 0
      have y1 : wr.cell? ⟨w2.heap.size, 1, none⟩ = some (.int .i64 M.t) := HM.out.cell 1
      have y2 : wr.cell? ⟨w2.heap.size, 2, none⟩ = some (.int .u8 M.k) := HM.out.cell 2
      have y3 : wr.cell? ⟨w2.heap.size, 3, none⟩ = some (.int .i64 M.g) := HM.out.cell 3
      have y4 : wr.cell? ⟨w2.heap.size, 4, none⟩ = some (.int .i64 M.s) := HM.out.cell 4
      have y5 : wr.cell? ⟨w2.heap.size, 5, none⟩ = some (.int .i64 M.b) := HM.out.cell 5
      have y6 : wr.cell? ⟨w2.heap.size, 6, none⟩ = some (.int .i64 M.p) := HM.out.cell 6
      have y7 : wr.cell? ⟨w2.heap.size, 7, none⟩ = some (.string (S M.v)) := HM.out.cell 7
      have y8 : wr.cell? ⟨w2.heap.size, 8, none⟩ = some (.int .i64 M.i) := HM.out.cell 8
      have y9 : wr.cell? ⟨w2.heap.size, 9, none⟩ = some (.int .i64 M.tm) := HM.out.cell 9
      have HQ3 := Lib.hid q3
      have HQ2 := Lib.hid q2
      clear hd hR HRE q1 q2 q3 q4 q8
      cases bj with
      | true =>
        have cg2 : wr.cell? ⟨w.heap.size + 1 + 1, 0, none⟩ = some (.bool false) := HQ2.out.cell 0
        have HE : Hid (Wp.readM l = none) := by rw [Hid, HRX.out]; exact if_neg (by rintro ⟨h, _⟩; cases h)
        go_wp2
        exact bodyPost_ret (v := .tuple #[.agg #[.int .i64 0, .int .i64 0, .int .u8 0, .int .i64 0, .int .i64 0, .int .i64 0, .int .i64 0, .string ⟨#[]⟩, .int .i64 0, .int .i64 0], .int .i64 8]) (by simp [results, Try.results23, go_sem, z0, z1, z2, z3, z4, z5, z6, z7, z8, z9]) rfl ⟨by rw [HE.out]; rfl, by repeat (first | with_reducible exact HB.out | with_reducible exact HB6.out | with_reducible refine set_o ?_ _ _)⟩
      | false =>
        have cg2 : wr.cell? ⟨w.heap.size + 1 + 1, 0, none⟩ = some (.bool true) := HQ2.out.cell 0
        by_cases z : n1 = 0
        rotate_left
        · have zz : (0 : Int) < (n1 : Int) := by omega
          have HE : Hid (Wp.readM l = none) := by rw [Hid, HRX.out]; exact if_neg (by rintro ⟨_, h, _⟩; have hh := hlq.out; rw [h] at hh; simp at hh; omega)
          go_wp2
          exact bodyPost_ret (v := .tuple #[.agg #[.int .i64 0, .int .i64 0, .int .u8 0, .int .i64 0, .int .i64 0, .int .i64 0, .int .i64 0, .string ⟨#[]⟩, .int .i64 0, .int .i64 0], .int .i64 8]) (by simp [results, Try.results23, go_sem, z0, z1, z2, z3, z4, z5, z6, z7, z8, z9]) rfl ⟨by rw [HE.out]; rfl, by repeat (first | with_reducible exact HB.out | with_reducible exact HB6.out | with_reducible refine set_o ?_ _ _)⟩
        · have hl0 : Hid (lj = []) := List.eq_nil_of_length_eq_zero (by rw [hlq.out]; exact z)
          have WC := wcheck_any M wr HIM.out
          cases hm : Wp.mayM M with
          | false =>
            rw [hm] at WC
            have HWC := Lib.hid (show Calls Try.prog 14 #[.agg #[.int .i64 M.f, .int .i64 M.t, .int .u8 M.k, .int .i64 M.g, .int .i64 M.s, .int .i64 M.b, .int .i64 M.p, .string (S M.v), .int .i64 M.i, .int .i64 M.tm]] wr fun e w' => e = .returned (.int .i64 8) ∧ Below wr.heap.size wr w' from WC)
            have HE : Hid (Wp.readM l = none) := by rw [Hid, HRX.out]; exact if_neg (by rintro ⟨_, _, h⟩; rw [hm] at h; cases h)
            clear WC hm
            go_wp2_with fail
            with_reducible refine HWC.out.mono ?_
            rintro e w9 ⟨rfl, hb⟩
            have HB6 := Lib.hid (then_ HB.out hb)
            have ko := Blk.below HQ3.out hb HQ3.out.lt
            have km := Blk.below HM.out hb HM.out.lt
            clear z0 fo0 y0 z1 fo1 y1 z2 fo2 y2 z3 fo3 y3 z4 fo4 y4 z5 fo5 y5 z6 fo6 y6 z7 fo7 y7 z8 fo8 y8 z9 fo9 y9
            have z0 : w9.cell? ⟨w.heap.size + 1, 0, none⟩ = some (.int .i64 0) := ko.cell 0
            have fo0 := ko.frozen 0
            have z1 : w9.cell? ⟨w.heap.size + 1, 1, none⟩ = some (.int .i64 0) := ko.cell 1
            have fo1 := ko.frozen 1
            have z2 : w9.cell? ⟨w.heap.size + 1, 2, none⟩ = some (.int .u8 0) := ko.cell 2
            have fo2 := ko.frozen 2
            have z3 : w9.cell? ⟨w.heap.size + 1, 3, none⟩ = some (.int .i64 0) := ko.cell 3
            have fo3 := ko.frozen 3
            have z4 : w9.cell? ⟨w.heap.size + 1, 4, none⟩ = some (.int .i64 0) := ko.cell 4
            have fo4 := ko.frozen 4
            have z5 : w9.cell? ⟨w.heap.size + 1, 5, none⟩ = some (.int .i64 0) := ko.cell 5
            have fo5 := ko.frozen 5
            have z6 : w9.cell? ⟨w.heap.size + 1, 6, none⟩ = some (.int .i64 0) := ko.cell 6
            have fo6 := ko.frozen 6
            have z7 : w9.cell? ⟨w.heap.size + 1, 7, none⟩ = some (.string ⟨#[]⟩) := ko.cell 7
            have fo7 := ko.frozen 7
            have z8 : w9.cell? ⟨w.heap.size + 1, 8, none⟩ = some (.int .i64 0) := ko.cell 8
            have fo8 := ko.frozen 8
            have z9 : w9.cell? ⟨w.heap.size + 1, 9, none⟩ = some (.int .i64 0) := ko.cell 9
            have fo9 := ko.frozen 9
            clear hb ko km
            go_wp2
            exact bodyPost_ret (v := .tuple #[.agg #[.int .i64 0, .int .i64 0, .int .u8 0, .int .i64 0, .int .i64 0, .int .i64 0, .int .i64 0, .string ⟨#[]⟩, .int .i64 0, .int .i64 0], .int .i64 8]) (by simp [results, Try.results23, go_sem, z0, z1, z2, z3, z4, z5, z6, z7, z8, z9]) rfl ⟨by rw [HE.out]; rfl, by repeat (first | with_reducible exact HB.out | with_reducible exact HB6.out | with_reducible refine set_o ?_ _ _)⟩
          | true =>
            rw [hm] at WC
            have HWC := Lib.hid (show Calls Try.prog 14 #[.agg #[.int .i64 M.f, .int .i64 M.t, .int .u8 M.k, .int .i64 M.g, .int .i64 M.s, .int .i64 M.b, .int .i64 M.p, .string (S M.v), .int .i64 M.i, .int .i64 M.tm]] wr fun e w' => e = .returned (.int .i64 0) ∧ Below wr.heap.size wr w' from WC)
            have HE : Hid (Wp.readM l = some M) := by rw [Hid, HRX.out]; exact if_pos ⟨rfl, hl0.out, hm⟩
            clear WC hm
            go_wp2_with fail
            with_reducible refine HWC.out.mono ?_
            rintro e w9 ⟨rfl, hb⟩
            have HB6 := Lib.hid (then_ HB.out hb)
            have ko := Blk.below HQ3.out hb HQ3.out.lt
            have km := Blk.below HM.out hb HM.out.lt
            clear z0 fo0 y0 z1 fo1 y1 z2 fo2 y2 z3 fo3 y3 z4 fo4 y4 z5 fo5 y5 z6 fo6 y6 z7 fo7 y7 z8 fo8 y8 z9 fo9 y9
            have z0 : w9.cell? ⟨w.heap.size + 1, 0, none⟩ = some (.int .i64 0) := ko.cell 0
            have fo0 := ko.frozen 0
            have z1 : w9.cell? ⟨w.heap.size + 1, 1, none⟩ = some (.int .i64 0) := ko.cell 1
            have fo1 := ko.frozen 1
            have z2 : w9.cell? ⟨w.heap.size + 1, 2, none⟩ = some (.int .u8 0) := ko.cell 2
            have fo2 := ko.frozen 2
            have z3 : w9.cell? ⟨w.heap.size + 1, 3, none⟩ = some (.int .i64 0) := ko.cell 3
            have fo3 := ko.frozen 3
            have z4 : w9.cell? ⟨w.heap.size + 1, 4, none⟩ = some (.int .i64 0) := ko.cell 4
            have fo4 := ko.frozen 4
            have z5 : w9.cell? ⟨w.heap.size + 1, 5, none⟩ = some (.int .i64 0) := ko.cell 5
            have fo5 := ko.frozen 5
            have z6 : w9.cell? ⟨w.heap.size + 1, 6, none⟩ = some (.int .i64 0) := ko.cell 6
            have fo6 := ko.frozen 6
            have z7 : w9.cell? ⟨w.heap.size + 1, 7, none⟩ = some (.string ⟨#[]⟩) := ko.cell 7
            have fo7 := ko.frozen 7
            have z8 : w9.cell? ⟨w.heap.size + 1, 8, none⟩ = some (.int .i64 0) := ko.cell 8
            have fo8 := ko.frozen 8
            have z9 : w9.cell? ⟨w.heap.size + 1, 9, none⟩ = some (.int .i64 0) := ko.cell 9
            have fo9 := ko.frozen 9
            have y0 : w9.cell? ⟨w2.heap.size, 0, none⟩ = some (.int .i64 M.f) := km.cell 0
            have y1 : w9.cell? ⟨w2.heap.size, 1, none⟩ = some (.int .i64 M.t) := km.cell 1
            have y2 : w9.cell? ⟨w2.heap.size, 2, none⟩ = some (.int .u8 M.k) := km.cell 2
            have y3 : w9.cell? ⟨w2.heap.size, 3, none⟩ = some (.int .i64 M.g) := km.cell 3
            have y4 : w9.cell? ⟨w2.heap.size, 4, none⟩ = some (.int .i64 M.s) := km.cell 4
            have y5 : w9.cell? ⟨w2.heap.size, 5, none⟩ = some (.int .i64 M.b) := km.cell 5
            have y6 : w9.cell? ⟨w2.heap.size, 6, none⟩ = some (.int .i64 M.p) := km.cell 6
            have y7 : w9.cell? ⟨w2.heap.size, 7, none⟩ = some (.string (S M.v)) := km.cell 7
            have y8 : w9.cell? ⟨w2.heap.size, 8, none⟩ = some (.int .i64 M.i) := km.cell 8
            have y9 : w9.cell? ⟨w2.heap.size, 9, none⟩ = some (.int .i64 M.tm) := km.cell 9
            clear hb ko km
            go_wp2
            exact bodyPost_ret (v := .tuple #[.agg #[.int .i64 M.f, .int .i64 M.t, .int .u8 M.k, .int .i64 M.g, .int .i64 M.s, .int .i64 M.b, .int .i64 M.p, .string (S M.v), .int .i64 M.i, .int .i64 M.tm], .int .i64 0]) (by simp [results, Try.results23, go_sem, z0, z1, z2, z3, z4, z5, z6, z7, z8, z9]) rfl ⟨by rw [HE.out]; rfl, by repeat (first | with_reducible exact HB.out | with_reducible exact HB6.out | with_reducible refine set_o ?_ _ _)⟩
end Go.Proofs.Ytdodfpjejjjciaa
