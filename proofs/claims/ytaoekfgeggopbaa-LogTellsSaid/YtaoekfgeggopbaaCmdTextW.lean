/-
  command.text: the bytes of a command that may be; command.Write.
-/
import Derived.Test.YtaoekfgeggopbaaCmdText
namespace Go.Proofs.Ytaoekfgeggopbaa
open Go.RowKit
set_option maxHeartbeats 8000000
set_option maxRecDepth 100000
set_option linter.unusedVariables false
set_option linter.unusedSimpArgs false

namespace Cp
theorem bytes_0 {c : Cmd} (h : c.k = 0) : bytesC c = [UInt8.ofNat c.k.toNat] := by
  unfold bytesC
  rw [Nm.enc_lt (n := c.k.toNat) (by omega), h, fields0]
  simp [wrF, wr1, Nm.many]
theorem bytes_1 {c : Cmd} (h : c.k = 1) : bytesC c = ((((([UInt8.ofNat c.k.toNat] ++ Nm.many [c.mi]) ++ Nm.intsB c.gs) ++ Nm.many [c.mt]) ++ Nm.txt c.key) ++ Nm.txt c.body) := by
  unfold bytesC
  rw [Nm.enc_lt (n := c.k.toNat) (by omega), h, fields1]
  simp [wrF, wr1, Nm.many]
theorem bytes_2 {c : Cmd} (h : c.k = 2) : bytesC c = ([UInt8.ofNat c.k.toNat] ++ Nm.many [c.i, c.tm]) := by
  unfold bytesC
  rw [Nm.enc_lt (n := c.k.toNat) (by omega), h, fields2]
  simp [wrF, wr1, Nm.many]
theorem bytes_3 {c : Cmd} (h : c.k = 3) : bytesC c = ([UInt8.ofNat c.k.toNat] ++ Nm.intsB c.mem) := by
  unfold bytesC
  rw [Nm.enc_lt (n := c.k.toNat) (by omega), h, fields3]
  simp [wrF, wr1, Nm.many]
theorem bytes_4 {c : Cmd} (h : c.k = 4) : bytesC c = ([UInt8.ofNat c.k.toNat] ++ Nm.many [c.i, c.tp, c.who, c.n]) := by
  unfold bytesC
  rw [Nm.enc_lt (n := c.k.toNat) (by omega), h, fields4]
  simp [wrF, wr1, Nm.many]
theorem bytes_5 {c : Cmd} (h : c.k = 5) : bytesC c = ([UInt8.ofNat c.k.toNat] ++ Nm.many [c.i, c.tp, c.n]) := by
  unfold bytesC
  rw [Nm.enc_lt (n := c.k.toNat) (by omega), h, fields5]
  simp [wrF, wr1, Nm.many]
theorem bytes_6 {c : Cmd} (h : c.k = 6) : bytesC c = ([UInt8.ofNat c.k.toNat] ++ Nm.many [c.i, c.tp, c.n]) := by
  unfold bytesC
  rw [Nm.enc_lt (n := c.k.toNat) (by omega), h, fields6]
  simp [wrF, wr1, Nm.many]
end Cp
theorem len_add {l : List UInt8} {xs : List Int} {b : Nat} (h : l.length ≤ b) (hi : ∀ x ∈ xs, Nm.inR x = true) (hn : xs.length ≤ 4) : (l ++ Nm.many xs).length ≤ b + 24 := by
  have := Nm.many_len xs hi
  rw [List.length_append]
  omega
theorem len_ints {l : List UInt8} {xs : List Int} {b : Nat} (h : l.length ≤ b) (hi : ∀ x ∈ xs, Nm.inR x = true) (hn : xs.length ≤ 6) : (l ++ Nm.intsB xs).length ≤ b + 42 := by
  have := Cp.intsB_len (m := 6) hn (by omega) hi
  rw [List.length_append]
  omega
theorem len_put {l : List UInt8} {s : ByteArray} {b : Nat} (h : l.length ≤ b) (hs : s.size ≤ 100) : (l ++ Nm.txt s.data.toList).length ≤ b + 106 := by
  have h2 := Nm.enc_len6 (n := s.data.toList.length) (by rw [size_data]; omega)
  have := size_data s
  rw [List.length_append]
  unfold Nm.txt
  rw [List.length_append]
  omega
/-- One number's cell, as bytes. -/
theorem cb_kind {k : Int} (h : 0 ≤ k ∧ k ≤ 255) : cb [UInt8.ofNat k.toNat] = [.int .u8 k] := by
  have e : ((UInt8.ofNat k.toNat).toNat : Int) = k := by
    rw [UInt8.toNat_ofNat']
    have : k.toNat % 2 ^ 8 = k.toNat := Nat.mod_eq_of_lt (by omega)
    rw [this]
    omega
  unfold cb
  rw [List.map_cons, List.map_nil, e]

theorem ctext_any (D : HC) (w : World) (hD : CmdAt w w.heap.size D) (hm : Cp.mayC D.cmd = true) (U : ByteArray) (hU : S (Cp.bytesC D.cmd) = U) :
    Calls Try.prog 47 #[.agg #[.int .u8 D.k, .int .i64 D.mi, .slice D.GA D.Gn D.Gc, .int .i64 D.mt, .string D.key, .string D.body, .int .i64 D.i, .int .i64 D.tm, .slice D.MA D.Mn D.Mc, .int .i64 D.tp, .int .i64 D.who, .int .i64 D.n]] w fun e w' => e = .returned (.string U) ∧ Below w.heap.size w w' := by
  have hk := hD.kk
  obtain ⟨hk0, hk6, hok, -, hkey, hbody⟩ := Cp.mayC_cases hm
  have HOK := Lib.hid hok
  have HKEY : Hid (D.key.size ≤ 100) := by have := size_data D.key; have h2 : D.key.data.toList.length ≤ 16 := hkey; rw [Hid]; omega
  have HBODY : Hid (D.body.size ≤ 100) := by have := size_data D.body; have h2 : D.body.data.toList.length ≤ 64 := hbody; rw [Hid]; omega
  have HU := Lib.hid hU
  have hk6' : D.k ≤ 6 := hk6
  obtain ⟨W0, hW0⟩ : ∃ W0, (((w.alloc (.cells #[.int .u8 D.k, .int .i64 D.mi, .slice D.GA D.Gn D.Gc, .int .i64 D.mt, .string D.key, .string D.body, .int .i64 D.i, .int .i64 D.tm, .slice D.MA D.Mn D.Mc, .int .i64 D.tp, .int .i64 D.who, .int .i64 D.n] 26)).alloc (.cells #[.int .u8 D.k] 5)).alloc (.cells #[.slice (some ⟨w.heap.size + 1, 0, none⟩) 1 1] 46)) = W0 := ⟨_, rfl⟩
  have HW0 := Lib.hid hW0
  have S0 : Hid (CSt w w.heap.size (w.heap.size + 1 + 1) D [UInt8.ofNat D.k.toNat] W0) := by
    rw [Hid, ← hW0]
    refine ⟨.slice (some ⟨w.heap.size + 1, 0, none⟩) 1 1, Blk.newN (by simp) _ _, ?_, ((Blk.new w _ _).alloc _).alloc _, hD.below ?_, ?_, by omega⟩
    · rw [cb_kind hk]
      refine ⟨rfl, Or.inr ⟨w.heap.size + 1, 1, #[.int .u8 D.k], rfl, by omega, (Blk.newN (w := w.alloc (.cells #[.int .u8 D.k, .int .i64 D.mi, .slice D.GA D.Gn D.Gc, .int .i64 D.mt, .string D.key, .string D.body, .int .i64 D.i, .int .i64 D.tm, .slice D.MA D.Mn D.Mc, .int .i64 D.tp, .int .i64 D.who, .int .i64 D.n] 26)) (by simp) 5 #[.int .u8 D.k]).alloc _, Nat.le_refl _, by unfold maxLen; omega, rfl, rfl⟩⟩
    · exact (((Below.refl _ w).alloc (Nat.le_refl _) _).alloc (by simp) _).alloc (by simp; omega) _
    · exact (((Below.refl _ w).alloc (Nat.le_refl _) _).alloc (by simp) _).alloc (by simp; omega) _
  have Z0 : Hid (W0.heap.size = w.heap.size + 3) := by rw [Hid, ← hW0]; simp
  clear hD hm hok hkey hbody hU hk0 hk6 hW0
  rcases (by omega : D.k = 0 ∨ D.k = 1 ∨ D.k = 2 ∨ D.k = 3 ∨ D.k = 4 ∨ D.k = 5 ∨ D.k = 6) with h | h | h | h | h | h | h
  · have HK := Lib.hid h
    clear h
    have q1 : (D.k == 1) = false := beq_eq_false_iff_ne.2 (by have := HK.out; omega)
    have q2 : (D.k == 2) = false := beq_eq_false_iff_ne.2 (by have := HK.out; omega)
    have q3 : (D.k == 3) = false := beq_eq_false_iff_ne.2 (by have := HK.out; omega)
    have q4 : (D.k == 4) = false := beq_eq_false_iff_ne.2 (by have := HK.out; omega)
    have q5 : (D.k == 5) = false := beq_eq_false_iff_ne.2 (by have := HK.out; omega)
    have q6 : (D.k == 6) = false := beq_eq_false_iff_ne.2 (by have := HK.out; omega)
    have EB : Hid (S [UInt8.ofNat D.k.toNat] = U) := by rw [Hid, ← HU.out, Cp.bytes_0 (c := D.cmd) HK.out]; rfl
    have okf : ∀ f ∈ Cp.fieldsC D.k, Cp.okF D.cmd f := HOK.out
    rw [HK.out, Cp.fields0] at okf
    have OKF := Lib.hid okf
    clear okf HOK HU
    obtain ⟨l0, hl0⟩ : ∃ l, [UInt8.ofNat D.k.toNat] = l := ⟨_, rfl⟩
    have L0 : Hid (l0.length ≤ 1) := by rw [Hid, ← hl0]; exact Nat.le_refl 1
    rw [hl0] at S0 EB
    clear hl0
    go_enter Try.func47, Try.ntmps47
    obtain ⟨v, q1, q2, -, -, -, -⟩ := S0.out
    obtain ⟨A, c, rfl, -, -, -⟩ := own_form q2
    have cx := q1.cell 0
    have hcv := run_conv (P := Try.prog) Try.underlying46 Try.underlying5 Try.underlying9 (c := c) (Reads.of_own q2)
    rw [EB.out] at hcv
    rw [← HW0.out] at hcv cx
    clear q1 q2
    go_wp2
    go_ret
    rw [HW0.out]
    exact ⟨rfl, S0.out.bel⟩
  · have HK := Lib.hid h
    clear h
    have q1 : (D.k == 1) = true := beq_iff_eq.2 (by have := HK.out; omega)
    have q2 : (D.k == 2) = false := beq_eq_false_iff_ne.2 (by have := HK.out; omega)
    have q3 : (D.k == 3) = false := beq_eq_false_iff_ne.2 (by have := HK.out; omega)
    have q4 : (D.k == 4) = false := beq_eq_false_iff_ne.2 (by have := HK.out; omega)
    have q5 : (D.k == 5) = false := beq_eq_false_iff_ne.2 (by have := HK.out; omega)
    have q6 : (D.k == 6) = false := beq_eq_false_iff_ne.2 (by have := HK.out; omega)
    have EB : Hid (S ((((([UInt8.ofNat D.k.toNat] ++ Nm.many [D.mi]) ++ Nm.intsB D.gs) ++ Nm.many [D.mt]) ++ Nm.txt D.key.data.toList) ++ Nm.txt D.body.data.toList) = U) := by rw [Hid, ← HU.out, Cp.bytes_1 (c := D.cmd) HK.out]; rfl
    have okf : ∀ f ∈ Cp.fieldsC D.k, Cp.okF D.cmd f := HOK.out
    rw [HK.out, Cp.fields1] at okf
    have OKF := Lib.hid okf
    clear okf HOK HU
    obtain ⟨l0, hl0⟩ : ∃ l, [UInt8.ofNat D.k.toNat] = l := ⟨_, rfl⟩
    have L0 : Hid (l0.length ≤ 1) := by rw [Hid, ← hl0]; exact Nat.le_refl 1
    rw [hl0] at S0 EB
    clear hl0
    go_enter Try.func47, Try.ntmps47
    go_wp2_with fail
    rw [HW0.out]
    have IN0 : Hid (∀ x ∈ [D.mi], Nm.inR x = true) := by
      intro x hx
      simp only [List.mem_cons, List.not_mem_nil, or_false] at hx
      rcases hx with rfl
      · exact decide_eq_true (OKF.out .mi (by simp))
    have SA0 := Lib.hid (S0.out.below ((Below.refl W0.heap.size W0).alloc (Nat.le_refl _) (.cells #[.int .i64 D.mi] 3)))
    have BI0 : Hid (Blk (W0.alloc (.cells #[.int .i64 D.mi] 3)) (w.heap.size + 1 + 1 + 1) 3 #[.int .i64 D.mi]) := Blk.newN (by have := Z0.out; omega) _ _
    refine (cadd_any w w.heap.size (w.heap.size + 1 + 1) D l0 (w.heap.size + 1 + 1 + 1) #[.int .i64 D.mi] [D.mi] 1 _ SA0.out BI0.out rfl rfl IN0.out (by have := L0.out; omega) (by omega)).mono ?_
    rintro e W1 ⟨rfl, hs, hkp⟩
    have L1 := Lib.hid (len_add L0.out IN0.out (by simp))
    obtain ⟨l1, hl1⟩ : ∃ l, l0 ++ Nm.many [D.mi] = l := ⟨_, rfl⟩
    rw [hl1] at hs L1 EB
    have S1 := Lib.hid hs
    have Z1 : Hid (w.heap.size + 3 ≤ W1.heap.size) := by
      have hbx := S1.out
      obtain ⟨v, h1, -⟩ := hbx
      have := h1.lt
      rw [Hid]
      omega
    clear hs hkp hl1
    have c0 := S1.out.box.cell 0
    have c1 := S1.out.box.cell 1
    have c2 := S1.out.box.cell 2
    have c3 := S1.out.box.cell 3
    have c4 := S1.out.box.cell 4
    have c5 := S1.out.box.cell 5
    have c6 := S1.out.box.cell 6
    have c7 := S1.out.box.cell 7
    have c8 := S1.out.box.cell 8
    have c9 := S1.out.box.cell 9
    have c10 := S1.out.box.cell 10
    have c11 := S1.out.box.cell 11
    have zz := Z1.out
    go_wp2_with fail
    have IN1 : Hid (D.gs.length ≤ 4 ∧ ∀ x ∈ D.gs, Nm.inR x = true) := OKF.out .gs (by simp)
    have LN1 : Hid (D.gs.length = D.Gn) := S1.out.cmd.rg.len_i
    clear c0 c1 c2 c3 c4 c5 c6 c7 c8 c9 c10 c11
    refine (cints_any w w.heap.size (w.heap.size + 1 + 1) D l1 D.GA D.Gn D.Gc w.heap.size D.gs _ S1.out S1.out.cmd.rg S1.out.bel.size IN1.out.2 (by have := L1.out; omega) (by have h1 := LN1.out; have h2 : D.gs.length ≤ 4 := IN1.out.1; omega)).mono ?_
    rintro e W2 ⟨rfl, hs, hkp⟩
    have L2 := Lib.hid (len_ints L1.out IN1.out.2 (by have h2 : D.gs.length ≤ 4 := IN1.out.1; omega))
    obtain ⟨l2, hl2⟩ : ∃ l, l1 ++ Nm.intsB D.gs = l := ⟨_, rfl⟩
    rw [hl2] at hs L2 EB
    have S2 := Lib.hid hs
    have Z2 : Hid (w.heap.size + 3 ≤ W2.heap.size) := by
      have hbx := S2.out
      obtain ⟨v, h1, -⟩ := hbx
      have := h1.lt
      rw [Hid]
      omega
    clear hs hkp hl2
    have c0 := S2.out.box.cell 0
    have c1 := S2.out.box.cell 1
    have c2 := S2.out.box.cell 2
    have c3 := S2.out.box.cell 3
    have c4 := S2.out.box.cell 4
    have c5 := S2.out.box.cell 5
    have c6 := S2.out.box.cell 6
    have c7 := S2.out.box.cell 7
    have c8 := S2.out.box.cell 8
    have c9 := S2.out.box.cell 9
    have c10 := S2.out.box.cell 10
    have c11 := S2.out.box.cell 11
    have zz := Z2.out
    go_wp2_with fail
    have IN2 : Hid (∀ x ∈ [D.mt], Nm.inR x = true) := by
      intro x hx
      simp only [List.mem_cons, List.not_mem_nil, or_false] at hx
      rcases hx with rfl
      · exact decide_eq_true (OKF.out .mt (by simp))
    have SA2 := Lib.hid (S2.out.below ((Below.refl W2.heap.size W2).alloc (Nat.le_refl _) (.cells #[.int .i64 D.mt] 3)))
    have BI2 : Hid (Blk (W2.alloc (.cells #[.int .i64 D.mt] 3)) W2.heap.size 3 #[.int .i64 D.mt]) := Blk.newN rfl _ _
    clear c0 c1 c2 c3 c4 c5 c6 c7 c8 c9 c10 c11
    refine (cadd_any w w.heap.size (w.heap.size + 1 + 1) D l2 W2.heap.size #[.int .i64 D.mt] [D.mt] 1 _ SA2.out BI2.out rfl rfl IN2.out (by have := L2.out; omega) (by omega)).mono ?_
    rintro e W3 ⟨rfl, hs, hkp⟩
    have L3 := Lib.hid (len_add L2.out IN2.out (by simp))
    obtain ⟨l3, hl3⟩ : ∃ l, l2 ++ Nm.many [D.mt] = l := ⟨_, rfl⟩
    rw [hl3] at hs L3 EB
    have S3 := Lib.hid hs
    have Z3 : Hid (w.heap.size + 3 ≤ W3.heap.size) := by
      have hbx := S3.out
      obtain ⟨v, h1, -⟩ := hbx
      have := h1.lt
      rw [Hid]
      omega
    clear hs hkp hl3
    have c0 := S3.out.box.cell 0
    have c1 := S3.out.box.cell 1
    have c2 := S3.out.box.cell 2
    have c3 := S3.out.box.cell 3
    have c4 := S3.out.box.cell 4
    have c5 := S3.out.box.cell 5
    have c6 := S3.out.box.cell 6
    have c7 := S3.out.box.cell 7
    have c8 := S3.out.box.cell 8
    have c9 := S3.out.box.cell 9
    have c10 := S3.out.box.cell 10
    have c11 := S3.out.box.cell 11
    have zz := Z3.out
    go_wp2_with fail
    clear c0 c1 c2 c3 c4 c5 c6 c7 c8 c9 c10 c11
    refine (cput_any w w.heap.size (w.heap.size + 1 + 1) D l3 D.key _ S3.out HKEY.out (by have := L3.out; omega)).mono ?_
    rintro e W4 ⟨rfl, hs, hkp⟩
    have L4 := Lib.hid (len_put L3.out HKEY.out)
    obtain ⟨l4, hl4⟩ : ∃ l, l3 ++ Nm.txt D.key.data.toList = l := ⟨_, rfl⟩
    rw [hl4] at hs L4 EB
    have S4 := Lib.hid hs
    have Z4 : Hid (w.heap.size + 3 ≤ W4.heap.size) := by
      have hbx := S4.out
      obtain ⟨v, h1, -⟩ := hbx
      have := h1.lt
      rw [Hid]
      omega
    clear hs hkp hl4
    have c0 := S4.out.box.cell 0
    have c1 := S4.out.box.cell 1
    have c2 := S4.out.box.cell 2
    have c3 := S4.out.box.cell 3
    have c4 := S4.out.box.cell 4
    have c5 := S4.out.box.cell 5
    have c6 := S4.out.box.cell 6
    have c7 := S4.out.box.cell 7
    have c8 := S4.out.box.cell 8
    have c9 := S4.out.box.cell 9
    have c10 := S4.out.box.cell 10
    have c11 := S4.out.box.cell 11
    have zz := Z4.out
    go_wp2_with fail
    clear c0 c1 c2 c3 c4 c5 c6 c7 c8 c9 c10 c11
    refine (cput_any w w.heap.size (w.heap.size + 1 + 1) D l4 D.body _ S4.out HBODY.out (by have := L4.out; omega)).mono ?_
    rintro e W5 ⟨rfl, hs, hkp⟩
    have L5 := Lib.hid (len_put L4.out HBODY.out)
    obtain ⟨l5, hl5⟩ : ∃ l, l4 ++ Nm.txt D.body.data.toList = l := ⟨_, rfl⟩
    rw [hl5] at hs L5 EB
    have S5 := Lib.hid hs
    have Z5 : Hid (w.heap.size + 3 ≤ W5.heap.size) := by
      have hbx := S5.out
      obtain ⟨v, h1, -⟩ := hbx
      have := h1.lt
      rw [Hid]
      omega
    clear hs hkp hl5
    obtain ⟨v, q1, q2, -, -, -, -⟩ := S5.out
    obtain ⟨A, c, rfl, -, -, -⟩ := own_form q2
    have cx := q1.cell 0
    have hcv := run_conv (P := Try.prog) Try.underlying46 Try.underlying5 Try.underlying9 (c := c) (Reads.of_own q2)
    rw [EB.out] at hcv
    clear q1 q2
    go_wp2
    go_ret
    exact ⟨rfl, S5.out.bel⟩
  · have HK := Lib.hid h
    clear h
    have q1 : (D.k == 1) = false := beq_eq_false_iff_ne.2 (by have := HK.out; omega)
    have q2 : (D.k == 2) = true := beq_iff_eq.2 (by have := HK.out; omega)
    have q3 : (D.k == 3) = false := beq_eq_false_iff_ne.2 (by have := HK.out; omega)
    have q4 : (D.k == 4) = false := beq_eq_false_iff_ne.2 (by have := HK.out; omega)
    have q5 : (D.k == 5) = false := beq_eq_false_iff_ne.2 (by have := HK.out; omega)
    have q6 : (D.k == 6) = false := beq_eq_false_iff_ne.2 (by have := HK.out; omega)
    have EB : Hid (S ([UInt8.ofNat D.k.toNat] ++ Nm.many [D.i, D.tm]) = U) := by rw [Hid, ← HU.out, Cp.bytes_2 (c := D.cmd) HK.out]; rfl
    have okf : ∀ f ∈ Cp.fieldsC D.k, Cp.okF D.cmd f := HOK.out
    rw [HK.out, Cp.fields2] at okf
    have OKF := Lib.hid okf
    clear okf HOK HU
    obtain ⟨l0, hl0⟩ : ∃ l, [UInt8.ofNat D.k.toNat] = l := ⟨_, rfl⟩
    have L0 : Hid (l0.length ≤ 1) := by rw [Hid, ← hl0]; exact Nat.le_refl 1
    rw [hl0] at S0 EB
    clear hl0
    go_enter Try.func47, Try.ntmps47
    go_wp2_with fail
    rw [HW0.out]
    have IN0 : Hid (∀ x ∈ [D.i, D.tm], Nm.inR x = true) := by
      intro x hx
      simp only [List.mem_cons, List.not_mem_nil, or_false] at hx
      rcases hx with rfl | rfl
      · exact decide_eq_true (OKF.out .i (by simp))
      · exact decide_eq_true (OKF.out .tm (by simp))
    have SA0 := Lib.hid (S0.out.below ((Below.refl W0.heap.size W0).alloc (Nat.le_refl _) (.cells #[.int .i64 D.i, .int .i64 D.tm] 3)))
    have BI0 : Hid (Blk (W0.alloc (.cells #[.int .i64 D.i, .int .i64 D.tm] 3)) (w.heap.size + 1 + 1 + 1) 3 #[.int .i64 D.i, .int .i64 D.tm]) := Blk.newN (by have := Z0.out; omega) _ _
    refine (cadd_any w w.heap.size (w.heap.size + 1 + 1) D l0 (w.heap.size + 1 + 1 + 1) #[.int .i64 D.i, .int .i64 D.tm] [D.i, D.tm] 2 _ SA0.out BI0.out rfl rfl IN0.out (by have := L0.out; omega) (by omega)).mono ?_
    rintro e W1 ⟨rfl, hs, hkp⟩
    have L1 := Lib.hid (len_add L0.out IN0.out (by simp))
    obtain ⟨l1, hl1⟩ : ∃ l, l0 ++ Nm.many [D.i, D.tm] = l := ⟨_, rfl⟩
    rw [hl1] at hs L1 EB
    have S1 := Lib.hid hs
    have Z1 : Hid (w.heap.size + 3 ≤ W1.heap.size) := by
      have hbx := S1.out
      obtain ⟨v, h1, -⟩ := hbx
      have := h1.lt
      rw [Hid]
      omega
    clear hs hkp hl1
    obtain ⟨v, q1, q2, -, -, -, -⟩ := S1.out
    obtain ⟨A, c, rfl, -, -, -⟩ := own_form q2
    have cx := q1.cell 0
    have hcv := run_conv (P := Try.prog) Try.underlying46 Try.underlying5 Try.underlying9 (c := c) (Reads.of_own q2)
    rw [EB.out] at hcv
    clear q1 q2
    go_wp2
    go_ret
    exact ⟨rfl, S1.out.bel⟩
  · have HK := Lib.hid h
    clear h
    have q1 : (D.k == 1) = false := beq_eq_false_iff_ne.2 (by have := HK.out; omega)
    have q2 : (D.k == 2) = false := beq_eq_false_iff_ne.2 (by have := HK.out; omega)
    have q3 : (D.k == 3) = true := beq_iff_eq.2 (by have := HK.out; omega)
    have q4 : (D.k == 4) = false := beq_eq_false_iff_ne.2 (by have := HK.out; omega)
    have q5 : (D.k == 5) = false := beq_eq_false_iff_ne.2 (by have := HK.out; omega)
    have q6 : (D.k == 6) = false := beq_eq_false_iff_ne.2 (by have := HK.out; omega)
    have EB : Hid (S ([UInt8.ofNat D.k.toNat] ++ Nm.intsB D.mem) = U) := by rw [Hid, ← HU.out, Cp.bytes_3 (c := D.cmd) HK.out]; rfl
    have okf : ∀ f ∈ Cp.fieldsC D.k, Cp.okF D.cmd f := HOK.out
    rw [HK.out, Cp.fields3] at okf
    have OKF := Lib.hid okf
    clear okf HOK HU
    obtain ⟨l0, hl0⟩ : ∃ l, [UInt8.ofNat D.k.toNat] = l := ⟨_, rfl⟩
    have L0 : Hid (l0.length ≤ 1) := by rw [Hid, ← hl0]; exact Nat.le_refl 1
    rw [hl0] at S0 EB
    clear hl0
    go_enter Try.func47, Try.ntmps47
    go_wp2_with fail
    rw [HW0.out]
    have IN0 : Hid (D.mem.length ≤ 6 ∧ ∀ x ∈ D.mem, Nm.inR x = true) := OKF.out .mem (by simp)
    have LN0 : Hid (D.mem.length = D.Mn) := S0.out.cmd.rm.len_i
    refine (cints_any w w.heap.size (w.heap.size + 1 + 1) D l0 D.MA D.Mn D.Mc w.heap.size D.mem _ S0.out S0.out.cmd.rm S0.out.bel.size IN0.out.2 (by have := L0.out; omega) (by have h1 := LN0.out; have h2 : D.mem.length ≤ 6 := IN0.out.1; omega)).mono ?_
    rintro e W1 ⟨rfl, hs, hkp⟩
    have L1 := Lib.hid (len_ints L0.out IN0.out.2 (by have h2 : D.mem.length ≤ 6 := IN0.out.1; omega))
    obtain ⟨l1, hl1⟩ : ∃ l, l0 ++ Nm.intsB D.mem = l := ⟨_, rfl⟩
    rw [hl1] at hs L1 EB
    have S1 := Lib.hid hs
    have Z1 : Hid (w.heap.size + 3 ≤ W1.heap.size) := by
      have hbx := S1.out
      obtain ⟨v, h1, -⟩ := hbx
      have := h1.lt
      rw [Hid]
      omega
    clear hs hkp hl1
    obtain ⟨v, q1, q2, -, -, -, -⟩ := S1.out
    obtain ⟨A, c, rfl, -, -, -⟩ := own_form q2
    have cx := q1.cell 0
    have hcv := run_conv (P := Try.prog) Try.underlying46 Try.underlying5 Try.underlying9 (c := c) (Reads.of_own q2)
    rw [EB.out] at hcv
    clear q1 q2
    go_wp2
    go_ret
    exact ⟨rfl, S1.out.bel⟩
  · have HK := Lib.hid h
    clear h
    have q1 : (D.k == 1) = false := beq_eq_false_iff_ne.2 (by have := HK.out; omega)
    have q2 : (D.k == 2) = false := beq_eq_false_iff_ne.2 (by have := HK.out; omega)
    have q3 : (D.k == 3) = false := beq_eq_false_iff_ne.2 (by have := HK.out; omega)
    have q4 : (D.k == 4) = true := beq_iff_eq.2 (by have := HK.out; omega)
    have q5 : (D.k == 5) = false := beq_eq_false_iff_ne.2 (by have := HK.out; omega)
    have q6 : (D.k == 6) = false := beq_eq_false_iff_ne.2 (by have := HK.out; omega)
    have EB : Hid (S ([UInt8.ofNat D.k.toNat] ++ Nm.many [D.i, D.tp, D.who, D.n]) = U) := by rw [Hid, ← HU.out, Cp.bytes_4 (c := D.cmd) HK.out]; rfl
    have okf : ∀ f ∈ Cp.fieldsC D.k, Cp.okF D.cmd f := HOK.out
    rw [HK.out, Cp.fields4] at okf
    have OKF := Lib.hid okf
    clear okf HOK HU
    obtain ⟨l0, hl0⟩ : ∃ l, [UInt8.ofNat D.k.toNat] = l := ⟨_, rfl⟩
    have L0 : Hid (l0.length ≤ 1) := by rw [Hid, ← hl0]; exact Nat.le_refl 1
    rw [hl0] at S0 EB
    clear hl0
    go_enter Try.func47, Try.ntmps47
    go_wp2_with fail
    rw [HW0.out]
    have IN0 : Hid (∀ x ∈ [D.i, D.tp, D.who, D.n], Nm.inR x = true) := by
      intro x hx
      simp only [List.mem_cons, List.not_mem_nil, or_false] at hx
      rcases hx with rfl | rfl | rfl | rfl
      · exact decide_eq_true (OKF.out .i (by simp))
      · exact decide_eq_true (OKF.out .tp (by simp))
      · exact decide_eq_true (OKF.out .who (by simp))
      · exact decide_eq_true (OKF.out .n (by simp))
    have SA0 := Lib.hid (S0.out.below ((Below.refl W0.heap.size W0).alloc (Nat.le_refl _) (.cells #[.int .i64 D.i, .int .i64 D.tp, .int .i64 D.who, .int .i64 D.n] 3)))
    have BI0 : Hid (Blk (W0.alloc (.cells #[.int .i64 D.i, .int .i64 D.tp, .int .i64 D.who, .int .i64 D.n] 3)) (w.heap.size + 1 + 1 + 1) 3 #[.int .i64 D.i, .int .i64 D.tp, .int .i64 D.who, .int .i64 D.n]) := Blk.newN (by have := Z0.out; omega) _ _
    refine (cadd_any w w.heap.size (w.heap.size + 1 + 1) D l0 (w.heap.size + 1 + 1 + 1) #[.int .i64 D.i, .int .i64 D.tp, .int .i64 D.who, .int .i64 D.n] [D.i, D.tp, D.who, D.n] 4 _ SA0.out BI0.out rfl rfl IN0.out (by have := L0.out; omega) (by omega)).mono ?_
    rintro e W1 ⟨rfl, hs, hkp⟩
    have L1 := Lib.hid (len_add L0.out IN0.out (by simp))
    obtain ⟨l1, hl1⟩ : ∃ l, l0 ++ Nm.many [D.i, D.tp, D.who, D.n] = l := ⟨_, rfl⟩
    rw [hl1] at hs L1 EB
    have S1 := Lib.hid hs
    have Z1 : Hid (w.heap.size + 3 ≤ W1.heap.size) := by
      have hbx := S1.out
      obtain ⟨v, h1, -⟩ := hbx
      have := h1.lt
      rw [Hid]
      omega
    clear hs hkp hl1
    obtain ⟨v, q1, q2, -, -, -, -⟩ := S1.out
    obtain ⟨A, c, rfl, -, -, -⟩ := own_form q2
    have cx := q1.cell 0
    have hcv := run_conv (P := Try.prog) Try.underlying46 Try.underlying5 Try.underlying9 (c := c) (Reads.of_own q2)
    rw [EB.out] at hcv
    clear q1 q2
    go_wp2
    go_ret
    exact ⟨rfl, S1.out.bel⟩
  · have HK := Lib.hid h
    clear h
    have q1 : (D.k == 1) = false := beq_eq_false_iff_ne.2 (by have := HK.out; omega)
    have q2 : (D.k == 2) = false := beq_eq_false_iff_ne.2 (by have := HK.out; omega)
    have q3 : (D.k == 3) = false := beq_eq_false_iff_ne.2 (by have := HK.out; omega)
    have q4 : (D.k == 4) = false := beq_eq_false_iff_ne.2 (by have := HK.out; omega)
    have q5 : (D.k == 5) = true := beq_iff_eq.2 (by have := HK.out; omega)
    have q6 : (D.k == 6) = false := beq_eq_false_iff_ne.2 (by have := HK.out; omega)
    have EB : Hid (S ([UInt8.ofNat D.k.toNat] ++ Nm.many [D.i, D.tp, D.n]) = U) := by rw [Hid, ← HU.out, Cp.bytes_5 (c := D.cmd) HK.out]; rfl
    have okf : ∀ f ∈ Cp.fieldsC D.k, Cp.okF D.cmd f := HOK.out
    rw [HK.out, Cp.fields5] at okf
    have OKF := Lib.hid okf
    clear okf HOK HU
    obtain ⟨l0, hl0⟩ : ∃ l, [UInt8.ofNat D.k.toNat] = l := ⟨_, rfl⟩
    have L0 : Hid (l0.length ≤ 1) := by rw [Hid, ← hl0]; exact Nat.le_refl 1
    rw [hl0] at S0 EB
    clear hl0
    go_enter Try.func47, Try.ntmps47
    go_wp2_with fail
    rw [HW0.out]
    have IN0 : Hid (∀ x ∈ [D.i, D.tp, D.n], Nm.inR x = true) := by
      intro x hx
      simp only [List.mem_cons, List.not_mem_nil, or_false] at hx
      rcases hx with rfl | rfl | rfl
      · exact decide_eq_true (OKF.out .i (by simp))
      · exact decide_eq_true (OKF.out .tp (by simp))
      · exact decide_eq_true (OKF.out .n (by simp))
    have SA0 := Lib.hid (S0.out.below ((Below.refl W0.heap.size W0).alloc (Nat.le_refl _) (.cells #[.int .i64 D.i, .int .i64 D.tp, .int .i64 D.n] 3)))
    have BI0 : Hid (Blk (W0.alloc (.cells #[.int .i64 D.i, .int .i64 D.tp, .int .i64 D.n] 3)) (w.heap.size + 1 + 1 + 1) 3 #[.int .i64 D.i, .int .i64 D.tp, .int .i64 D.n]) := Blk.newN (by have := Z0.out; omega) _ _
    refine (cadd_any w w.heap.size (w.heap.size + 1 + 1) D l0 (w.heap.size + 1 + 1 + 1) #[.int .i64 D.i, .int .i64 D.tp, .int .i64 D.n] [D.i, D.tp, D.n] 3 _ SA0.out BI0.out rfl rfl IN0.out (by have := L0.out; omega) (by omega)).mono ?_
    rintro e W1 ⟨rfl, hs, hkp⟩
    have L1 := Lib.hid (len_add L0.out IN0.out (by simp))
    obtain ⟨l1, hl1⟩ : ∃ l, l0 ++ Nm.many [D.i, D.tp, D.n] = l := ⟨_, rfl⟩
    rw [hl1] at hs L1 EB
    have S1 := Lib.hid hs
    have Z1 : Hid (w.heap.size + 3 ≤ W1.heap.size) := by
      have hbx := S1.out
      obtain ⟨v, h1, -⟩ := hbx
      have := h1.lt
      rw [Hid]
      omega
    clear hs hkp hl1
    obtain ⟨v, q1, q2, -, -, -, -⟩ := S1.out
    obtain ⟨A, c, rfl, -, -, -⟩ := own_form q2
    have cx := q1.cell 0
    have hcv := run_conv (P := Try.prog) Try.underlying46 Try.underlying5 Try.underlying9 (c := c) (Reads.of_own q2)
    rw [EB.out] at hcv
    clear q1 q2
    go_wp2
    go_ret
    exact ⟨rfl, S1.out.bel⟩
  · have HK := Lib.hid h
    clear h
    have q1 : (D.k == 1) = false := beq_eq_false_iff_ne.2 (by have := HK.out; omega)
    have q2 : (D.k == 2) = false := beq_eq_false_iff_ne.2 (by have := HK.out; omega)
    have q3 : (D.k == 3) = false := beq_eq_false_iff_ne.2 (by have := HK.out; omega)
    have q4 : (D.k == 4) = false := beq_eq_false_iff_ne.2 (by have := HK.out; omega)
    have q5 : (D.k == 5) = false := beq_eq_false_iff_ne.2 (by have := HK.out; omega)
    have q6 : (D.k == 6) = true := beq_iff_eq.2 (by have := HK.out; omega)
    have EB : Hid (S ([UInt8.ofNat D.k.toNat] ++ Nm.many [D.i, D.tp, D.n]) = U) := by rw [Hid, ← HU.out, Cp.bytes_6 (c := D.cmd) HK.out]; rfl
    have okf : ∀ f ∈ Cp.fieldsC D.k, Cp.okF D.cmd f := HOK.out
    rw [HK.out, Cp.fields6] at okf
    have OKF := Lib.hid okf
    clear okf HOK HU
    obtain ⟨l0, hl0⟩ : ∃ l, [UInt8.ofNat D.k.toNat] = l := ⟨_, rfl⟩
    have L0 : Hid (l0.length ≤ 1) := by rw [Hid, ← hl0]; exact Nat.le_refl 1
    rw [hl0] at S0 EB
    clear hl0
    go_enter Try.func47, Try.ntmps47
    go_wp2_with fail
    rw [HW0.out]
    have IN0 : Hid (∀ x ∈ [D.i, D.tp, D.n], Nm.inR x = true) := by
      intro x hx
      simp only [List.mem_cons, List.not_mem_nil, or_false] at hx
      rcases hx with rfl | rfl | rfl
      · exact decide_eq_true (OKF.out .i (by simp))
      · exact decide_eq_true (OKF.out .tp (by simp))
      · exact decide_eq_true (OKF.out .n (by simp))
    have SA0 := Lib.hid (S0.out.below ((Below.refl W0.heap.size W0).alloc (Nat.le_refl _) (.cells #[.int .i64 D.i, .int .i64 D.tp, .int .i64 D.n] 3)))
    have BI0 : Hid (Blk (W0.alloc (.cells #[.int .i64 D.i, .int .i64 D.tp, .int .i64 D.n] 3)) (w.heap.size + 1 + 1 + 1) 3 #[.int .i64 D.i, .int .i64 D.tp, .int .i64 D.n]) := Blk.newN (by have := Z0.out; omega) _ _
    refine (cadd_any w w.heap.size (w.heap.size + 1 + 1) D l0 (w.heap.size + 1 + 1 + 1) #[.int .i64 D.i, .int .i64 D.tp, .int .i64 D.n] [D.i, D.tp, D.n] 3 _ SA0.out BI0.out rfl rfl IN0.out (by have := L0.out; omega) (by omega)).mono ?_
    rintro e W1 ⟨rfl, hs, hkp⟩
    have L1 := Lib.hid (len_add L0.out IN0.out (by simp))
    obtain ⟨l1, hl1⟩ : ∃ l, l0 ++ Nm.many [D.i, D.tp, D.n] = l := ⟨_, rfl⟩
    rw [hl1] at hs L1 EB
    have S1 := Lib.hid hs
    have Z1 : Hid (w.heap.size + 3 ≤ W1.heap.size) := by
      have hbx := S1.out
      obtain ⟨v, h1, -⟩ := hbx
      have := h1.lt
      rw [Hid]
      omega
    clear hs hkp hl1
    obtain ⟨v, q1, q2, -, -, -, -⟩ := S1.out
    obtain ⟨A, c, rfl, -, -, -⟩ := own_form q2
    have cx := q1.cell 0
    have hcv := run_conv (P := Try.prog) Try.underlying46 Try.underlying5 Try.underlying9 (c := c) (Reads.of_own q2)
    rw [EB.out] at hcv
    clear q1 q2
    go_wp2
    go_ret
    exact ⟨rfl, S1.out.bel⟩

/-- What Write returns. -/
def writeV (D : HC) (e : Ending) : Prop := ∃ (b : Bool) (U : ByteArray), Cp.mayC D.cmd = b ∧ (b = true → U = S (Cp.bytesC D.cmd)) ∧ (b = false → U = ⟨#[]⟩) ∧ e = .returned (.tuple #[.string U, .int .i64 (errK b)])
theorem cwrite_any (D : HC) (w : World) (hD : CmdAt w w.heap.size D) (b : Bool) (hb : Cp.mayC D.cmd = b) (U : ByteArray) (hU : (if b = true then S (Cp.bytesC D.cmd) else ⟨#[]⟩) = U) :
    Calls Try.prog 14 #[.agg #[.int .u8 D.k, .int .i64 D.mi, .slice D.GA D.Gn D.Gc, .int .i64 D.mt, .string D.key, .string D.body, .int .i64 D.i, .int .i64 D.tm, .slice D.MA D.Mn D.Mc, .int .i64 D.tp, .int .i64 D.who, .int .i64 D.n]] w fun e w' => e = .returned (.tuple #[.string U, .int .i64 (errK b)]) ∧ Below w.heap.size w w' := by
  have B0 := Lib.hid ((Below.refl _ w).alloc (Nat.le_refl w.heap.size) (.cells #[.int .u8 D.k, .int .i64 D.mi, .slice D.GA D.Gn D.Gc, .int .i64 D.mt, .string D.key, .string D.body, .int .i64 D.i, .int .i64 D.tm, .slice D.MA D.Mn D.Mc, .int .i64 D.tp, .int .i64 D.who, .int .i64 D.n] 26))
  have HD0 := Lib.hid (hD.alloc (.cells #[.int .u8 D.k, .int .i64 D.mi, .slice D.GA D.Gn D.Gc, .int .i64 D.mt, .string D.key, .string D.body, .int .i64 D.i, .int .i64 D.tm, .slice D.MA D.Mn D.Mc, .int .i64 D.tp, .int .i64 D.who, .int .i64 D.n] 26))
  have HB := Lib.hid hb
  have HU := Lib.hid hU
  have K0 := Lib.hid (Blk.new w 26 #[.int .u8 D.k, .int .i64 D.mi, .slice D.GA D.Gn D.Gc, .int .i64 D.mt, .string D.key, .string D.body, .int .i64 D.i, .int .i64 D.tm, .slice D.MA D.Mn D.Mc, .int .i64 D.tp, .int .i64 D.who, .int .i64 D.n])
  clear hD hb hU
  have c0 := K0.out.cell 0
  have c1 := K0.out.cell 1
  have c2 := K0.out.cell 2
  have c3 := K0.out.cell 3
  have c4 := K0.out.cell 4
  have c5 := K0.out.cell 5
  have c6 := K0.out.cell 6
  have c7 := K0.out.cell 7
  have c8 := K0.out.cell 8
  have c9 := K0.out.cell 9
  have c10 := K0.out.cell 10
  have c11 := K0.out.cell 11
  go_enter Try.func14, Try.ntmps14
  go_wp2_with fail
  refine (ccheck_any D _ HD0.out b HB.out).mono ?_
  rintro e w1 ⟨rfl, hb⟩
  have B1 := Lib.hid (then_ B0.out hb)
  have HD1 := Lib.hid (HD0.out.up hb)
  have K1 := Lib.hid (K0.out.below hb K0.out.lt)
  clear hb c0 c1 c2 c3 c4 c5 c6 c7 c8 c9 c10 c11
  have c0 := K1.out.cell 0
  have c1 := K1.out.cell 1
  have c2 := K1.out.cell 2
  have c3 := K1.out.cell 3
  have c4 := K1.out.cell 4
  have c5 := K1.out.cell 5
  have c6 := K1.out.cell 6
  have c7 := K1.out.cell 7
  have c8 := K1.out.cell 8
  have c9 := K1.out.cell 9
  have c10 := K1.out.cell 10
  have c11 := K1.out.cell 11
  cases b with
  | false =>
    have hu : U = ⟨#[]⟩ := HU.out.symm
    subst hu
    rw [show errK false = 120 from rfl]
    go_wp2
    go_ret2
    exact ⟨rfl, B1.out⟩
  | true =>
    rw [show errK true = 0 from rfl]
    go_wp2_with fail
    refine (ctext_any D _ HD1.out HB.out U HU.out).mono ?_
    rintro e w2 ⟨rfl, hb⟩
    have B2 := Lib.hid (B1.out.trans (hb.mono B1.out.size))
    clear hb c0 c1 c2 c3 c4 c5 c6 c7 c8 c9 c10 c11
    go_wp2
    go_ret2
    exact ⟨rfl, B2.out⟩
end Go.Proofs.Ytaoekfgeggopbaa
