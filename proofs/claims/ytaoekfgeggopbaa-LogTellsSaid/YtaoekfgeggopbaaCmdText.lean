/-
  command.text's closures: what they add to the bytes that were written so far.
-/
import Derived.Test.YtaoekfgeggopbaaCmdCk
import Derived.Test.YtaoekfgeggopbaaNumPut
import Derived.Test.YtaoekfgeggopbaaNumIntsW
import Derived.Test.YtaoekfgeggopbaaConv
namespace Go.Proofs.Ytaoekfgeggopbaa
open Go.RowKit
set_option maxHeartbeats 8000000
set_option maxRecDepth 100000
set_option linter.unusedVariables false
set_option linter.unusedSimpArgs false

/-- What else lies there stays while bytes are added. -/
def Keeps (w w' : World) : Prop := ∀ (g : Nat) (t : TypeId) (cs : Array Value), t ≠ 5 → t ≠ 46 → Blk w g t cs → Blk w' g t cs
theorem Keeps.refl (w : World) : Keeps w w := fun _ _ _ _ _ h => h
theorem Keeps.trans {a b c : World} (h : Keeps a b) (k : Keeps b c) : Keeps a c := fun g t cs h1 h2 hb => k g t cs h1 h2 (h g t cs h1 h2 hb)
theorem Keeps.after {w w1 w2 : World} (h : Below w.heap.size w w1) (k : Keeps w1 w2) : Keeps w w2 := fun g t cs t1 t2 hb => k g t cs t1 t2 (hb.below h hb.lt)

/-- What was written so far, and the command's own box. -/
def CSt (w0 : World) (gm gb : Nat) (D : HC) (l : List UInt8) (w : World) : Prop :=
  ∃ v, Blk w gb 46 #[v] ∧ w.ownsRow w0.heap.size 5 1 v l.length (cb l) ∧ Blk w gm 26 #[.int .u8 D.k, .int .i64 D.mi, .slice D.GA D.Gn D.Gc, .int .i64 D.mt, .string D.key, .string D.body, .int .i64 D.i, .int .i64 D.tm, .slice D.MA D.Mn D.Mc, .int .i64 D.tp, .int .i64 D.who, .int .i64 D.n] ∧ CmdAt w w0.heap.size D ∧ Below w0.heap.size w0 w ∧ w0.heap.size ≤ gb
section
variable {w0 w w' w1 : World} {gm gb : Nat} {D : HC} {l x : List UInt8}
theorem CSt.below (h : CSt w0 gm gb D l w) (hb : Below w.heap.size w w') : CSt w0 gm gb D l w' := by
  obtain ⟨v, h1, h2, h4, hd, h5, h6⟩ := h
  exact ⟨v, h1.below hb h1.lt, own_kept h2 hb, h4.below hb h4.lt, hd.below (hb.mono h5.size), h5.trans (hb.mono h5.size), h6⟩
theorem CSt.box (h : CSt w0 gm gb D l w) : Blk w gm 26 #[.int .u8 D.k, .int .i64 D.mi, .slice D.GA D.Gn D.Gc, .int .i64 D.mt, .string D.key, .string D.body, .int .i64 D.i, .int .i64 D.tm, .slice D.MA D.Mn D.Mc, .int .i64 D.tp, .int .i64 D.who, .int .i64 D.n] := by obtain ⟨v, h1, h2, h4, hd, h5, h6⟩ := h; exact h4
theorem CSt.bel (h : CSt w0 gm gb D l w) : Below w0.heap.size w0 w := by obtain ⟨v, h1, h2, h4, hd, h5, h6⟩ := h; exact h5
theorem CSt.cmd (h : CSt w0 gm gb D l w) : CmdAt w w0.heap.size D := by obtain ⟨v, h1, h2, h4, hd, h5, h6⟩ := h; exact hd
theorem CSt.add {v v' : Value} {m : Nat} (h1 : Blk w gb 46 #[v]) (h2 : w.ownsRow w0.heap.size 5 1 v l.length (cb l))
    (h4 : Blk w gm 26 #[.int .u8 D.k, .int .i64 D.mi, .slice D.GA D.Gn D.Gc, .int .i64 D.mt, .string D.key, .string D.body, .int .i64 D.i, .int .i64 D.tm, .slice D.MA D.Mn D.Mc, .int .i64 D.tp, .int .i64 D.who, .int .i64 D.n]) (hd : CmdAt w w0.heap.size D) (h5 : Below w0.heap.size w0 w) (h6 : w0.heap.size ≤ gb) (hx : x.length = m)
    (o : w1.ownsRow w0.heap.size 5 1 v' (l.length + m) (cb (l ++ x))) (hg : Grew w w1 v v') : CSt w0 gm gb D (l ++ x) (w1.setCell ⟨gb, 0, none⟩ v') ∧ Keeps w (w1.setCell ⟨gb, 0, none⟩ v') := by
  have k1 := h1.grown hg.1 (Ne.symm (own_blk_ne h2 h1 (by decide)))
  have k4 := h4.grown hg.1 (Ne.symm (own_blk_ne h2 h4 (by decide)))
  have n14 : gm ≠ gb := k4.ne_ k1 (by decide)
  have q1 : Blk (w1.setCell ⟨gb, 0, none⟩ v') gb 46 #[v'] := by simpa using k1.set_ 0 v'
  have b1 : Below w0.heap.size w w1 := hg.below h5.size fun k hk => (h2.lt k hk).1
  have b2 : Below w0.heap.size w (w1.setCell ⟨gb, 0, none⟩ v') := b1.setCell h6 _
  refine ⟨⟨v', q1, ?_, k4.far n14 v', hd.below b2, h5.trans b2, h6⟩, ?_⟩
  · rw [List.length_append, hx]
    exact ownsRow_setCell_other o (a := ⟨gb, 0, none⟩) (own_blk_ne o k1 (by decide)) v'
  · intro g t cs t1 t2 hb
    have hb1 := hb.grown hg.1 (Ne.symm (own_blk_ne h2 hb (Ne.symm t1)))
    exact hb1.far (hb1.ne_ k1 t2) v'
end

/-- Numbers are added. -/
theorem cadd_any (w0 : World) (gm gb : Nat) (D : HC) (l : List UInt8) (gx : Nat) (cs : Array Value) (xs : List Int) (n : Nat) (w : World) (h : CSt w0 gm gb D l w) (hx : Blk w gx 3 cs) (hc : cs.toList = ci xs) (hn : xs.length = n)
    (hi : ∀ x ∈ xs, Nm.inR x = true) (hl : l.length ≤ 100000) (hn2 : n ≤ 100) :
    Calls Try.prog 69 #[.slice (some ⟨gx, 0, none⟩) n n, .pointer (some ⟨gb, 0, none⟩)] w fun e w' => e = .returned (.tuple #[]) ∧ CSt w0 gm gb D (l ++ Nm.many xs) w' ∧ Keeps w w' := by
  have H := Lib.hid h
  have HX := Lib.hid hx
  have HC := Lib.hid hc
  have HN := Lib.hid hn
  have HI := Lib.hid hi
  clear h hx hc hn hi
  go_enter Try.func69, Try.ntmps69
  go_wp2_with fail
  go_loopw [9] (fun y wr => ∃ k : Nat, y = .int .i64 (k : Int) ∧ k ≤ n ∧ CSt w0 gm gb D (l ++ Nm.many (xs.take k)) wr ∧ Keeps w wr) (fun y _ => n - (intOf y).toNat)
  case atStart => exact ⟨0, rfl, Nat.zero_le _, by simpa [Nm.many] using H.out, Keeps.refl w⟩
  case round =>
    obtain ⟨k, rfl, hk, hs, hkp⟩ := hrel
    have HS := Lib.hid hs
    have HKP := Lib.hid hkp
    clear hs hkp H
    by_cases hlt : k < n
    · have hkl : k < xs.length := by rw [HN.out]; exact hlt
      obtain ⟨z, hz⟩ : ∃ z, xs[k]'hkl = z := ⟨_, rfl⟩
      have hg : xs[k]? = some z := by rw [← hz]; exact List.getElem?_eq_getElem hkl
      have hzi := Nm.inR_yes (HI.out z (List.mem_of_getElem? hg))
      have HG := Lib.hid hg
      have hb1 := HKP.out gx 3 cs (by decide) (by decide) HX.out
      have hcc : wr.cell? ⟨gx, k, none⟩ = some (.int .i64 z) := by
        have e := hb1.cell k
        rw [← Array.getElem?_toList, HC.out, ci_get, hg] at e
        exact e
      have hlen : (l ++ Nm.many (xs.take k)).length ≤ 200000 := by
        have := Nm.many_len (xs.take k) (fun x hx => HI.out x (List.mem_of_mem_take hx))
        rw [List.length_append]
        rw [List.length_take] at this
        omega
      obtain ⟨z0, z1⟩ := hzi
      clear hz hg hb1 hkl
      go_wp2_with fail
      refine (nput_is z _ _ wr z0 z1 rfl rfl).mono ?_
      rintro e w1 ⟨A, c, rfl, ho, hb⟩
      have HB := Lib.hid hb
      have HR := Lib.hid (Reads.of_own ho)
      have H2 := Lib.hid (HS.out.below hb)
      have hex := Nm.enc_len6 (n := z.toNat) (by omega)
      clear ho hb hcc
      obtain ⟨x, hx⟩ : ∃ x, Nm.enc z.toNat = x := ⟨_, rfl⟩
      have HXE := Lib.hid hx
      rw [hx] at HR hex ⊢
      clear hx
      obtain ⟨lk, hlk⟩ : ∃ lk, l ++ Nm.many (xs.take k) = lk := ⟨_, rfl⟩
      have HLK := Lib.hid hlk
      rw [hlk] at H2 hlen HS
      clear hlk
      obtain ⟨v, q1, q2, q4, qd, q5, q6⟩ := H2.out
      have cb1 := q1.cell 0
      have K1 := Lib.hid q1
      have K2 := Lib.hid q2
      have K4 := Lib.hid q4
      have KD := Lib.hid qd
      have K5 := Lib.hid q5
      clear q1 q2 q4 qd q5
      go_wp2_with (at_builtin; refine app_bs rfl (.tmp 18) (.tmp 19) rfl w0.heap.size v lk.length lk rfl K2.out w1.heap.size A x.length c x rfl HR.out ?d1 ?d2 ?_)
      case d1 => omega
      case d2 => exact K5.out.size
      intro v' w2 o hg
      obtain ⟨A', c', rfl, -, -, -⟩ := own_form o
      have k1 := K1.out.grown hg.1 (Ne.symm (own_blk_ne K2.out K1.out (by decide)))
      have c1 := k1.cell 0
      have f1 := k1.frozen 0
      have O := Lib.hid o
      have HG2 := Lib.hid hg
      clear k1 o hg cb1
      have EN : Hid (l ++ Nm.many (xs.take (k + 1)) = lk ++ x) := by
        rw [Hid, List.take_add_one, HG.out, Option.toList_some, Nm.many_append, Nm.many_one, HXE.out, ← List.append_assoc, HLK.out]
      go_wp2
      go_roundw
      case rel =>
        have := CSt.add K1.out K2.out K4.out KD.out K5.out q6 rfl O.out HG2.out
        refine ⟨k + 1, by go_num, by omega, ?_, HKP.out.trans (Keeps.after HB.out this.2)⟩
        rw [EN.out]
        exact this.1
      case measure => simp [intOf]; omega
    · have HS2 : Hid (CSt w0 gm gb D (l ++ Nm.many xs) wr) := by
        have := HS.out
        rwa [List.take_of_length_le (by have := HN.out; omega)] at this
      go_wp2
      go_end0
      exact ⟨rfl, HS2.out, HKP.out⟩

/-- A list is added. -/
theorem cints_any (w0 : World) (gm gb : Nat) (D : HC) (l : List UInt8) (A : Option Addr) (n c B : Nat) (xs : List Int) (w : World) (h : CSt w0 gm gb D l w) (hr : Reads w B 1 A n (ci xs)) (hB : B ≤ w.heap.size)
    (hi : ∀ x ∈ xs, Nm.inR x = true) (hl : l.length ≤ 100000) (hn2 : n ≤ 100) :
    Calls Try.prog 71 #[.slice A n c, .pointer (some ⟨gb, 0, none⟩)] w fun e w' => e = .returned (.tuple #[]) ∧ CSt w0 gm gb D (l ++ Nm.intsB xs) w' ∧ Keeps w w' := by
  have H := Lib.hid h
  have HL := Lib.hid hr.len_i
  have hxl : (Nm.intsB xs).length ≤ 10000 := by
    have := Nm.many_len xs hi
    have h2 := Nm.enc_len6 (n := xs.length) (by rw [HL.out]; omega)
    unfold Nm.intsB
    rw [List.length_append]
    have := HL.out
    omega
  have HN := Lib.hid (nints_any A n c xs w (hr.more hB) (by omega) (fun x hx => by have := Nm.inR_yes (hi x hx); omega))
  have hall : xs.all Nm.inR = true := List.all_eq_true.2 hi
  have HALL := Lib.hid hall
  clear h hr hi hall
  go_enter Try.func71, Try.ntmps71
  go_wp2_with fail
  refine HN.out.mono ?_
  rintro e w1 hp
  rcases hp with ⟨_, A1, c1, rfl, ho, hb⟩ | ⟨hx, _⟩
  rotate_left
  · rw [HALL.out] at hx; cases hx
  have HB := Lib.hid hb
  have HR := Lib.hid (Reads.of_own ho)
  have H2 := Lib.hid (H.out.below hb)
  clear ho hb HN
  obtain ⟨x, hx⟩ : ∃ x, Nm.intsB xs = x := ⟨_, rfl⟩
  have HXE := Lib.hid hx
  rw [hx] at HR hxl ⊢
  clear hx
  obtain ⟨v, q1, q2, q4, qd, q5, q6⟩ := H2.out
  have cb1 := q1.cell 0
  have K1 := Lib.hid q1
  have K2 := Lib.hid q2
  have K4 := Lib.hid q4
  have KD := Lib.hid qd
  have K5 := Lib.hid q5
  clear q1 q2 q4 qd q5
  go_wp2_with (at_builtin; refine app_bs rfl (.tmp 10) (.tmp 11) rfl w0.heap.size v l.length l rfl K2.out w1.heap.size A1 x.length c1 x rfl HR.out ?d1 ?d2 ?_)
  case d1 => omega
  case d2 => exact K5.out.size
  intro v' w2 o hg
  obtain ⟨A', c', rfl, -, -, -⟩ := own_form o
  have k1 := K1.out.grown hg.1 (Ne.symm (own_blk_ne K2.out K1.out (by decide)))
  have c1' := k1.cell 0
  have f1 := k1.frozen 0
  have O := Lib.hid o
  have HG := Lib.hid hg
  clear k1 o hg cb1
  go_wp2
  go_end0
  have := CSt.add K1.out K2.out K4.out KD.out K5.out q6 rfl O.out HG.out
  rw [HXE.out]
  exact ⟨rfl, this.1, Keeps.after HB.out this.2⟩

/-- A text is added. -/
theorem cput_any (w0 : World) (gm gb : Nat) (D : HC) (l : List UInt8) (s : ByteArray) (w : World) (h : CSt w0 gm gb D l w) (hs : s.size ≤ 100) (hl : l.length ≤ 100000) :
    Calls Try.prog 73 #[.string s, .pointer (some ⟨gb, 0, none⟩)] w fun e w' => e = .returned (.tuple #[]) ∧ CSt w0 gm gb D (l ++ Nm.txt s.data.toList) w' ∧ Keeps w w' := by
  have H := Lib.hid h
  obtain ⟨x, hx⟩ : ∃ x, Nm.txt s.data.toList = x := ⟨_, rfl⟩
  have hxl : x.length ≤ 10000 := by
    have h2 := Nm.enc_len6 (n := s.data.toList.length) (by rw [size_data]; omega)
    rw [← hx]
    unfold Nm.txt
    rw [List.length_append]
    have := size_data s
    omega
  have HX := Lib.hid hx
  rw [hx]
  clear h hx
  go_enter Try.func73, Try.ntmps73
  go_wp2_with fail
  refine (ntext_ok s x x.length w (by omega) HX.out rfl).mono ?_
  rintro e w1 ⟨A1, c1, rfl, ho, hb⟩
  have HB := Lib.hid hb
  have HR := Lib.hid (Reads.of_own ho)
  have H2 := Lib.hid (H.out.below hb)
  clear ho hb
  obtain ⟨v, q1, q2, q4, qd, q5, q6⟩ := H2.out
  have cb1 := q1.cell 0
  have K1 := Lib.hid q1
  have K2 := Lib.hid q2
  have K4 := Lib.hid q4
  have KD := Lib.hid qd
  have K5 := Lib.hid q5
  clear q1 q2 q4 qd q5
  go_wp2_with (at_builtin; refine app_bs rfl (.tmp 10) (.tmp 11) rfl w0.heap.size v l.length l rfl K2.out w1.heap.size A1 x.length c1 x rfl HR.out ?d1 ?d2 ?_)
  case d1 => omega
  case d2 => exact K5.out.size
  intro v' w2 o hg
  obtain ⟨A', c', rfl, -, -, -⟩ := own_form o
  have k1 := K1.out.grown hg.1 (Ne.symm (own_blk_ne K2.out K1.out (by decide)))
  have c1' := k1.cell 0
  have f1 := k1.frozen 0
  have O := Lib.hid o
  have HG := Lib.hid hg
  clear k1 o hg cb1
  go_wp2
  go_end0
  have := CSt.add K1.out K2.out K4.out KD.out K5.out q6 rfl O.out HG.out
  exact ⟨rfl, this.1, Keeps.after HB.out this.2⟩
end Go.Proofs.Ytaoekfgeggopbaa
