/-
  Contracts of package frame: Frame, Cut, Join: what each call returns, for every argument; new memory alone is written.
-/
import Derived.Test.YthmbjmknifkbaaaFramePlain
import Derived.Test.YthmbjmknifkbaaaAppT
namespace Go.Proofs.Ythmbjmknifkbaaa
open Go.RowKit
set_option maxHeartbeats 1000000
set_option maxRecDepth 100000
set_option linter.unusedVariables false

theorem frame_ok (s : ByteArray) (l : List UInt8) (k : Nat) (w : World) (h : s.size ≤ 4096) (hl : Nm.txt s.data.toList = l) (hk : l.length = k) :
    Calls Try.prog 22 #[.string s] w fun e w' => ∃ A c, e = .returned (.tuple #[.slice A k c, .int .i64 0]) ∧ w'.ownsRow w.heap.size 5 1 (.slice A k c) k (cb l) ∧ Below w.heap.size w w' := by
  have HL := Lib.hid hl
  have HK := Lib.hid hk
  clear hl hk
  go_enter Try.func22, Try.ntmps22
  go_wp2_with fail
  refine (ntext_ok s l k w h HL.out HK.out).mono ?_
  rintro e w1 ⟨A, c, rfl, ho, hb⟩
  have HO := Lib.hid ho
  have HB := Lib.hid hb
  clear ho hb
  go_wp2
  go_ret2
  exact ⟨A, c, rfl, HO.out, HB.out⟩
theorem frame_bad (s : ByteArray) (w : World) (h : 4096 < s.size) : Calls Try.prog 22 #[.string s] w fun e w' => e = .returned (.tuple #[.slice none 0 0, .int .i64 3]) ∧ w = w' := by
  go_enter Try.func22, Try.ntmps22
  go_wp2
  go_ret2
  exact ⟨rfl, rfl⟩

/-- What GetText told: a text, or no. -/
def GT (l : List UInt8) (t : ByteArray) (k : Nat) (x : Int) : Prop := (∃ u, Nm.getText l = some (u, k) ∧ t = S u ∧ x = 0) ∨ (Nm.getText l = none ∧ t = ⟨#[]⟩ ∧ k = 0 ∧ x = 8)
theorem gt_or (A : Option Addr) (n c B : Nat) (l : List UInt8) (w : World) (hr : Reads w B 1 A n (cb l)) (hc : n ≤ c) (hn : n ≤ 1000000000000) :
    Calls Try.prog 30 #[.slice A n c] w fun e w' => (∃ t k x, e = .returned (.tuple #[.string t, .int .i64 (k : Nat), .int .i64 x]) ∧ GT l t k x) ∧ w = w' := by
  refine (getText_any A n c B l w hr hc hn).mono ?_
  rintro e w' ⟨rfl, rfl⟩
  cases h : Nm.getText l with
  | none => exact ⟨⟨⟨#[]⟩, 0, 8, rfl, Or.inr ⟨h, rfl, rfl, rfl⟩⟩, rfl⟩
  | some p =>
    obtain ⟨u, k⟩ := p
    exact ⟨⟨S u, k, 0, rfl, Or.inl ⟨u, h, rfl, rfl⟩⟩, rfl⟩

/-- What Cut leaves. -/
def CutPost (b : List UInt8) (w : World) (e : Ending) (w' : World) : Prop :=
  ∃ A c, e = .returned (.tuple #[.slice A (Nm.cut b).1.length c, .int .i64 ((Nm.cut b).2 : Nat), .int .i64 0]) ∧ w'.ownsRow w.heap.size 9 1 (.slice A (Nm.cut b).1.length c) (Nm.cut b).1.length (ct ((Nm.cut b).1.map S)) ∧ Below w.heap.size w w'
def CutRel (b : List UInt8) (w : World) (x2 x3 x5 x6 x7 : Value) (wr : World) : Prop :=
  ∃ (acc : List (List UInt8)) (at' : Nat) (t : ByteArray) (k : Nat) (e : Int), x3 = .int .i64 (at' : Int) ∧ x5 = .string t ∧ x6 = .int .i64 (k : Int) ∧ x7 = .int .i64 e ∧ at' ≤ b.length ∧ acc.length ≤ at' ∧
    wr.ownsRow w.heap.size 9 1 x2 acc.length (ct (acc.map S)) ∧ Below w.heap.size w wr ∧ GT (b.drop at') t k e ∧ Nm.cut b = (acc ++ (Nm.cut (b.drop at')).1, at' + (Nm.cut (b.drop at')).2)
theorem cutRel_step {b : List UInt8} {w wr w1 : World} {x2 v' : Value} {acc : List (List UInt8)} {at' k k2 : Nat} {u : List UInt8} {t2 : ByteArray} {e2 : Int} (ha : at' ≤ b.length) (hl : acc.length ≤ at')
    (ho : wr.ownsRow w.heap.size 9 1 x2 acc.length (ct (acc.map S))) (hb : Below w.heap.size w wr) (hg : Nm.getText (b.drop at') = some (u, k)) (hc : Nm.cut b = (acc ++ (Nm.cut (b.drop at')).1, at' + (Nm.cut (b.drop at')).2))
    (ho1 : w1.ownsRow w.heap.size 9 1 v' (acc.length + 1) (ct (acc.map S ++ [S u]))) (hg1 : Grew wr w1 x2 v') (h2 : GT (b.drop (at' + k)) t2 k2 e2) :
    CutRel b w v' (.int .i64 ((at' : Int) + (k : Int))) (.string t2) (.int .i64 (k2 : Int)) (.int .i64 e2) w1 := by
  obtain ⟨_, _, h3, _, h5⟩ := Nm.getText_back hg
  rw [List.length_drop] at h3
  refine ⟨acc ++ [u], at' + k, t2, k2, e2, by go_num, rfl, rfl, rfl, by omega, by simp; omega, by simpa using ho1, hb.trans (hg1.belowOwn ho hb.size), h2, ?_⟩
  rw [hc, Nm.cut_some hg, List.drop_drop]
  simp only [List.append_assoc, List.cons_append, List.nil_append, Prod.mk.injEq, true_and]
  omega

theorem cut_any (A : Option Addr) (n c : Nat) (b : List UInt8) (w : World) (hr : Reads w w.heap.size 1 A n (cb b)) (hc : n ≤ c) (hn : n ≤ 1048576) :
    Calls Try.prog 16 #[.slice A n c] w (CutPost b w) := by
  have hl := hr.len_b
  have HL := Lib.hid hl
  have HR := Lib.hid hr
  clear hl
  go_enter Try.func16, Try.ntmps16
  go_wp2_with fail
  refine (gt_or A n c _ b w hr hc (by omega)).mono ?_
  rintro e w' ⟨⟨t, k, x, rfl, hgt⟩, rfl⟩
  have HGT := Lib.hid hgt
  clear hgt hr
  go_wp2_with fail
  have hn2 : n ≤ 1000000000 := by omega
  clear hn
  go_loopw [2, 3, 5, 6, 7] (fun x2 x3 x5 x6 x7 wr => CutRel b w x2 x3 x5 x6 x7 wr) (fun _ x3 _ _ _ _ => n - (intOf x3).toNat)
  case atStart => exact ⟨[], 0, t, k, x, rfl, rfl, rfl, rfl, by omega, by simp, World.ownsRow_nil _ _ _ _, Below.refl _ _, by simpa using HGT.out, by simp⟩
  case round =>
    obtain ⟨acc, at', t, k, x, rfl, rfl, rfl, rfl, ha, hacc, ho, hb, hgt, hcut⟩ := hrel
    have HO := Lib.hid ho
    have HB := Lib.hid hb
    have HC := Lib.hid hcut
    have hle : b.length ≤ n := by rw [HL.out]; exact Nat.le_refl _
    have hle2 : n ≤ b.length := by rw [HL.out]; exact Nat.le_refl _
    clear ho hb hcut
    rcases hgt with ⟨u, hg, rfl, rfl⟩ | ⟨hg, rfl, rfl, rfl⟩
    · have h3 := (Nm.getText_back hg).2.2.1
      have h5 := (Nm.getText_back hg).2.2.2.2
      rw [List.length_drop] at h3
      have HG := Lib.hid hg
      clear hg
      have hc1 : acc.length ≤ 1000000000000 := by omega
      have hc2 := Lib.hid HB.out.size
      have hs : ∀ w, (Instr.slice 22 (.slice A n c) (some (.int .i64 ((at' : Int) + (k : Int)))) none none).run Try.prog w = .ok (.slice (cutA A c (at' + k)) (n - (at' + k)) (c - (at' + k))) w := fun w => by
        rw [show ((at' : Int) + (k : Int)) = ((at' + k : Nat) : Int) by omega]
        exact run_slice_from Try.underlying22 A n c (at' + k) (by omega) w u8_size
      go_wp2_with (at_builtin; refine app_t1 rfl (.tmp 27) (.tmp 29) rfl w.heap.size u2 acc.length (acc.map S) rfl HO.out (S u) rfl hc1 hc2.out ?_)
      intro v2 w2 o2 g2
      have O2 := Lib.hid o2
      have G2 := Lib.hid g2
      clear o2 g2
      have B2 := Lib.hid (HB.out.trans (G2.out.belowOwn HO.out HB.out.size))
      have hr2 := ((HR.out.below B2.out).rest (k := at' + k) (c := c) (by omega) hc)
      rw [cb_drop] at hr2
      have HR2 := Lib.hid hr2
      clear hr2
      go_wp2_with fail
      refine (gt_or _ (n - (at' + k)) (c - (at' + k)) _ _ w2 HR2.out (by omega) (by omega)).mono ?_
      rintro e w' ⟨⟨t2, k2, x2, rfl, hgt2⟩, rfl⟩
      have HG2 := Lib.hid hgt2
      clear hgt2
      go_wp2
      go_roundw
      case rel => exact cutRel_step ha hacc HO.out HB.out HG.out HC.out O2.out G2.out HG2.out
      case measure => simp [intOf]; omega
    · have HG := Lib.hid hg
      clear hg
      go_wp2
      go_ret3
      have hc1 := HC.out
      rw [Nm.cut_none HG.out] at hc1
      simp only [List.append_nil, Nat.add_zero] at hc1
      obtain ⟨A2, c2, rfl, _, _, _⟩ := own_form HO.out
      unfold CutPost
      rw [hc1]
      exact ⟨A2, c2, rfl, HO.out, HB.out⟩
theorem cut_big (A : Option Addr) (n c : Nat) (w : World) (h : 1048576 < n) (hn : n ≤ 9223372036854775807) : Calls Try.prog 16 #[.slice A n c] w fun e w' => e = .returned (.tuple #[.slice none 0 0, .int .i64 0, .int .i64 3]) ∧ w = w' := by
  go_enter Try.func16, Try.ntmps16
  go_wp2
  go_ret3
  exact ⟨rfl, rfl⟩
end Go.Proofs.Ythmbjmknifkbaaa
