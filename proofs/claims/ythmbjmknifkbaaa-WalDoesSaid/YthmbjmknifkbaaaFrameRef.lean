/-
  Contracts of the reference's Join, All and Cut.
-/
import Derived.Test.YthmbjmknifkbaaaFrameJoin
namespace Go.Proofs.Ythmbjmknifkbaaa
open Go.RowKit
set_option maxHeartbeats 1000000
set_option maxRecDepth 100000
set_option linter.unusedVariables false

theorem rjoin_any (A : Option Addr) (n c : Nat) (l : List (List UInt8)) (w : World) (hr : Reads w w.heap.size 1 A n (ct (l.map S))) (hn : n ≤ 65536) :
    Calls Try.prog 28 #[.slice A n c] w (JoinPost l w) := by
  have hl : l.length = n := by have := hr.len_t; simpa using this
  have HR := Lib.hid hr
  clear hr
  go_enter Try.func28, Try.ntmps28
  go_wp2
  go_loopw [4, 5] (fun x4 x5 wr => JoinRel l w 1060000 x4 x5 wr) (fun _ x5 _ => n - (intOf x5).toNat)
  case atStart => exact ⟨0, 0, [], rfl, by omega, by simp, rfl, rfl, by omega, World.ownsRow_nil _ _ _ _, Below.refl _ _⟩
  case round =>
    obtain ⟨i, m, b, rfl, hi, ha, hj, hm, hmm, ho, hb⟩ := hrel
    obtain ⟨A4, c4, rfl, _, _, _⟩ := own_form ho
    have HA := Lib.hid ha
    have HJ := Lib.hid hj
    have HM := Lib.hid hm
    have HO := Lib.hid ho
    have HB := Lib.hid hb
    clear ha hj hm ho hb
    by_cases hlt : i < n
    · obtain ⟨ad, u, rfl, hbl, hu, hcell⟩ := (HR.out.below HB.out).at_ hlt
      have hli : i < l.length := by omega
      obtain ⟨t, ht⟩ : ∃ t, l[i] = t := ⟨_, rfl⟩
      have hu2 : u = .string (S t) := by
        rw [ct_get, List.getElem?_map, List.getElem?_eq_getElem hli, ht] at hu
        simpa using hu.symm
      subst hu2
      clear hu
      have HT := Lib.hid ht
      clear ht
      by_cases hs : t.length ≤ 4096
      · have hs2 : (S t).size ≤ 4096 := by rw [S_size]; exact hs
        by_cases hbig0 : m ≤ 1048576
        · go_wp2_with fail
          refine (rtextBytes (S t) (Nm.txt t) (Nm.txt t).length wr (by omega) rfl rfl).mono ?_
          rintro e w1 ⟨A1, c1, rfl, o1, b1⟩
          have hk := txt_small hs
          obtain ⟨k, HK⟩ : ∃ k, Hid ((Nm.txt t).length = k) := ⟨_, Lib.hid rfl⟩
          rw [HK.out] at o1 hk ⊢
          have O1 := Lib.hid o1
          have B1 := Lib.hid (HB.out.trans (b1.mono HB.out.size))
          have HO1 := Lib.hid (own_under HO.out b1)
          have hz1 := Lib.hid (Nat.le_trans HB.out.size b1.size)
          clear o1 b1 hcell
          go_wp2_with (at_builtin; refine app_bs rfl (.tmp 26) (.tmp 31) rfl w.heap.size (.slice A4 m c4) m b rfl HO1.out w1.heap.size A1 k c1 (Nm.txt t) rfl (Reads.of_own O1.out) ?c1 ?c2 ?_)
          case c1 => omega
          case c2 => exact hz1.out
          intro v2 w2 o2 g2
          have O2 := Lib.hid o2
          have B2 := Lib.hid (B1.out.trans (g2.belowOwn HO1.out hz1.out))
          clear o2 g2
          go_wp2
          go_roundw
          case rel => exact ⟨i + 1, m + k, b ++ Nm.txt t, by go_num, by omega, all_next hli HT.out HA.out hs, by rw [join_next hli HT.out, HJ.out], by rw [List.length_append, HM.out, HK.out], by omega, O2.out, B2.out⟩
          case measure => simp [intOf]; omega
        · go_wp2
          go_ret2
          refine Or.inr ⟨joinOk_no fun h => ?_, rfl, HB.out⟩
          have h1 := join_take_le l i
          rw [HJ.out, HM.out] at h1
          omega
      · have hs2 : 4096 < (S t).size := by rw [S_size]; omega
        go_wp2
        go_ret2
        refine Or.inr ⟨joinOk_no fun h => ?_, rfl, HB.out⟩
        have := h.1 t (by rw [← HT.out]; exact List.getElem_mem hli)
        omega
    · have hin : i = l.length := by omega
      by_cases hbig0 : m ≤ 1048576
      · go_wp2
        go_ret2
        have h1 := HJ.out
        have h2 := HA.out
        rw [hin, List.take_length] at h1 h2
        have h3 := HO.out
        have h4 := HM.out
        subst h4 h1
        exact Or.inl ⟨joinOk_yes h2 hbig0, A4, c4, rfl, h3, HB.out⟩
      · go_wp2
        go_ret2
        refine Or.inr ⟨joinOk_no fun h => ?_, rfl, HB.out⟩
        have h1 := join_take_le l i
        rw [HJ.out, HM.out] at h1
        omega
theorem rjoin_many (A : Option Addr) (n c : Nat) (w : World) (h : 65536 < n) (hn : n ≤ 9223372036854775807) : Calls Try.prog 28 #[.slice A n c] w fun e w' => e = .returned (.tuple #[.slice none 0 0, .int .i64 4]) ∧ w = w' := by
  go_enter Try.func28, Try.ntmps28
  go_wp2
  go_ret2
  exact ⟨rfl, rfl⟩

def AllPost (b : List UInt8) (w : World) (e : Ending) (w' : World) : Prop :=
  ∃ A c, e = .returned (.tuple #[.slice A (Nm.cut b).1.length c, .int .i64 ((Nm.cut b).2 : Nat)]) ∧ w'.ownsRow w.heap.size 9 1 (.slice A (Nm.cut b).1.length c) (Nm.cut b).1.length (ct ((Nm.cut b).1.map S)) ∧ Below w.heap.size w w'
def AllRel (b : List UInt8) (w : World) (x4 x5 : Value) (wr : World) : Prop :=
  ∃ (acc : List (List UInt8)) (at' : Nat), x5 = .int .i64 (at' : Int) ∧ at' ≤ b.length ∧ acc.length ≤ at' ∧
    wr.ownsRow w.heap.size 9 1 x4 acc.length (ct (acc.map S)) ∧ Below w.heap.size w wr ∧ Nm.cut b = (acc ++ (Nm.cut (b.drop at')).1, at' + (Nm.cut (b.drop at')).2)
theorem allRel_step {b : List UInt8} {w wr w1 : World} {x2 v' : Value} {acc : List (List UInt8)} {at' k : Nat} {u : List UInt8} (ha : at' ≤ b.length) (hl : acc.length ≤ at')
    (ho : wr.ownsRow w.heap.size 9 1 x2 acc.length (ct (acc.map S))) (hb : Below w.heap.size w wr) (hg : Nm.getText (b.drop at') = some (u, k)) (hc : Nm.cut b = (acc ++ (Nm.cut (b.drop at')).1, at' + (Nm.cut (b.drop at')).2))
    (ho1 : w1.ownsRow w.heap.size 9 1 v' (acc.length + 1) (ct (acc.map S ++ [S u]))) (hg1 : Grew wr w1 x2 v') :
    AllRel b w v' (.int .i64 ((at' : Int) + (k : Int))) w1 := by
  obtain ⟨_, _, h3, _, h5⟩ := Nm.getText_back hg
  rw [List.length_drop] at h3
  refine ⟨acc ++ [u], at' + k, by go_num, by omega, by simp; omega, by simpa using ho1, hb.trans (hg1.belowOwn ho hb.size), ?_⟩
  rw [hc, Nm.cut_some hg, List.drop_drop]
  simp only [List.append_assoc, List.cons_append, List.nil_append, Prod.mk.injEq, true_and]
  omega
theorem all_end {b : List UInt8} {w wr : World} {x2 : Value} {acc : List (List UInt8)} {at' : Nat} (ho : wr.ownsRow w.heap.size 9 1 x2 acc.length (ct (acc.map S))) (hb : Below w.heap.size w wr)
    (hc : Nm.cut b = (acc ++ (Nm.cut (b.drop at')).1, at' + (Nm.cut (b.drop at')).2)) (hn : Nm.getText (b.drop at') = none) : AllPost b w (.returned (.tuple #[x2, .int .i64 (at' : Int)])) wr := by
  rw [Nm.cut_none hn] at hc
  simp only [List.append_nil, Nat.add_zero] at hc
  obtain ⟨A2, c2, rfl, _, _, _⟩ := own_form ho
  unfold AllPost
  rw [hc]
  exact ⟨A2, c2, rfl, ho, hb⟩
theorem all_any (A : Option Addr) (n c : Nat) (b : List UInt8) (w : World) (hr : Reads w w.heap.size 1 A n (cb b)) (hc : n ≤ c) (hn : n ≤ 1048576) :
    Calls Try.prog 20 #[.slice A n c] w (AllPost b w) := by
  have hl := hr.len_b
  have HL := Lib.hid hl
  have HR := Lib.hid hr
  clear hl hr
  go_enter Try.func20, Try.ntmps20
  go_wp2
  go_loopw [4, 5] (fun x4 x5 wr => AllRel b w x4 x5 wr) (fun _ x5 _ => n - (intOf x5).toNat)
  case atStart => exact ⟨[], 0, rfl, by omega, by simp, World.ownsRow_nil _ _ _ _, Below.refl _ _, by simp⟩
  case round =>
    obtain ⟨acc, at', rfl, ha, hacc, ho, hb, hcut⟩ := hrel
    have HO := Lib.hid ho
    have HB := Lib.hid hb
    have HC := Lib.hid hcut
    have hle : b.length ≤ n := by rw [HL.out]; exact Nat.le_refl _
    have hle2 : n ≤ b.length := by rw [HL.out]; exact Nat.le_refl _
    clear ho hb hcut
    by_cases hlt : at' < n
    · have hs : ∀ w, (Instr.slice 22 (.slice A n c) (some (.int .i64 (at' : Int))) none none).run Try.prog w = .ok (.slice (cutA A c at') (n - at') (c - at')) w := fun w =>
        run_slice_from Try.underlying22 A n c at' (by omega) w u8_size
      have hr2 := ((HR.out.below HB.out).rest (k := at') (c := c) (by omega) hc)
      rw [cb_drop] at hr2
      have HR2 := Lib.hid hr2
      clear hr2
      go_wp2_with fail
      refine (rgt_or _ (n - at') (c - at') _ _ wr HR2.out (by omega) (by omega)).mono ?_
      rintro e w' ⟨⟨t2, k, x2, rfl, hgt⟩, rfl⟩
      rcases hgt with ⟨u, hg, rfl, rfl⟩ | ⟨hg, rfl, rfl, rfl⟩
      · have h3 := (Nm.getText_back hg).2.2.1
        have h5 := (Nm.getText_back hg).2.2.2.2
        rw [List.length_drop] at h3
        have HG := Lib.hid hg
        clear hg hs
        have hc1 : acc.length ≤ 1000000000000 := by omega
        have hc2 := Lib.hid HB.out.size
        go_wp2_with (at_builtin; refine app_t1 rfl (.tmp 23) (.tmp 25) rfl w.heap.size u4 acc.length (acc.map S) rfl HO.out (S u) rfl hc1 hc2.out ?_)
        intro v2 w2 o2 g2
        have O2 := Lib.hid o2
        have G2 := Lib.hid g2
        clear o2 g2
        go_wp2
        go_roundw
        case rel => exact allRel_step ha hacc HO.out HB.out HG.out HC.out O2.out G2.out
        case measure => simp [intOf]; omega
      · have HG := Lib.hid hg
        clear hg hs
        go_wp2
        go_ret2
        exact all_end HO.out HB.out HC.out HG.out
    · have hg : Nm.getText (b.drop at') = none := by
        have : b.drop at' = [] := List.drop_eq_nil_of_le (by omega)
        rw [this]
        decide
      have HG := Lib.hid hg
      clear hg
      go_wp2
      go_ret2
      exact all_end HO.out HB.out HC.out HG.out
end Go.Proofs.Ythmbjmknifkbaaa
