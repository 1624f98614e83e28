/-
  Contracts of frame.Join and of the reference's Frame, Join, All and Cut.
-/
import Derived.Test.YthmbjmknifkbaaaFrame
import Derived.Test.YthmbjmknifkbaaaNumRef
namespace Go.Proofs.Ythmbjmknifkbaaa
open Go.RowKit
set_option maxHeartbeats 1000000
set_option maxRecDepth 100000
set_option linter.unusedVariables false

/-- Texts that are joined: each is short, and so is the whole. -/
def joinOk (l : List (List UInt8)) : Bool := l.all (fun t => decide (t.length ≤ 4096)) && decide ((Nm.join l).length ≤ 1048576)
theorem joinOk_yes {l : List (List UInt8)} (h1 : ∀ t ∈ l, t.length ≤ 4096) (h2 : (Nm.join l).length ≤ 1048576) : joinOk l = true := by
  unfold joinOk
  simp only [Bool.and_eq_true, List.all_eq_true, decide_eq_true_eq]
  exact ⟨h1, h2⟩
theorem joinOk_all {l : List (List UInt8)} (h : joinOk l = true) : (∀ t ∈ l, t.length ≤ 4096) ∧ (Nm.join l).length ≤ 1048576 := by
  unfold joinOk at h
  simp only [Bool.and_eq_true, List.all_eq_true, decide_eq_true_eq] at h
  exact h
theorem joinOk_no {l : List (List UInt8)} (h : ¬ ((∀ t ∈ l, t.length ≤ 4096) ∧ (Nm.join l).length ≤ 1048576)) : joinOk l = false := by
  cases hj : joinOk l with
  | false => rfl
  | true => exact absurd (joinOk_all hj) h
theorem join_take_le (l : List (List UInt8)) (i : Nat) : (Nm.join (l.take i)).length ≤ (Nm.join l).length := by
  conv => rhs; rw [← List.take_append_drop i l]
  rw [Nm.join_append, List.length_append]
  omega
theorem take_next {α : Type} {l : List α} {i : Nat} (h : i < l.length) : l.take (i + 1) = l.take i ++ [l[i]] := by
  rw [List.take_add_one, List.getElem?_eq_getElem h]
  rfl
theorem join_next {l : List (List UInt8)} {i : Nat} {t : List UInt8} (h : i < l.length) (ht : l[i] = t) : Nm.join (l.take (i + 1)) = Nm.join (l.take i) ++ Nm.txt t := by
  rw [take_next h, Nm.join_append, ht, Nm.join_one]
theorem all_next {l : List (List UInt8)} {i : Nat} {t : List UInt8} (h : i < l.length) (ht : l[i] = t) (ha : ∀ x ∈ l.take i, x.length ≤ 4096) (hl : t.length ≤ 4096) : ∀ x ∈ l.take (i + 1), x.length ≤ 4096 := by
  rw [take_next h, ht]
  intro x hx
  rcases List.mem_append.1 hx with hx | hx
  · exact ha x hx
  · rw [List.mem_singleton] at hx
    rw [hx]
    exact hl
theorem txt_small {t : List UInt8} (h : t.length ≤ 4096) : (Nm.txt t).length ≤ 5000 := by
  unfold Nm.txt
  rw [List.length_append]
  have := Nm.enc_len10 (n := t.length) (by omega)
  omega

theorem own_under {w w' : World} {base n size : Nat} {e : TypeId} {v : Value} {xs : List Value} (h : w.ownsRow base e size v n xs) (hb : Below w.heap.size w w') : w'.ownsRow base e size v n xs :=
  h.kept (only_of_below hb none) (by cases v.ownBlock <;> simp)

def JoinPost (l : List (List UInt8)) (w : World) (e : Ending) (w' : World) : Prop :=
  (joinOk l = true ∧ ∃ A c, e = .returned (.tuple #[.slice A (Nm.join l).length c, .int .i64 0]) ∧ w'.ownsRow w.heap.size 5 1 (.slice A (Nm.join l).length c) (Nm.join l).length (cb (Nm.join l)) ∧ Below w.heap.size w w') ∨
  (joinOk l = false ∧ e = .returned (.tuple #[.slice none 0 0, .int .i64 3]) ∧ Below w.heap.size w w')
def JoinRel (l : List (List UInt8)) (w : World) (most : Nat) (x4 x14 : Value) (wr : World) : Prop :=
  ∃ (i m : Nat) (b : List UInt8), x14 = .int .i64 (i : Int) ∧ i ≤ l.length ∧ (∀ t ∈ l.take i, t.length ≤ 4096) ∧ Nm.join (l.take i) = b ∧ b.length = m ∧ m ≤ most ∧ wr.ownsRow w.heap.size 5 1 x4 m (cb b) ∧ Below w.heap.size w wr

theorem join_any (A : Option Addr) (n c : Nat) (l : List (List UInt8)) (w : World) (hr : Reads w w.heap.size 1 A n (ct (l.map S))) (hn : n ≤ 65536) :
    Calls Try.prog 26 #[.slice A n c] w (JoinPost l w) := by
  have hl : l.length = n := by have := hr.len_t; simpa using this
  have HR := Lib.hid hr
  clear hr
  go_enter Try.func26, Try.ntmps26
  go_wp2
  go_loopw [4, 14] (fun x4 x14 wr => JoinRel l w 1048576 x4 x14 wr) (fun _ x14 _ => n - (intOf x14).toNat)
  case atStart => exact ⟨0, 0, [], rfl, by omega, by simp, rfl, rfl, by omega, World.ownsRow_nil _ _ _ _, Below.refl _ _⟩
  case round =>
    obtain ⟨i, m, b, rfl, hi, ha, hj, hm, hmm, ho, hb⟩ := hrel
    have HA := Lib.hid ha
    have HJ := Lib.hid hj
    have HM := Lib.hid hm
    have HO := Lib.hid ho
    have HB := Lib.hid hb
    clear ha hj hm ho hb
    by_cases hlt : i < n
    · obtain ⟨ad, u, rfl, hbl, hu, hcell⟩ := (HR.out.below HB.out).at_ hlt
      have hli : i < l.length := by omega
      obtain ⟨t, ht⟩ : ∃ t, l[i] = t := ⟨_, rfl⟩
      have hu2 : u = .string (S t) := by
        rw [ct_get, List.getElem?_map, List.getElem?_eq_getElem hli, ht] at hu
        simpa using hu.symm
      subst hu2
      clear hu
      have HT := Lib.hid ht
      clear ht
      by_cases hs : t.length ≤ 4096
      · have hs2 : (S t).size ≤ 4096 := by rw [S_size]; exact hs
        have HS2 := Lib.hid hs2
        clear hs2
        go_wp2_with fail
        refine (frame_ok (S t) (Nm.txt t) (Nm.txt t).length wr HS2.out rfl rfl).mono ?_
        rintro e w1 ⟨A1, c1, rfl, o1, b1⟩
        have hk := txt_small hs
        obtain ⟨k, HK⟩ : ∃ k, Hid ((Nm.txt t).length = k) := ⟨_, Lib.hid rfl⟩
        rw [HK.out] at o1 hk ⊢
        have O1 := Lib.hid o1
        have B1 := Lib.hid (HB.out.trans (b1.mono HB.out.size))
        have HO1 := Lib.hid (own_under HO.out b1)
        have hz1 := Lib.hid (Nat.le_trans HB.out.size b1.size)
        clear o1 b1 hcell
        go_wp2_with (at_builtin; refine app_bs rfl (.tmp 26) (.tmp 27) rfl w.heap.size u4 m b rfl HO1.out w1.heap.size A1 k c1 (Nm.txt t) rfl (Reads.of_own O1.out) ?c1 ?c2 ?_)
        case c1 => omega
        case c2 => exact hz1.out
        intro v2 w2 o2 g2
        have O2 := Lib.hid o2
        have B2 := Lib.hid (B1.out.trans (g2.belowOwn HO1.out hz1.out))
        obtain ⟨A2, c2, rfl, _, _, _⟩ := own_form o2
        clear o2 g2
        by_cases hbig : m + k ≤ 1048576
        · go_wp2
          go_roundw
          case rel => exact ⟨i + 1, m + k, b ++ Nm.txt t, by go_num, by omega, all_next hli HT.out HA.out hs, by rw [join_next hli HT.out, HJ.out], by rw [List.length_append, HM.out, HK.out], hbig, O2.out, B2.out⟩
          case measure => simp [intOf]; omega
        · go_wp2
          go_ret2
          refine Or.inr ⟨joinOk_no fun h => ?_, rfl, B2.out⟩
          have h1 := join_take_le l (i + 1)
          rw [join_next hli HT.out, HJ.out, List.length_append, HM.out, HK.out] at h1
          omega
      · have hs2 : 4096 < (S t).size := by rw [S_size]; omega
        have HS2 := Lib.hid hs2
        clear hs2
        go_wp2_with fail
        refine (frame_bad (S t) wr HS2.out).mono ?_
        rintro e w1 ⟨rfl, rfl⟩
        go_wp2
        go_ret2
        refine Or.inr ⟨joinOk_no fun h => ?_, rfl, HB.out⟩
        have := h.1 t (by rw [← HT.out]; exact List.getElem_mem hli)
        omega
    · have hin : i = l.length := by omega
      go_wp2
      go_ret2
      have h1 := HJ.out
      have h2 := HA.out
      rw [hin, List.take_length] at h1 h2
      have h3 := HO.out
      have h4 := HM.out
      subst h4 h1
      obtain ⟨A2, c2, rfl, _, _, _⟩ := own_form h3
      exact Or.inl ⟨joinOk_yes h2 hmm, A2, c2, rfl, h3, HB.out⟩
theorem join_many (A : Option Addr) (n c : Nat) (w : World) (h : 65536 < n) (hn : n ≤ 9223372036854775807) : Calls Try.prog 26 #[.slice A n c] w fun e w' => e = .returned (.tuple #[.slice none 0 0, .int .i64 4]) ∧ w = w' := by
  go_enter Try.func26, Try.ntmps26
  go_wp2
  go_ret2
  exact ⟨rfl, rfl⟩

theorem rframe_ok (s : ByteArray) (l : List UInt8) (k : Nat) (w : World) (h : s.size ≤ 4096) (hl : Nm.txt s.data.toList = l) (hk : l.length = k) :
    Calls Try.prog 24 #[.string s] w fun e w' => ∃ A c, e = .returned (.tuple #[.slice A k c, .int .i64 0]) ∧ w'.ownsRow w.heap.size 5 1 (.slice A k c) k (cb l) ∧ Below w.heap.size w w' := by
  have HL := Lib.hid hl
  have HK := Lib.hid hk
  clear hl hk
  go_enter Try.func24, Try.ntmps24
  go_wp2_with fail
  refine (rtextBytes s l k w (by omega) HL.out HK.out).mono ?_
  rintro e w1 ⟨A, c, rfl, ho, hb⟩
  have HO := Lib.hid ho
  have HB := Lib.hid hb
  clear ho hb
  go_wp2
  go_ret2
  exact ⟨A, c, rfl, HO.out, HB.out⟩
theorem rframe_bad (s : ByteArray) (w : World) (h : 4096 < s.size) : Calls Try.prog 24 #[.string s] w fun e w' => e = .returned (.tuple #[.slice none 0 0, .int .i64 3]) ∧ w = w' := by
  go_enter Try.func24, Try.ntmps24
  go_wp2
  go_ret2
  exact ⟨rfl, rfl⟩
theorem rgt_or (A : Option Addr) (n c B : Nat) (l : List UInt8) (w : World) (hr : Reads w B 1 A n (cb l)) (hc : n ≤ c) (hn : n ≤ 1000000000000) :
    Calls Try.prog 33 #[.slice A n c] w fun e w' => (∃ t k x, e = .returned (.tuple #[.string t, .int .i64 (k : Nat), .int .i64 x]) ∧ GT l t k x) ∧ w = w' := by
  refine (rgetText_any A n c B l w hr hc hn).mono ?_
  rintro e w' ⟨rfl, rfl⟩
  cases h : Nm.getText l with
  | none => exact ⟨⟨⟨#[]⟩, 0, 8, rfl, Or.inr ⟨h, rfl, rfl, rfl⟩⟩, rfl⟩
  | some p =>
    obtain ⟨u, k⟩ := p
    exact ⟨⟨S u, k, 0, rfl, Or.inl ⟨u, h, rfl, rfl⟩⟩, rfl⟩
end Go.Proofs.Ythmbjmknifkbaaa
