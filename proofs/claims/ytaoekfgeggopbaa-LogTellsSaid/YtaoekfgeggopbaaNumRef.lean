/-
  Contracts of the reference of layer 1: In, Bytes, Get, TextBytes, GetText: what each call returns, for every argument.
-/
import Derived.Test.YtaoekfgeggopbaaNumMore
namespace Go.Proofs.Ytaoekfgeggopbaa
open Go.RowKit
set_option maxHeartbeats 400000
set_option maxRecDepth 100000
set_option linter.unusedVariables false

theorem rin_yes (n : Int) (w : World) (h0 : 0 ≤ n) (h1 : n ≤ 1099511627776) : Calls Try.prog 104 #[.int .i64 n] w fun e w' => e = .returned (.bool true) ∧ w = w' := by
  go_enter Try.func104, Try.ntmps104
  go_wp2
  go_ret
  exact ⟨rfl, rfl⟩
theorem rin_no (n : Int) (w : World) (h : ¬ (0 ≤ n ∧ n ≤ 1099511627776)) : Calls Try.prog 104 #[.int .i64 n] w fun e w' => e = .returned (.bool false) ∧ w = w' := by
  by_cases h0 : 0 ≤ n
  · have h2 : decide (n ≤ 1099511627776) = false := by simp; omega
    clear h
    go_enter Try.func104, Try.ntmps104
    go_wp2
    go_ret
    exact ⟨rfl, rfl⟩
  · have h2 : decide (0 ≤ n) = false := by simp; omega
    clear h h0
    go_enter Try.func104, Try.ntmps104
    go_wp2
    go_ret
    exact ⟨rfl, rfl⟩

theorem rbytes_any (n : Int) (w : World) (h0 : 0 ≤ n) (h1 : n ≤ 9223372036854775807) :
    Calls Try.prog 78 #[.int .i64 n] w fun e w' => ∃ A c, e = .returned (.slice A (Nm.enc n.toNat).length c) ∧ w'.ownsRow w.heap.size 5 1 (.slice A (Nm.enc n.toNat).length c) (Nm.enc n.toNat).length (cb (Nm.enc n.toNat)) ∧ Below w.heap.size w w' := by
  obtain ⟨n, rfl⟩ := Int.eq_ofNat_of_zero_le h0
  rw [Int.toNat_natCast]
  go_enter Try.func78, Try.ntmps78
  go_wp2
  go_loopw [0, 3] (fun y x wr => PutRel w.heap.size (.slice none 0 0) 0 [] n w x y wr) (fun y _ _ => (intOf y).toNat)
  case atStart => exact ⟨n, 0, [], rfl, h1, by simp, by simp, World.ownsRow_nil _ _ _ _, Grew.refl _ _, Nat.le_refl _⟩
  case round =>
    obtain ⟨k, m', d, rfl, hk, hd, hm', hown', hg, hbw⟩ := hrel
    have hl := Nm.enc_len10 (n := n) (by omega)
    have hd1 : d.length ≤ 10 := by rw [← hd, List.length_append] at hl; omega
    subst hm'
    by_cases hlt : 127 < k
    · have hlt2 : (128 : Int) ≤ (k : Int) := by omega
      go_wp2_with (at_builtin; refine app_b1 rfl (.tmp 6) (.tmp 11) rfl w.heap.size u3 (0 + d.length) ([] ++ d) rfl hown' ((k : Int) % 128 + 128) rfl ?c1 ?c2 ?c3 ?c4 ?_)
      try case c1 => omega
      try case c2 => omega
      try case c3 => omega
      try case c4 => omega
      · intro v' w1 hown2 hg2
        have HO := Lib.hid hown2
        have HG := Lib.hid hg2
        clear hown2 hg2
        go_wp2
        go_roundw
        case rel => exact putRel_step hk hd hg hbw hlt (by simpa using HO.out) HG.out
        case measure => simp [intOf]; omega
    · have hk2 : ¬ (128 : Int) ≤ (k : Int) := by omega
      go_wp2_with (at_builtin; refine app_b1 rfl (.tmp 15) (.tmp 18) rfl w.heap.size u3 (0 + d.length) ([] ++ d) rfl hown' (k : Int) rfl ?c1 ?c2 ?c3 ?c4 ?_)
      try case c1 => omega
      try case c2 => omega
      try case c3 => omega
      try case c4 => omega
      · intro v' w1 hown2 hg2
        have HO := Lib.hid hown2
        have HG := Lib.hid hg2
        clear hown2 hg2
        go_wp2
        go_ret
        have hend := putRel_end (l := []) (m := 0) hd hg hlt (by simpa using HO.out) HG.out
        obtain ⟨e1, e2⟩ := hend
        rw [Nat.zero_add, List.nil_append] at e1
        obtain ⟨A, c, rfl, _, _, _⟩ := own_form e1
        exact ⟨A, c, rfl, e1, e2.below (Nat.le_refl _) (by simp [Value.ownBlock])⟩

theorem rtextBytes (s : ByteArray) (l : List UInt8) (k : Nat) (w : World) (h : s.size ≤ 1000000000) (hl : Nm.txt s.data.toList = l) (hk : l.length = k) :
    Calls Try.prog 80 #[.string s] w fun e w' => ∃ A c, e = .returned (.slice A k c) ∧ w'.ownsRow w.heap.size 5 1 (.slice A k c) k (cb l) ∧ Below w.heap.size w w' := by
  have hs := size_data s
  have HL := Lib.hid hl
  have HK := Lib.hid hk
  have HS := Lib.hid hs
  clear hl hk hs
  go_enter Try.func80, Try.ntmps80
  go_wp2_with fail
  refine (rbytes_any s.size w (by omega) (by omega)).mono ?_
  rintro e w1 ⟨A1, c1, rfl, o1, b1⟩
  have O1 := Lib.hid o1
  have HB := Lib.hid b1
  have hz := b1.size
  have hle := Nm.enc_len10 (n := s.size) (by omega)
  clear o1 b1
  go_wp2_with (at_builtin; refine app_str rfl (.tmp 5) (.tmp 6) rfl w.heap.size _ _ _ rfl O1.out s rfl ?c1 ?c2 ?_)
  case c1 => simp; omega
  case c2 => exact hz
  · intro v2 w2 o2 g2
    have O2 := Lib.hid o2
    have B2 := Lib.hid ((Below.refl w.heap.size w1).grown g2 hz (fun k hk => (O1.out.lt k hk).1))
    clear o2 g2
    go_wp2
    go_ret
    have o3 : w2.ownsRow w.heap.size 5 1 v2 k (cb l) := by
      have := O2.out
      rw [← HK.out, ← HL.out]
      unfold Nm.txt
      rw [List.length_append, HS.out]
      simpa using this
    obtain ⟨A, c, rfl, _, _, _⟩ := own_form o3
    exact ⟨A, c, rfl, o3, HB.out.trans B2.out⟩

theorem rget_step {a x u k : Nat} (hu : u = 128 ^ k) (h : a < 128 ^ k) (hk : k ≤ 5) : wrap64 ((a : Int) + wrap64 ((x : Int) % 128 * (u : Int))) = ((a + x % 128 * 128 ^ k : Nat) : Int) := by
  have hp := pow_le hk
  subst hu
  have e2 : (x : Int) % 128 * ((128 ^ k : Nat) : Int) = ((x % 128 * 128 ^ k : Nat) : Int) := by
    push_cast
    rfl
  rw [e2]
  have hb : x % 128 * 128 ^ k ≤ 127 * 34359738368 := Nat.mul_le_mul (by omega) hp
  have e3 : wrap64 ((x % 128 * 128 ^ k : Nat) : Int) = ((x % 128 * 128 ^ k : Nat) : Int) := IntWalk.wrap64_in _ ⟨by omega, by omega⟩
  rw [e3]
  have e4 : (a : Int) + ((x % 128 * 128 ^ k : Nat) : Int) = ((a + x % 128 * 128 ^ k : Nat) : Int) := by omega
  rw [e4]
  exact IntWalk.wrap64_in _ ⟨by omega, by omega⟩

def RGetRel (l : List UInt8) (x y z : Value) : Prop := ∃ a u k : Nat, x = .int .i64 (a : Int) ∧ y = .int .i64 (u : Int) ∧ z = .int .i64 (k : Int) ∧ u = 128 ^ k ∧ k ≤ l.length ∧ k ≤ 6 ∧ a < 128 ^ k ∧ Nm.dec (l.drop k) k a = Nm.get l
theorem rget_any (A : Option Addr) (n c B : Nat) (l : List UInt8) (w : World) (hr : Reads w B 1 A n (cb l)) (hn : n ≤ 1000000000000) :
    Calls Try.prog 100 #[.slice A n c] w fun e w' => e = .returned (getV (Nm.get l)) ∧ w = w' := by
  have hl := hr.len_b
  go_enter Try.func100, Try.ntmps100
  go_wp2
  go_loop [5, 6, 7] (fun x y z => RGetRel l x y z) (fun _ _ z => n - (intOf z).toNat)
  case atStart => exact ⟨0, 1, 0, rfl, rfl, rfl, rfl, by omega, by omega, by simp, rfl⟩
  case round =>
    obtain ⟨a, u, k, rfl, rfl, rfl, hu, hk, hk6, ha, hd⟩ := hrel
    by_cases hlt : k < n
    · obtain ⟨ad, v, rfl, hb, hv, hc⟩ := hr.at_ hlt
      have hg : l[k]? = some (l[k]'(by omega)) := List.getElem?_eq_getElem (by omega)
      rw [cb_get, hg] at hv
      simp only [Option.map_some, Option.some.injEq] at hv
      subst hv
      rw [drop_at (by omega)] at hd
      clear hg
      generalize l[k]'(by omega) = x at *
      have hx := x.toNat_lt
      have HD := Lib.hid hd
      clear hd
      by_cases h5 : 5 < k
      · have h6 : ¬ k < 6 := by omega
        have h6b : decide (k < 6) = false := by simp; omega
        clear hu
        go_wp2
        go_ret3
        have hd := HD.out
        unfold Nm.dec at hd
        rw [if_pos h5] at hd
        rw [← hd]
        exact ⟨rfl, rfl⟩
      · have h6 : k < 6 := by omega
        have h6b : decide (k < 6) = true := by simp; omega
        have hs := rget_step (x := x.toNat) hu ha (by omega)
        have ha2 := get_lt (x := x.toNat) ha
        have hp := pow_le (k := k) (by omega)
        have hb2 : x.toNat % 128 * 128 ^ k ≤ 127 * 34359738368 := Nat.mul_le_mul (by omega) hp
        have hb3 : a + x.toNat % 128 * 128 ^ k ≤ 9223372036854775807 := by omega
        have hub : u ≤ 34359738368 := by omega
        have hu2 : u * 128 = 128 ^ (k + 1) := by rw [hu, Nat.pow_succ]
        have HU2 := Lib.hid hu2
        have hd : Nm.dec (x :: l.drop (k + 1)) k a = if 128 ≤ x.toNat then Nm.dec (l.drop (k + 1)) (k + 1) (a + x.toNat % 128 * 128 ^ k) else if x.toNat = 0 ∧ 0 < k ∨ 1099511627776 < a + x.toNat % 128 * 128 ^ k then none else some (a + x.toNat % 128 * 128 ^ k, k + 1) := by
          conv => lhs; unfold Nm.dec
          rw [if_neg (by omega)]
        rw [HD.out] at hd
        clear hb2 hp hu hu2 ha
        generalize a + x.toNat % 128 * 128 ^ k = a2 at *
        have HD2 := Lib.hid hd
        clear hd HD
        by_cases h127 : 128 ≤ x.toNat
        · go_wp2
          go_round
          case rel => exact ⟨a2, u * 128, k + 1, congrArg (Value.int .i64) hs, by go_num, by go_num, HU2.out, by omega, by omega, ha2, by rw [HD2.out, if_pos h127]⟩
          case measure => simp [intOf]; omega
        · by_cases h0 : x.toNat = 0 ∧ 0 < k
          · obtain ⟨h0, h0k⟩ := h0
            have hz : ((x.toNat : Int) == 0) = true := by simp [h0]
            have H0 := Lib.hid h0
            clear h0
            go_wp2
            go_ret3
            rw [HD2.out, if_neg h127, if_pos (Or.inl ⟨H0.out, h0k⟩)]
            exact ⟨rfl, rfl⟩
          · have H0 := Lib.hid h0
            by_cases hk0 : 0 < k
            · have hz : ((x.toNat : Int) == 0) = false := by simp; omega
              clear h0
              by_cases hm : 1099511627776 < a2
              · have hi := Lib.hid (rin_no (a2 : Int) w (by omega))
                go_wp2_with (first | (with_reducible refine hi.out.mono ?_; rintro e w' ⟨rfl, rfl⟩))
                go_ret3
                rw [HD2.out, if_neg h127, if_pos (Or.inr hm)]
                exact ⟨rfl, rfl⟩
              · have hi := Lib.hid (rin_yes (a2 : Int) w (by omega) (by omega))
                go_wp2_with (first | (with_reducible refine hi.out.mono ?_; rintro e w' ⟨rfl, rfl⟩))
                go_ret3
                rw [HD2.out, if_neg h127, if_neg (fun h => h.elim (fun h => H0.out h) hm)]
                exact ⟨rfl, rfl⟩
            · have hk1 : decide (0 < k) = false := by simp; omega
              clear h0
              by_cases hm : 1099511627776 < a2
              · have hi := Lib.hid (rin_no (a2 : Int) w (by omega))
                go_wp2_with (first | (with_reducible refine hi.out.mono ?_; rintro e w' ⟨rfl, rfl⟩))
                go_ret3
                rw [HD2.out, if_neg h127, if_pos (Or.inr hm)]
                exact ⟨rfl, rfl⟩
              · have hi := Lib.hid (rin_yes (a2 : Int) w (by omega) (by omega))
                go_wp2_with (first | (with_reducible refine hi.out.mono ?_; rintro e w' ⟨rfl, rfl⟩))
                go_ret3
                rw [HD2.out, if_neg h127, if_neg (fun h => h.elim (fun h => H0.out h) hm)]
                exact ⟨rfl, rfl⟩
    · clear hu
      go_wp2
      go_ret3
      have hd2 := hd
      rw [List.drop_eq_nil_of_le (by omega)] at hd2
      rw [← hd2]
      exact ⟨rfl, rfl⟩
theorem rget_is (A : Option Addr) (n c B : Nat) (l : List UInt8) (m k : Nat) (w : World) (hr : Reads w B 1 A n (cb l)) (hn : n ≤ 1000000000000) (h : Nm.get l = some (m, k)) :
    Calls Try.prog 100 #[.slice A n c] w fun e w' => e = .returned (.tuple #[.int .i64 (m : Int), .int .i64 (k : Int), .int .i64 0]) ∧ w = w' := by
  have := rget_any A n c B l w hr hn
  rw [h] at this
  exact this
theorem rget_no (A : Option Addr) (n c B : Nat) (l : List UInt8) (w : World) (hr : Reads w B 1 A n (cb l)) (hn : n ≤ 1000000000000) (h : Nm.get l = none) :
    Calls Try.prog 100 #[.slice A n c] w fun e w' => e = .returned (.tuple #[.int .i64 0, .int .i64 0, .int .i64 8]) ∧ w = w' := by
  have := rget_any A n c B l w hr hn
  rw [h] at this
  exact this

theorem rgetText_any (A : Option Addr) (n c B : Nat) (l : List UInt8) (w : World) (hr : Reads w B 1 A n (cb l)) (hc : n ≤ c) (hn : n ≤ 1000000000000) :
    Calls Try.prog 102 #[.slice A n c] w fun e w' => e = .returned (getTextV (Nm.getText l)) ∧ w = w' := by
  have hl := hr.len_b
  have HG := Lib.hid (rget_any A n c B l w hr hn)
  cases hg : Nm.get l with
  | none =>
    have e : Nm.getText l = none := by unfold Nm.getText; rw [hg]
    rw [e]
    have HG2 : Hid (Calls Try.prog 100 #[.slice A n c] w fun e w' => e = .returned (.tuple #[.int .i64 0, .int .i64 0, .int .i64 8]) ∧ w = w') := by
      have := HG.out
      rw [hg] at this
      exact this
    clear HG hg e
    go_enter Try.func102, Try.ntmps102
    go_wp2_with (first | (with_reducible refine HG2.out.mono ?_; rintro e w' ⟨rfl, rfl⟩))
    go_ret3
    exact ⟨rfl, rfl⟩
  | some p =>
    obtain ⟨m, k⟩ := p
    obtain ⟨h1, h2, h3, h4⟩ := Nm.get_back hg
    have HG2 : Hid (Calls Try.prog 100 #[.slice A n c] w fun e w' => e = .returned (.tuple #[.int .i64 (m : Int), .int .i64 (k : Int), .int .i64 0]) ∧ w = w') := by
      have := HG.out
      rw [hg] at this
      exact this
    have hkn : k ≤ n := by omega
    by_cases hbad : 4096 < m ∨ n - k < m
    · have e : Nm.getText l = none := by unfold Nm.getText; rw [hg, hl]; simp only; rw [if_pos hbad]
      rw [e]
      clear HG hg e h2 h4
      by_cases hb1 : 4096 < m
      · clear hbad hl
        go_enter Try.func102, Try.ntmps102
        go_wp2_with (first | (with_reducible refine HG2.out.mono ?_; rintro e w' ⟨rfl, rfl⟩))
        go_ret3
        exact ⟨rfl, rfl⟩
      · have hb2 : (n : Int) - (k : Int) < (m : Int) := by omega
        clear hbad hl
        go_enter Try.func102, Try.ntmps102
        go_wp2_with (first | (with_reducible refine HG2.out.mono ?_; rintro e w' ⟨rfl, rfl⟩))
        go_ret3
        exact ⟨rfl, rfl⟩
    · have e : Nm.getText l = some ((l.drop k).take m, k + m) := by unfold Nm.getText; rw [hg, hl]; simp only; rw [if_neg hbad]
      rw [e]
      have hb1 : ¬ 4096 < m := by omega
      have hb2 : ¬ (n : Int) - (k : Int) < (m : Int) := by omega
      have hs := fun w => run_slice_mid (P := Try.prog) Try.underlying46 A n c k m (by omega) w u8_size
      have hr2 := (hr.rest (k := k) (c := c) (by omega) hc).first (k := m) (by omega)
      rw [cb_drop, cb_take] at hr2
      have hv := run_conv (P := Try.prog) Try.underlying46 Try.underlying5 Try.underlying9 (c := c - k) hr2
      clear HG hg e h2 h4 hr2 hr hl
      have H3 := Lib.hid h3
      clear hbad
      go_enter Try.func102, Try.ntmps102
      go_wp2_with (first | (with_reducible refine HG2.out.mono ?_; rintro e w' ⟨rfl, rfl⟩))
      go_ret3
      exact ⟨rfl, rfl⟩
end Go.Proofs.Ytaoekfgeggopbaa
