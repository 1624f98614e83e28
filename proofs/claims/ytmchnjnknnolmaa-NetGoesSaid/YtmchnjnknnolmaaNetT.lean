/-
  The reference of layer 24: Between; mail compared.
-/
import Derived.Test.YtmchnjnknnolmaaNetR
import Derived.Deep.QuietTactic
namespace Go.Proofs.Ytmchnjnknnolmaa
open Go.RowKit Bal Go.Sort Go.BigFrame
set_option maxHeartbeats 4000000
set_option maxRecDepth 100000
set_option linter.unusedVariables false
set_option linter.unusedSimpArgs false

theorem rnode05_yes (x : Int) (w : World) (h : 0 ≤ x ∧ x ≤ 5) : Calls Try.prog 80 #[.int .i64 x] w fun e w' => e = .returned (.bool true) ∧ w = w' := rnode_yes x w (decide_eq_true h)
theorem rnode05_no (x : Int) (w : World) (h : ¬ (0 ≤ x ∧ x ≤ 5)) : Calls Try.prog 80 #[.int .i64 x] w fun e w' => e = .returned (.bool false) ∧ w = w' := rnode_no x w (decide_eq_false h)
theorem rbetween_bad (A : Option Addr) (n c : Nat) (l : List Wp.Mail) (w : World) (hr : Reads w w.heap.size 10 A n (cm l)) (hc : n ≤ c) (hl : ∀ m ∈ l, IsMailM m) (hn : n ≤ 100000) (a b : Int) (hok : okMails l = false) :
    Calls Try.prog 40 #[.slice A n c, .int .i64 a, .int .i64 b] w fun e w' => e = .returned (.tuple #[.slice none 0 0, .int .i64 8]) ∧ Below w.heap.size w w' := by
  have H := Lib.hid (rMay_any A n c l w false hok hr hl (by omega))
  clear hr hl hok
  go_enter Try.func40, Try.ntmps40
  go_wp2_with fail
  refine H.out.mono ?_
  rintro e w1 ⟨rfl, hb⟩
  have B1 := Lib.hid hb
  clear hb H
  go_wp2
  go_ret2
  exact ⟨rfl, B1.out⟩
theorem rbetween_arg (A : Option Addr) (n c : Nat) (l : List Wp.Mail) (w : World) (hr : Reads w w.heap.size 10 A n (cm l)) (hc : n ≤ c) (hl : ∀ m ∈ l, IsMailM m) (hn : n ≤ 100000) (a b : Int) (hab : ¬ ((0 ≤ a ∧ a ≤ 5) ∧ (0 ≤ b ∧ b ≤ 5))) (hok : okMails l = true) :
    Calls Try.prog 40 #[.slice A n c, .int .i64 a, .int .i64 b] w fun e w' => e = .returned (.tuple #[.slice none 0 0, .int .i64 2]) ∧ Below w.heap.size w w' := by
  have H := Lib.hid (rMay_any A n c l w true hok hr hl (by omega))
  clear hr hl hok
  by_cases ha : 0 ≤ a ∧ a ≤ 5
  · have hb : ¬ (0 ≤ b ∧ b ≤ 5) := fun x => hab ⟨ha, x⟩
    have N1 := Lib.hid (fun w => rnode05_yes a w ha)
    have N2 := Lib.hid (fun w => rnode05_no b w hb)
    clear ha hb hab
    go_enter Try.func40, Try.ntmps40
    go_wp2_with fail
    refine H.out.mono ?_
    rintro e w1 ⟨rfl, hb⟩
    have B1 := Lib.hid hb
    clear hb H
    go_wp2_with fail
    refine (N1.out _).mono ?_
    rintro e w' ⟨rfl, rfl⟩
    go_wp2_with fail
    refine (N2.out _).mono ?_
    rintro e w' ⟨rfl, rfl⟩
    go_wp2
    go_ret2
    exact ⟨rfl, B1.out⟩
  · have N1 := Lib.hid (fun w => rnode05_no a w ha)
    clear ha hab
    go_enter Try.func40, Try.ntmps40
    go_wp2_with fail
    refine H.out.mono ?_
    rintro e w1 ⟨rfl, hb⟩
    have B1 := Lib.hid hb
    clear hb H
    go_wp2_with fail
    refine (N1.out _).mono ?_
    rintro e w' ⟨rfl, rfl⟩
    go_wp2
    go_ret2
    exact ⟨rfl, B1.out⟩
theorem rbetween_ok (A : Option Addr) (n c : Nat) (l : List Wp.Mail) (w : World) (hr : Reads w w.heap.size 10 A n (cm l)) (hc : n ≤ c) (hl : ∀ m ∈ l, IsMailM m) (hn : n ≤ 100000) (a b : Int) (ha : 0 ≤ a ∧ a ≤ 5) (hb : 0 ≤ b ∧ b ≤ 5) (hok : okMails l = true) (q : Nat) (r : List Int) (hr' : btw a b l = r) (hq : r.length = q) :
    Calls Try.prog 40 #[.slice A n c, .int .i64 a, .int .i64 b] w fun e w' => ∃ A3 c3, e = .returned (.tuple #[.slice A3 q c3, .int .i64 0]) ∧ w'.ownsRow w.heap.size 3 1 (.slice A3 q c3) q (ci r) ∧ Below w.heap.size w w' := by
  have hlen := hr.len_m
  have H := Lib.hid (rMay_any A n c l w true hok hr hl (by omega))
  have N1 := Lib.hid (fun w => rnode05_yes a w ha)
  have N2 := Lib.hid (fun w => rnode05_yes b w hb)
  have HR := Lib.hid hr
  have HRR := Lib.hid hr'
  have HQ := Lib.hid hq
  have HLN := Lib.hid hlen
  clear hr hl hok hr' hq hlen ha hb
  go_enter Try.func40, Try.ntmps40
  go_wp2_with fail
  refine H.out.mono ?_
  rintro e w1 ⟨rfl, hb⟩
  have B1 := Lib.hid hb
  clear hb H
  go_wp2_with fail
  refine (N1.out _).mono ?_
  rintro e w' ⟨rfl, rfl⟩
  go_wp2_with fail
  refine (N2.out _).mono ?_
  rintro e w' ⟨rfl, rfl⟩
  go_wp2_with fail
  go_loopw [8, 9] (fun x y wr => ∃ (k p : Nat), y = .int .i64 (k : Int) ∧ k ≤ n ∧ (btw a b (l.take k)).length = p ∧ wr.ownsRow w.heap.size 3 1 x p (ci (btw a b (l.take k))) ∧ Below w.heap.size w wr) (fun _ y _ => n - (intOf y).toNat)
  case atStart => exact ⟨0, 0, rfl, Nat.zero_le _, rfl, World.ownsRow_nil _ _ _ _, B1.out⟩
  case round =>
    obtain ⟨k, p, rfl, hk, hp, ho, hb⟩ := hrel
    by_cases hlt : k < n
    · obtain ⟨g, off, m, e, hg, hm, hc⟩ := (HR.out.below hb).mail hlt
      have hpl : p ≤ 100000 := by
        have h1 := btwA_len a b (l.take k) 0
        have h2 := List.length_take_le k l
        unfold btw at hp
        omega
      subst e
      have c0 : wr.cell? ⟨g, off + k * 10, none⟩ = some (.int .i64 m.f) := hc 0 _ rfl
      have c1 : wr.cell? ⟨g, off + k * 10 + 1, none⟩ = some (.int .i64 m.t) := hc 1 _ rfl
      have HM := Lib.hid hm
      have HO := Lib.hid ho
      have HB := Lib.hid hb
      have HP := Lib.hid hp
      clear hm hc ho hb hp B1
      by_cases e1 : m.f = a
      · by_cases e2 : m.t = b
        · have HT : Hid (btw a b (l.take (k + 1)) = btw a b (l.take k) ++ [(k : Int)]) := by rw [Hid, btw_take a b HM.out, if_pos ⟨e1, e2⟩]
          have t1 : (m.f == a) = true := by simpa using e1
          have t2 : (m.t == b) = true := by simpa using e2
          clear e1 e2
          go_wp2_with (at_builtin; refine app_i1 rfl (.tmp 43) (.tmp 45) rfl w.heap.size u8 p (btw a b (l.take k)) rfl HO.out (k : Int) rfl ?c1 ?c2 ?_)
          case c1 => omega
          case c2 => exact HB.out.size
          intro v2 w2 o2 g2
          have O2 := Lib.hid o2
          have B2 := Lib.hid (HB.out.trans (g2.belowOwn HO.out HB.out.size))
          clear o2 g2
          go_wp2
          go_roundw
          case rel => exact ⟨k + 1, p + 1, by go_num, by omega, by rw [HT.out, List.length_append, HP.out]; rfl, by rw [HT.out]; exact O2.out, B2.out⟩
          case measure => simp [intOf]; omega
        · have HT : Hid (btw a b (l.take (k + 1)) = btw a b (l.take k)) := by rw [Hid, btw_take a b HM.out, if_neg (fun x => e2 x.2), List.append_nil]
          have t1 : (m.f == a) = true := by simpa using e1
          have t2 : (m.t == b) = false := by simpa using e2
          clear e1 e2
          go_wp2_with fail
          go_roundw
          case rel => exact ⟨k + 1, p, by go_num, by omega, by rw [HT.out, HP.out], by rw [HT.out]; exact HO.out, HB.out⟩
          case measure => simp [intOf]; omega
      · have HT : Hid (btw a b (l.take (k + 1)) = btw a b (l.take k)) := by rw [Hid, btw_take a b HM.out, if_neg (fun x => e1 x.1), List.append_nil]
        have t1 : (m.f == a) = false := by simpa using e1
        clear e1
        go_wp2_with fail
        go_roundw
        case rel => exact ⟨k + 1, p, by go_num, by omega, by rw [HT.out, HP.out], by rw [HT.out]; exact HO.out, HB.out⟩
        case measure => simp [intOf]; omega
    · have HE : Hid (l.take k = l) := List.take_of_length_le (by have := HLN.out; omega)
      rw [HE.out] at hp ho
      have hpq : Hid (p = q) := by rw [Hid, ← hp, HRR.out, HQ.out]
      have HO : Hid (wr.ownsRow w.heap.size 3 1 u8 q (ci r)) := by rw [Hid, ← HRR.out, ← hpq.out]; exact ho
      have HB := Lib.hid hb
      obtain ⟨A3, c3, rfl, -, -, -⟩ := own_form HO.out
      clear hp ho hb
      go_wp2
      go_ret2
      exact ⟨_, _, rfl, HO.out, HB.out⟩
theorem mNeqS (m : Wp.Mail) (w : World) : (binOp .neq 25 (.agg (mA m)) (.agg (mA m))).run Try.prog w = .ok (.bool false) w := by
  have h := mail_neq m.f m.t m.k m.g m.s m.b m.p m.i m.tm m.f m.t m.k m.g m.s m.b m.p m.i m.tm (S m.v) (S m.v) w
  rw [mail_self] at h
  exact h
theorem mEqInS (m : Wp.Mail) (w : World) : (Op.equalIn 10000 25 (.agg (mA m)) (.agg (mA m))).run Try.prog w = .ok true w := by
  rw [mail_eqInM]
  simp [eqM]
theorem rsame_any (A A2 : Option Addr) (n c c2 : Nat) (l : List Wp.Mail) (B B2 : Nat) (w : World) (hr : Reads w B 10 A n (cm l)) (hr2 : Reads w B2 10 A2 n (cm l)) (hn : n ≤ 1000000) :
    Calls Try.prog 41 #[.slice A n c, .slice A2 n c2] w fun e w' => e = .returned (.bool true) ∧ ∃ q, w' = w.drewN q := by
  have HR := Lib.hid hr
  have HR2 := Lib.hid hr2
  clear hr hr2
  go_enter Try.func41, Try.ntmps41
  go_wp2
  go_loopw [5] (fun y wr => ∃ (k q : Nat), y = .int .i64 (k : Int) ∧ k ≤ n ∧ wr = w.drewN q) (fun y _ => n - (intOf y).toNat)
  case atStart => exact ⟨0, 0, rfl, Nat.zero_le _, rfl⟩
  case round =>
    obtain ⟨k, q, rfl, hk, rfl⟩ := hrel
    by_cases hlt : k < n
    · obtain ⟨g, off, m, e, -, hm, hc⟩ := HR.out.mail hlt
      obtain ⟨g2, off2, m2, e2, -, hm2, hc2⟩ := HR2.out.mail hlt
      obtain rfl : m = m2 := by rw [hm] at hm2; injection hm2
      subst e e2
      obtain ⟨U, hU⟩ : ∃ U, S m.v = U := ⟨_, rfl⟩
      have eA : mA m = #[.int .i64 m.f, .int .i64 m.t, .int .u8 m.k, .int .i64 m.g, .int .i64 m.s, .int .i64 m.b, .int .i64 m.p, .string U, .int .i64 m.i, .int .i64 m.tm] := by rw [← hU]; rfl
      have zq := fun w => mNeqS m w
      have zq2 := fun w => mEqInS m w
      rw [eA] at zq zq2
      have x0 : w.cell? ⟨g, off + k * 10, none⟩ = some (.int .i64 m.f) := by have h := hc 0 _ rfl; exact h
      have x1 : w.cell? ⟨g, off + k * 10 + 1, none⟩ = some (.int .i64 m.t) := by have h := hc 1 _ rfl; exact h
      have x2 : w.cell? ⟨g, off + k * 10 + 2, none⟩ = some (.int .u8 m.k) := by have h := hc 2 _ rfl; exact h
      have x3 : w.cell? ⟨g, off + k * 10 + 3, none⟩ = some (.int .i64 m.g) := by have h := hc 3 _ rfl; exact h
      have x4 : w.cell? ⟨g, off + k * 10 + 4, none⟩ = some (.int .i64 m.s) := by have h := hc 4 _ rfl; exact h
      have x5 : w.cell? ⟨g, off + k * 10 + 5, none⟩ = some (.int .i64 m.b) := by have h := hc 5 _ rfl; exact h
      have x6 : w.cell? ⟨g, off + k * 10 + 6, none⟩ = some (.int .i64 m.p) := by have h := hc 6 _ rfl; exact h
      have x7 : w.cell? ⟨g, off + k * 10 + 7, none⟩ = some (.string U) := by have h := hc 7 _ rfl; rw [hU] at h; exact h
      have x8 : w.cell? ⟨g, off + k * 10 + 8, none⟩ = some (.int .i64 m.i) := by have h := hc 8 _ rfl; exact h
      have x9 : w.cell? ⟨g, off + k * 10 + 9, none⟩ = some (.int .i64 m.tm) := by have h := hc 9 _ rfl; exact h
      have y0 : w.cell? ⟨g2, off2 + k * 10, none⟩ = some (.int .i64 m.f) := by have h := hc2 0 _ rfl; exact h
      have y1 : w.cell? ⟨g2, off2 + k * 10 + 1, none⟩ = some (.int .i64 m.t) := by have h := hc2 1 _ rfl; exact h
      have y2 : w.cell? ⟨g2, off2 + k * 10 + 2, none⟩ = some (.int .u8 m.k) := by have h := hc2 2 _ rfl; exact h
      have y3 : w.cell? ⟨g2, off2 + k * 10 + 3, none⟩ = some (.int .i64 m.g) := by have h := hc2 3 _ rfl; exact h
      have y4 : w.cell? ⟨g2, off2 + k * 10 + 4, none⟩ = some (.int .i64 m.s) := by have h := hc2 4 _ rfl; exact h
      have y5 : w.cell? ⟨g2, off2 + k * 10 + 5, none⟩ = some (.int .i64 m.b) := by have h := hc2 5 _ rfl; exact h
      have y6 : w.cell? ⟨g2, off2 + k * 10 + 6, none⟩ = some (.int .i64 m.p) := by have h := hc2 6 _ rfl; exact h
      have y7 : w.cell? ⟨g2, off2 + k * 10 + 7, none⟩ = some (.string U) := by have h := hc2 7 _ rfl; rw [hU] at h; exact h
      have y8 : w.cell? ⟨g2, off2 + k * 10 + 8, none⟩ = some (.int .i64 m.i) := by have h := hc2 8 _ rfl; exact h
      have y9 : w.cell? ⟨g2, off2 + k * 10 + 9, none⟩ = some (.int .i64 m.tm) := by have h := hc2 9 _ rfl; exact h
      clear eA hm hm2 hU hc hc2
      go_wp2_with fail
      go_quiet (fail)
      go_wp2
      go_roundw
      case rel => exact ⟨k + 1, _, by go_num, by omega, rfl⟩
      case measure => simp [intOf]; omega
    · go_wp2
      go_ret
      exact ⟨rfl, q, rfl⟩
end Go.Proofs.Ytmchnjnknnolmaa
