/-
  Layer 24: net.Drop, net.Between.
-/
import Derived.Test.YtmchnjnknnolmaaNetD
import Derived.Test.YtmchnjnknnolmaaAppI
namespace Go.Proofs.Ytmchnjnknnolmaa
open Go.RowKit Bal Go.Sort Go.BigFrame
set_option maxHeartbeats 4000000
set_option maxRecDepth 100000
set_option linter.unusedVariables false
set_option linter.unusedSimpArgs false

theorem ndrop_bad (A : Option Addr) (n c : Nat) (l : List Wp.Mail) (w : World) (hr : Reads w w.heap.size 10 A n (cm l)) (hc : n ≤ c) (hl : ∀ m ∈ l, IsMailM m) (hn : n ≤ 100000) (k : Int) (hok : okMails l = false) :
    Calls Try.prog 23 #[.slice A n c, .int .i64 k] w fun e w' => e = .returned (.tuple #[.slice none 0 0, .int .i64 8]) ∧ Below w.heap.size w w' := by
  have HC := Lib.hid (ntake_bad A n c l w hr hc hl hn k hok)
  clear hr hl hok
  go_enter Try.func23, Try.ntmps23
  go_wp2_with fail
  refine HC.out.mono ?_
  rintro e w1 ⟨rfl, hb⟩
  have B1 := Lib.hid (hb.alloc hb.size (.cells #[.int .i64 0, .int .i64 0, .int .u8 0, .int .i64 0, .int .i64 0, .int .i64 0, .int .i64 0, .string ⟨#[]⟩, .int .i64 0, .int .i64 0] 25))
  clear hb HC
  go_wp2
  go_ret2
  exact ⟨rfl, B1.out⟩
theorem ndrop_arg (A : Option Addr) (n c : Nat) (l : List Wp.Mail) (w : World) (hr : Reads w w.heap.size 10 A n (cm l)) (hc : n ≤ c) (hl : ∀ m ∈ l, IsMailM m) (hn : n ≤ 100000) (k : Int) (hk : k < 0 ∨ (n : Int) ≤ k) (hok : okMails l = true) :
    Calls Try.prog 23 #[.slice A n c, .int .i64 k] w fun e w' => e = .returned (.tuple #[.slice none 0 0, .int .i64 2]) ∧ Below w.heap.size w w' := by
  have HC := Lib.hid (ntake_arg A n c l w hr hc hl hn k hk hok)
  clear hr hl hok hk
  go_enter Try.func23, Try.ntmps23
  go_wp2_with fail
  refine HC.out.mono ?_
  rintro e w1 ⟨rfl, hb⟩
  have B1 := Lib.hid (hb.alloc hb.size (.cells #[.int .i64 0, .int .i64 0, .int .u8 0, .int .i64 0, .int .i64 0, .int .i64 0, .int .i64 0, .string ⟨#[]⟩, .int .i64 0, .int .i64 0] 25))
  clear hb HC
  go_wp2
  go_ret2
  exact ⟨rfl, B1.out⟩
theorem ndrop_ok (A : Option Addr) (n c : Nat) (l : List Wp.Mail) (w : World) (hr : Reads w w.heap.size 10 A n (cm l)) (hc : n ≤ c) (hl : ∀ m ∈ l, IsMailM m) (hn : n ≤ 100000) (k : Nat) (m : Wp.Mail) (hk : l[k]? = some m) (hok : okMails l = true) :
    Calls Try.prog 23 #[.slice A n c, .int .i64 (k : Int)] w fun e w' => ∃ A3 c3, e = .returned (.tuple #[.slice A3 (n - 1) c3, .int .i64 0]) ∧ w'.ownsRow w.heap.size 25 10 (.slice A3 (n - 1) c3) (n - 1) (cm (l.take k ++ l.drop (k + 1))) ∧ Below w.heap.size w w' := by
  have HC := ntake_ok A n c l w hr hc hl hn k m hk hok
  obtain ⟨U, hU⟩ : ∃ U, S m.v = U := ⟨_, rfl⟩
  have eA : mA m = #[.int .i64 m.f, .int .i64 m.t, .int .u8 m.k, .int .i64 m.g, .int .i64 m.s, .int .i64 m.b, .int .i64 m.p, .string U, .int .i64 m.i, .int .i64 m.tm] := by rw [← hU]; rfl
  rw [eA] at HC
  have H := Lib.hid HC
  clear hr hl hok hk eA hU HC
  go_enter Try.func23, Try.ntmps23
  go_wp2_with fail
  refine H.out.mono ?_
  rintro e w1 ⟨A3, c3, rfl, ho, hb⟩
  have HO := Lib.hid (ho.alloc (.cells #[.int .i64 m.f, .int .i64 m.t, .int .u8 m.k, .int .i64 m.g, .int .i64 m.s, .int .i64 m.b, .int .i64 m.p, .string U, .int .i64 m.i, .int .i64 m.tm] 25))
  have B1 := Lib.hid (hb.alloc hb.size (.cells #[.int .i64 m.f, .int .i64 m.t, .int .u8 m.k, .int .i64 m.g, .int .i64 m.s, .int .i64 m.b, .int .i64 m.p, .string U, .int .i64 m.i, .int .i64 m.tm] 25))
  clear hb ho H
  go_wp2
  go_ret2
  exact ⟨_, _, rfl, HO.out, B1.out⟩

def btwA (a b : Int) : List Wp.Mail → Nat → List Int
  | [], _ => []
  | m :: l, i => (if m.f = a ∧ m.t = b then [(i : Int)] else []) ++ btwA a b l (i + 1)
def btw (a b : Int) (l : List Wp.Mail) : List Int := btwA a b l 0
theorem btwA_snoc (a b : Int) (m : Wp.Mail) : ∀ (l : List Wp.Mail) (i : Nat), btwA a b (l ++ [m]) i = btwA a b l i ++ (if m.f = a ∧ m.t = b then [((i + l.length : Nat) : Int)] else [])
  | [], i => by simp [btwA]
  | x :: l, i => by
    rw [List.cons_append, btwA, btwA, btwA_snoc a b m l (i + 1), List.append_assoc, List.length_cons, show i + 1 + l.length = i + (l.length + 1) by omega]
theorem btwA_len (a b : Int) : ∀ (l : List Wp.Mail) (i : Nat), (btwA a b l i).length ≤ l.length
  | [], _ => by simp [btwA]
  | m :: l, i => by
    have := btwA_len a b l (i + 1)
    rw [btwA, List.length_append, List.length_cons]
    split <;> simp <;> omega
theorem btw_take (a b : Int) {l : List Wp.Mail} {k : Nat} {m : Wp.Mail} (h : l[k]? = some m) : btw a b (l.take (k + 1)) = btw a b (l.take k) ++ (if m.f = a ∧ m.t = b then [(k : Int)] else []) := by
  obtain ⟨hk, rfl⟩ := List.getElem?_eq_some_iff.1 h
  rw [List.take_succ_eq_append_getElem hk, btw, btwA_snoc, Nat.zero_add, List.length_take, Nat.min_eq_left (Nat.le_of_lt hk)]
  rfl

theorem nbetween_bad (A : Option Addr) (n c : Nat) (l : List Wp.Mail) (w : World) (hr : Reads w w.heap.size 10 A n (cm l)) (hc : n ≤ c) (hl : ∀ m ∈ l, IsMailM m) (hn : n ≤ 100000) (a b : Int) (hok : okMails l = false) :
    Calls Try.prog 36 #[.slice A n c, .int .i64 a, .int .i64 b] w fun e w' => e = .returned (.tuple #[.slice none 0 0, .int .i64 8]) ∧ Below w.heap.size w w' := by
  have H := Lib.hid (ncheck_any A n c l w false hok hr hl (by omega))
  clear hr hl hok
  go_enter Try.func36, Try.ntmps36
  go_wp2_with fail
  refine H.out.mono ?_
  rintro e w1 ⟨rfl, hb⟩
  have B1 := Lib.hid hb
  clear hb H
  go_wp2
  go_ret2
  exact ⟨rfl, B1.out⟩
theorem nbetween_arg (A : Option Addr) (n c : Nat) (l : List Wp.Mail) (w : World) (hr : Reads w w.heap.size 10 A n (cm l)) (hc : n ≤ c) (hl : ∀ m ∈ l, IsMailM m) (hn : n ≤ 100000) (a b : Int) (hab : ¬ ((0 ≤ a ∧ a ≤ 5) ∧ (0 ≤ b ∧ b ≤ 5))) (hok : okMails l = true) :
    Calls Try.prog 36 #[.slice A n c, .int .i64 a, .int .i64 b] w fun e w' => e = .returned (.tuple #[.slice none 0 0, .int .i64 2]) ∧ Below w.heap.size w w' := by
  have H := Lib.hid (ncheck_any A n c l w true hok hr hl (by omega))
  clear hr hl hok
  by_cases a0 : a < 0
  rotate_left
  by_cases a1 : 6 ≤ a
  rotate_left
  by_cases b0 : b < 0
  rotate_left
  have b1 : 6 ≤ b := by omega
  all_goals clear hab
  all_goals (
    go_enter Try.func36, Try.ntmps36
    go_wp2_with fail
    refine H.out.mono ?_
    rintro e w1 ⟨rfl, hb⟩
    have B1 := Lib.hid hb
    clear hb H
    go_wp2
    go_ret2
    exact ⟨rfl, B1.out⟩)
theorem nbetween_ok (A : Option Addr) (n c : Nat) (l : List Wp.Mail) (w : World) (hr : Reads w w.heap.size 10 A n (cm l)) (hc : n ≤ c) (hl : ∀ m ∈ l, IsMailM m) (hn : n ≤ 100000) (a b : Int) (ha : 0 ≤ a ∧ a ≤ 5) (hb : 0 ≤ b ∧ b ≤ 5) (hok : okMails l = true) (q : Nat) (r : List Int) (hr' : btw a b l = r) (hq : r.length = q) :
    Calls Try.prog 36 #[.slice A n c, .int .i64 a, .int .i64 b] w fun e w' => ∃ A3 c3, e = .returned (.tuple #[.slice A3 q c3, .int .i64 0]) ∧ w'.ownsRow w.heap.size 3 1 (.slice A3 q c3) q (ci r) ∧ Below w.heap.size w w' := by
  obtain ⟨a0, a1⟩ := ha
  obtain ⟨b0, b1⟩ := hb
  have hlen := hr.len_m
  have H := Lib.hid (ncheck_any A n c l w true hok hr hl (by omega))
  have HR := Lib.hid hr
  have HRR := Lib.hid hr'
  have HQ := Lib.hid hq
  have HLN := Lib.hid hlen
  clear hr hl hok hr' hq hlen
  have na0 : ¬ a < 0 := by omega
  have na1 : ¬ 6 ≤ a := by omega
  have nb0 : ¬ b < 0 := by omega
  have nb1 : ¬ 6 ≤ b := by omega
  go_enter Try.func36, Try.ntmps36
  go_wp2_with fail
  refine H.out.mono ?_
  rintro e w1 ⟨rfl, hb⟩
  have B1 := Lib.hid hb
  clear hb H
  go_wp2_with fail
  go_loopw [9, 33] (fun x y wr => ∃ (k p : Nat), y = .int .i64 (k : Int) ∧ k ≤ n ∧ (btw a b (l.take k)).length = p ∧ wr.ownsRow w.heap.size 3 1 x p (ci (btw a b (l.take k))) ∧ Below w.heap.size w wr) (fun _ y _ => n - (intOf y).toNat)
  case atStart => exact ⟨0, 0, rfl, Nat.zero_le _, rfl, World.ownsRow_nil _ _ _ _, B1.out⟩
  case round =>
    obtain ⟨k, p, rfl, hk, hp, ho, hb⟩ := hrel
    by_cases hlt : k < n
    · obtain ⟨g, off, m, e, hg, hm, hc⟩ := (HR.out.below hb).mail hlt
      have hpl : p ≤ 100000 := by
        have h1 := btwA_len a b (l.take k) 0
        have h2 := List.length_take_le k l
        unfold btw at hp
        omega
      obtain ⟨U, hU⟩ : ∃ U, S m.v = U := ⟨_, rfl⟩
      have eA : mA m = #[.int .i64 m.f, .int .i64 m.t, .int .u8 m.k, .int .i64 m.g, .int .i64 m.s, .int .i64 m.b, .int .i64 m.p, .string U, .int .i64 m.i, .int .i64 m.tm] := by rw [← hU]; rfl
      subst e
      have EA := Lib.hid eA
      have HM := Lib.hid hm
      have HCC := Lib.hid hc
      have HO := Lib.hid (ho.alloc (.cells #[.int .i64 m.f, .int .i64 m.t, .int .u8 m.k, .int .i64 m.g, .int .i64 m.s, .int .i64 m.b, .int .i64 m.p, .string U, .int .i64 m.i, .int .i64 m.tm] 25))
      have HB := Lib.hid (hb.alloc hb.size (.cells #[.int .i64 m.f, .int .i64 m.t, .int .u8 m.k, .int .i64 m.g, .int .i64 m.s, .int .i64 m.b, .int .i64 m.p, .string U, .int .i64 m.i, .int .i64 m.tm] 25))
      have HP := Lib.hid hp
      have hz : wr.heap.size < wr.heap.size + 1 := by omega
      clear eA hU hm hc ho hb hp B1
      by_cases e1 : m.f = a
      · by_cases e2 : m.t = b
        · have HT : Hid (btw a b (l.take (k + 1)) = btw a b (l.take k) ++ [(k : Int)]) := by rw [Hid, btw_take a b HM.out, if_pos ⟨e1, e2⟩]
          have t1 : (m.f == a) = true := by simpa using e1
          have t2 : (m.t == b) = true := by simpa using e2
          clear e1 e2
          go_upto_region 11 with (first | ((with_reducible refine wpList_load_mid rfl _ _ rfl _ _ rfl _ _ HCC.out Try.underlying25 rfl (by kernel_rfl) ?_); rw [show (mcells m).toArray = #[.int .i64 m.f, .int .i64 m.t, .int .u8 m.k, .int .i64 m.g, .int .i64 m.s, .int .i64 m.b, .int .i64 m.p, .string U, .int .i64 m.i, .int .i64 m.tm] from EA.out]) | fail)
          generalize wr.alloc (.cells #[.int .i64 m.f, .int .i64 m.t, .int .u8 m.k, .int .i64 m.g, .int .i64 m.s, .int .i64 m.b, .int .i64 m.p, .string U, .int .i64 m.i, .int .i64 m.tm] 25) = W9 at *
          go_wp2_with (at_builtin; refine app_i1 rfl (.tmp 48) (.tmp 50) rfl w.heap.size u9 p (btw a b (l.take k)) rfl HO.out (k : Int) rfl ?c1 ?c2 ?_)
          case c1 => omega
          case c2 => exact HB.out.size
          intro v2 w2 o2 g2
          have O2 := Lib.hid o2
          have B2 := Lib.hid (HB.out.trans (g2.belowOwn HO.out HB.out.size))
          clear o2 g2
          go_wp2
          go_roundw
          case rel => exact ⟨k + 1, p + 1, by go_num, by omega, by rw [HT.out, List.length_append, HP.out]; rfl, by rw [HT.out]; exact O2.out, B2.out⟩
          case measure => simp [intOf]; omega
        · have HT : Hid (btw a b (l.take (k + 1)) = btw a b (l.take k)) := by rw [Hid, btw_take a b HM.out, if_neg (fun x => e2 x.2), List.append_nil]
          have t1 : (m.f == a) = true := by simpa using e1
          have t2 : (m.t == b) = false := by simpa using e2
          clear e1 e2
          go_wp2_with (first | ((with_reducible refine wpList_load_mid rfl _ _ rfl _ _ rfl _ _ HCC.out Try.underlying25 rfl (by kernel_rfl) ?_); rw [show (mcells m).toArray = #[.int .i64 m.f, .int .i64 m.t, .int .u8 m.k, .int .i64 m.g, .int .i64 m.s, .int .i64 m.b, .int .i64 m.p, .string U, .int .i64 m.i, .int .i64 m.tm] from EA.out]) | fail)
          go_roundw
          case rel => exact ⟨k + 1, p, by go_num, by omega, by rw [HT.out, HP.out], by rw [HT.out]; exact HO.out, HB.out⟩
          case measure => simp [intOf]; omega
      · have HT : Hid (btw a b (l.take (k + 1)) = btw a b (l.take k)) := by rw [Hid, btw_take a b HM.out, if_neg (fun x => e1 x.1), List.append_nil]
        have t1 : (m.f == a) = false := by simpa using e1
        clear e1
        go_wp2_with (first | ((with_reducible refine wpList_load_mid rfl _ _ rfl _ _ rfl _ _ HCC.out Try.underlying25 rfl (by kernel_rfl) ?_); rw [show (mcells m).toArray = #[.int .i64 m.f, .int .i64 m.t, .int .u8 m.k, .int .i64 m.g, .int .i64 m.s, .int .i64 m.b, .int .i64 m.p, .string U, .int .i64 m.i, .int .i64 m.tm] from EA.out]) | fail)
        go_roundw
        case rel => exact ⟨k + 1, p, by go_num, by omega, by rw [HT.out, HP.out], by rw [HT.out]; exact HO.out, HB.out⟩
        case measure => simp [intOf]; omega
    · have HE : Hid (l.take k = l) := List.take_of_length_le (by have := HLN.out; omega)
      rw [HE.out] at hp ho
      have hpq : Hid (p = q) := by rw [Hid, ← hp, HRR.out, HQ.out]
      have HO : Hid (wr.ownsRow w.heap.size 3 1 u9 q (ci r)) := by rw [Hid, ← HRR.out, ← hpq.out]; exact ho
      have HB := Lib.hid hb
      obtain ⟨A3, c3, rfl, -, -, -⟩ := own_form HO.out
      clear hp ho hb
      go_wp2
      go_ret2
      exact ⟨_, _, rfl, HO.out, HB.out⟩
end Go.Proofs.Ytmchnjnknnolmaa
