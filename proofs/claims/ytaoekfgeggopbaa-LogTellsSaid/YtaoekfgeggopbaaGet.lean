/-
  The contract of num.Get: what is read off bytes, for any bytes; memory stays.
-/
import Derived.Test.YtaoekfgeggopbaaNum
namespace Go.Proofs.Ytaoekfgeggopbaa
open Go.RowKit
set_option maxHeartbeats 400000
set_option maxRecDepth 100000
set_option linter.unusedVariables false

/-- What Get returns. -/
def getV (r : Option (Nat × Nat)) : Value := match r with
  | some (m, k) => .tuple #[.int .i64 (m : Int), .int .i64 (k : Int), .int .i64 0]
  | none => .tuple #[.int .i64 0, .int .i64 0, .int .i64 8]

theorem ofInt_u8 (a : Nat) (ha : a < 256) : (BitVec.ofInt 8 (a : Int)).toNat = a := by
  rw [BitVec.ofInt_natCast, BitVec.toNat_ofNat]; exact Nat.mod_eq_of_lt (by omega)
theorem u8and127 (x : Nat) (h : x < 256) : bits .and .u8 (x : Int) 127 = ((x % 128 : Nat) : Int) := by
  have e : x &&& 127 = x % 128 := Nat.and_two_pow_sub_one_eq_mod x 7
  show IntKind.u8.wrap ((BitVec.ofInt 8 (x : Int) &&& BitVec.ofInt 8 ((127 : Nat) : Int)).toNat : Int) = _
  rw [BitVec.toNat_and, ofInt_u8 x h, ofInt_u8 127 (by omega), e, IntKind.wrap_u8]
  omega
theorem pow128 (k : Nat) : 2 ^ (7 * k) = 128 ^ k := by rw [Nat.pow_mul]
theorem or_shift {a y k : Nat} (h : a < 128 ^ k) : a ||| y * 128 ^ k = a + y * 128 ^ k := by
  rw [← pow128] at h ⊢
  have := Nat.two_pow_add_eq_or_of_lt h y
  rw [Nat.or_comm, Nat.mul_comm y, ← this]
  omega
theorem pow_le {k : Nat} (h : k ≤ 5) : 128 ^ k ≤ 34359738368 := Nat.le_trans (Nat.pow_le_pow_right (by omega) h) (by decide)
theorem get_step {a x k : Nat} (h : a < 128 ^ k) (hx : x < 256) (hk : k ≤ 5) :
    bits BinOp.or IntKind.i64 (a : Int) (wrap64 (wrap64 (bits BinOp.and IntKind.u8 (x : Int) 127) * 2 ^ (7 * k))) = ((a + x % 128 * 128 ^ k : Nat) : Int) := by
  have hp := pow_le hk
  rw [u8and127 x hx]
  have e1 : wrap64 (((x % 128 : Nat) : Int)) = ((x % 128 : Nat) : Int) := IntWalk.wrap64_in _ ⟨by omega, by omega⟩
  rw [e1]
  have e2 : ((x % 128 : Nat) : Int) * 2 ^ (7 * k) = ((x % 128 * 128 ^ k : Nat) : Int) := by
    rw [← pow128]
    push_cast
    rfl
  rw [e2]
  have hb : x % 128 * 128 ^ k ≤ 127 * 34359738368 := Nat.mul_le_mul (by omega) hp
  have e3 : wrap64 ((x % 128 * 128 ^ k : Nat) : Int) = ((x % 128 * 128 ^ k : Nat) : Int) := IntWalk.wrap64_in _ ⟨by omega, by omega⟩
  rw [e3, i64_or_nat _ _ (by omega) (by omega), or_shift h]
theorem get_lt {a x k : Nat} (h : a < 128 ^ k) : a + x % 128 * 128 ^ k < 128 ^ (k + 1) := by
  rw [Nat.pow_succ]
  generalize 128 ^ k = p at *
  have : x % 128 * p ≤ 127 * p := Nat.mul_le_mul_right _ (by omega)
  omega

def GetRel (l : List UInt8) (x y : Value) : Prop := ∃ a k : Nat, x = .int .i64 (a : Int) ∧ y = .int .i64 (k : Int) ∧ k ≤ l.length ∧ k ≤ 6 ∧ a < 128 ^ k ∧ Nm.dec (l.drop k) k a = Nm.get l
theorem drop_at {α : Type} {l : List α} {k : Nat} (h : k < l.length) : l.drop k = l[k] :: l.drop (k + 1) := List.drop_eq_getElem_cons h

theorem get_any (A : Option Addr) (n c B : Nat) (l : List UInt8) (w : World) (hr : Reads w B 1 A n (cb l)) (hn : n ≤ 1000000000000) :
    Calls Try.prog 96 #[.slice A n c] w fun e w' => e = .returned (getV (Nm.get l)) ∧ w = w' := by
  have hl := hr.len_b
  go_enter Try.func96, Try.ntmps96
  go_wp2
  go_loop [2, 9] (fun x y => GetRel l x y) (fun _ y => n - (intOf y).toNat)
  case atStart => exact ⟨0, 0, rfl, rfl, by omega, by omega, by simp, rfl⟩
  case round =>
    obtain ⟨a, k, rfl, rfl, hk, hk6, ha, hd⟩ := hrel
    by_cases hlt : k < n
    · obtain ⟨ad, u, rfl, hb, hu, hc⟩ := hr.at_ hlt
      have hg : l[k]? = some (l[k]'(by omega)) := List.getElem?_eq_getElem (by omega)
      rw [cb_get, hg] at hu
      simp only [Option.map_some, Option.some.injEq] at hu
      subst hu
      rw [drop_at (by omega)] at hd
      clear hg
      generalize l[k]'(by omega) = x at *
      have hx := x.toNat_lt
      have HD := Lib.hid hd
      clear hd
      by_cases h5 : 5 < k
      · go_wp2
        go_ret3
        have hd := HD.out
        unfold Nm.dec at hd
        rw [if_pos h5] at hd
        rw [← hd]
        exact ⟨rfl, rfl⟩
      · have hs := get_step ha hx (by omega)
        have ha2 := get_lt (x := x.toNat) ha
        have hp := pow_le (k := k) (by omega)
        have hb2 : x.toNat % 128 * 128 ^ k ≤ 127 * 34359738368 := Nat.mul_le_mul (by omega) hp
        have hb3 : a + x.toNat % 128 * 128 ^ k ≤ 9223372036854775807 := by omega
        have hd : Nm.dec (x :: l.drop (k + 1)) k a = if 128 ≤ x.toNat then Nm.dec (l.drop (k + 1)) (k + 1) (a + x.toNat % 128 * 128 ^ k) else if x.toNat = 0 ∧ 0 < k ∨ 1099511627776 < a + x.toNat % 128 * 128 ^ k then none else some (a + x.toNat % 128 * 128 ^ k, k + 1) := by
          conv => lhs; unfold Nm.dec
          rw [if_neg (by omega)]
        rw [HD.out] at hd
        clear hb2 hp
        generalize a + x.toNat % 128 * 128 ^ k = a2 at *
        have HD2 := Lib.hid hd
        clear hd HD
        by_cases h127 : 127 < x.toNat
        · go_wp2
          go_round
          case rel => exact ⟨a2, k + 1, rfl, by go_num, by omega, by omega, ha2, by rw [HD2.out, if_pos (by omega)]⟩
          case measure => simp [intOf]; omega
        · by_cases h0 : x.toNat = 0 ∧ 0 < k
          · obtain ⟨h0, h0k⟩ := h0
            have hz : ((x.toNat : Int) == 0) = true := by simp [h0]
            have H0 := Lib.hid h0
            clear h0
            go_wp2
            go_ret3
            rw [HD2.out, if_neg (by omega), if_pos (Or.inl ⟨H0.out, h0k⟩)]
            exact ⟨rfl, rfl⟩
          · have H0 := Lib.hid h0
            by_cases hx0 : x.toNat = 0
            · have hk0 : ¬ 0 < k := fun h => h0 ⟨hx0, h⟩
              have hz : ((x.toNat : Int) == 0) = true := by simp [hx0]
              have hk1 : decide (0 < k) = false := by simp; omega
              clear h0 hx0
              by_cases hm : 1099511627776 < a2
              · have hi := Lib.hid (in_no (a2 : Int) w (by omega))
                go_wp2_with (first | (with_reducible refine hi.out.mono ?_; rintro e w' ⟨rfl, rfl⟩))
                go_ret3
                rw [HD2.out, if_neg (by omega), if_pos (Or.inr hm)]
                exact ⟨rfl, rfl⟩
              · have hi := Lib.hid (in_yes (a2 : Int) w (by omega) (by omega))
                go_wp2_with (first | (with_reducible refine hi.out.mono ?_; rintro e w' ⟨rfl, rfl⟩))
                go_ret3
                rw [HD2.out, if_neg (by omega), if_neg (fun h => h.elim (fun h => H0.out h) hm)]
                exact ⟨rfl, rfl⟩
            · have hz : ((x.toNat : Int) == 0) = false := by simp; omega
              clear h0 hx0
              by_cases hm : 1099511627776 < a2
              · have hi := Lib.hid (in_no (a2 : Int) w (by omega))
                go_wp2_with (first | (with_reducible refine hi.out.mono ?_; rintro e w' ⟨rfl, rfl⟩))
                go_ret3
                rw [HD2.out, if_neg (by omega), if_pos (Or.inr hm)]
                exact ⟨rfl, rfl⟩
              · have hi := Lib.hid (in_yes (a2 : Int) w (by omega) (by omega))
                go_wp2_with (first | (with_reducible refine hi.out.mono ?_; rintro e w' ⟨rfl, rfl⟩))
                go_ret3
                rw [HD2.out, if_neg (by omega), if_neg (fun h => h.elim (fun h => H0.out h) hm)]
                exact ⟨rfl, rfl⟩
    · go_wp2
      go_ret3
      have hd2 := hd
      rw [List.drop_eq_nil_of_le (by omega)] at hd2
      rw [← hd2]
      exact ⟨rfl, rfl⟩
theorem get_is (A : Option Addr) (n c B : Nat) (l : List UInt8) (m k : Nat) (w : World) (hr : Reads w B 1 A n (cb l)) (hn : n ≤ 1000000000000) (h : Nm.get l = some (m, k)) :
    Calls Try.prog 96 #[.slice A n c] w fun e w' => e = .returned (.tuple #[.int .i64 (m : Int), .int .i64 (k : Int), .int .i64 0]) ∧ w = w' := by
  have := get_any A n c B l w hr hn
  rw [h] at this
  exact this
theorem get_no (A : Option Addr) (n c B : Nat) (l : List UInt8) (w : World) (hr : Reads w B 1 A n (cb l)) (hn : n ≤ 1000000000000) (h : Nm.get l = none) :
    Calls Try.prog 96 #[.slice A n c] w fun e w' => e = .returned (.tuple #[.int .i64 0, .int .i64 0, .int .i64 8]) ∧ w = w' := by
  have := get_any A n c B l w hr hn
  rw [h] at this
  exact this
end Go.Proofs.Ytaoekfgeggopbaa
