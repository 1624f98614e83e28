/-
  Contracts of package num: what each call returns, for every argument; new memory alone is written.
-/
import Derived.Test.YtaoekfgeggopbaaAppB
import Derived.Test.YtaoekfgeggopbaaNumPlain
namespace Go.Proofs.Ytaoekfgeggopbaa
open Go.RowKit
set_option maxHeartbeats 400000
set_option maxRecDepth 100000
set_option linter.unusedVariables false

theorem ofInt_i64 (a : Nat) (ha : a < 9223372036854775808) : (BitVec.ofInt 64 (a : Int)).toNat = a := by
  rw [BitVec.ofInt_natCast, BitVec.toNat_ofNat]; exact Nat.mod_eq_of_lt (by omega)
theorem i64_and_nat (a b : Nat) (ha : a < 9223372036854775808) (hb : b < 9223372036854775808) : bits .and .i64 (a : Int) (b : Int) = ((a &&& b : Nat) : Int) := by
  have hx : a &&& b < 2 ^ 63 := Nat.and_lt_two_pow _ (by omega)
  show IntKind.i64.wrap ((BitVec.ofInt 64 (a : Int) &&& BitVec.ofInt 64 (b : Int)).toNat : Int) = _
  rw [BitVec.toNat_and, ofInt_i64 a ha, ofInt_i64 b hb, IntKind.wrap_i64]
  omega
theorem i64_or_nat (a b : Nat) (ha : a < 9223372036854775808) (hb : b < 9223372036854775808) : bits .or .i64 (a : Int) (b : Int) = ((a ||| b : Nat) : Int) := by
  have hx : a ||| b < 2 ^ 63 := Nat.or_lt_two_pow (by omega) (by omega)
  show IntKind.i64.wrap ((BitVec.ofInt 64 (a : Int) ||| BitVec.ofInt 64 (b : Int)).toNat : Int) = _
  rw [BitVec.toNat_or, ofInt_i64 a ha, ofInt_i64 b hb, IntKind.wrap_i64]
  omega
theorem and127 (k : Nat) (hk : k < 9223372036854775808) : bits .and .i64 (k : Int) 127 = (k : Int) % 128 := by
  have h := i64_and_nat k 127 hk (by omega)
  have e : k &&& 127 = k % 128 := Nat.and_two_pow_sub_one_eq_mod k 7
  rw [e] at h
  exact h
theorem or128 (k : Nat) : bits .or .i64 ((k : Int) % 128) 128 = (k : Int) % 128 + 128 := by
  have h := i64_or_nat (k % 128) 128 (by omega) (by omega)
  have e : k % 128 ||| 128 = 128 + k % 128 := by
    have := Nat.two_pow_add_eq_or_of_lt (i := 7) (b := k % 128) (by omega) 1
    rw [Nat.or_comm]
    exact this.symm
  rw [e] at h
  have h2 : ((k % 128 : Nat) : Int) = (k : Int) % 128 := by omega
  rw [h2] at h
  rw [show ((128 : Nat) : Int) = 128 from rfl] at h
  rw [h]
  omega

theorem in_yes (n : Int) (w : World) (h0 : 0 ≤ n) (h1 : n ≤ 1099511627776) : Calls Try.prog 93 #[.int .i64 n] w fun e w' => e = .returned (.bool true) ∧ w = w' := by
  go_enter Try.func93, Try.ntmps93
  go_wp2
  go_ret
  exact ⟨rfl, rfl⟩
theorem in_no (n : Int) (w : World) (h : ¬ (0 ≤ n ∧ n ≤ 1099511627776)) : Calls Try.prog 93 #[.int .i64 n] w fun e w' => e = .returned (.bool false) ∧ w = w' := by
  by_cases h0 : 0 ≤ n
  · have h2 : decide (n ≤ 1099511627776) = false := by simp; omega
    clear h
    go_enter Try.func93, Try.ntmps93
    go_wp2
    go_ret
    exact ⟨rfl, rfl⟩
  · have h2 : decide (0 ≤ n) = false := by simp; omega
    clear h h0
    go_enter Try.func93, Try.ntmps93
    go_wp2
    go_ret
    exact ⟨rfl, rfl⟩

/-- What holds at each round of put. -/
def PutRel (base : Nat) (v : Value) (m : Nat) (l : List UInt8) (n : Nat) (w : World) (x y : Value) (wr : World) : Prop :=
  ∃ (k m' : Nat) (d : List UInt8), y = .int .i64 (k : Int) ∧ (k : Int) ≤ 9223372036854775807 ∧ d ++ Nm.enc k = Nm.enc n ∧ m' = m + d.length ∧ wr.ownsRow base 5 1 x m' (cb (l ++ d)) ∧ Grew w wr v x ∧ base ≤ wr.heap.size
theorem putRel_step {base m n k : Nat} {v x x' : Value} {l d : List UInt8} {w wr w1 : World} (hk : (k : Int) ≤ 9223372036854775807) (hd : d ++ Nm.enc k = Nm.enc n) (hg : Grew w wr v x) (hb : base ≤ wr.heap.size) (hlt : 127 < k)
    (hown : w1.ownsRow base 5 1 x' (m + d.length + 1) (cb (l ++ (d ++ [UInt8.ofNat ((k : Int) % 128 + 128).toNat])))) (hg1 : Grew wr w1 x x') : PutRel base v m l n w x' (.int .i64 ((k : Int) / 128)) w1 := by
  refine ⟨k / 128, _, d ++ [UInt8.ofNat (k % 128 + 128)], by rw [show ((k / 128 : Nat) : Int) = (k : Int) / 128 by omega], by omega, ?_, rfl, ?_, hg.trans hg1, Nat.le_trans hb hg1.size⟩
  · rw [← hd, Nm.enc_ge (n := k) (by omega), List.append_assoc]
    rfl
  · rw [show ((k : Int) % 128 + 128).toNat = k % 128 + 128 by omega] at hown
    rw [List.length_append, List.length_singleton, ← Nat.add_assoc]
    exact hown
theorem putRel_end {base m n k : Nat} {v x x' : Value} {l d : List UInt8} {w wr w1 : World} (hd : d ++ Nm.enc k = Nm.enc n) (hg : Grew w wr v x) (hlt : ¬ 127 < k)
    (hown : w1.ownsRow base 5 1 x' (m + d.length + 1) (cb (l ++ (d ++ [UInt8.ofNat k])))) (hg1 : Grew wr w1 x x') :
    w1.ownsRow base 5 1 x' (m + (Nm.enc n).length) (cb (l ++ Nm.enc n)) ∧ Grew w w1 v x' := by
  refine ⟨?_, hg.trans hg1⟩
  rw [← hd, Nm.enc_lt (n := k) (by omega), List.length_append, List.length_singleton, ← Nat.add_assoc]
  exact hown

theorem put_any (base : Nat) (v : Value) (m : Nat) (l : List UInt8) (n : Int) (w : World) (hown : w.ownsRow base 5 1 v m (cb l)) (hm : m ≤ 1000000000) (h0 : 0 ≤ n) (h1 : n ≤ 9223372036854775807) (hb : base ≤ w.heap.size) :
    Calls Try.prog 94 #[v, .int .i64 n] w fun e w' => ∃ v', e = .returned v' ∧ w'.ownsRow base 5 1 v' (m + (Nm.enc n.toNat).length) (cb (l ++ Nm.enc n.toNat)) ∧ Grew w w' v v' := by
  obtain ⟨n, rfl⟩ := Int.eq_ofNat_of_zero_le h0
  rw [Int.toNat_natCast]
  go_enter Try.func94, Try.ntmps94
  go_wp2
  go_loopw [0, 1] (fun x y wr => PutRel base v m l n w x y wr) (fun _ y _ => (intOf y).toNat)
  case atStart => exact ⟨n, m, [], rfl, h1, by simp, by simp, by simpa using hown, Grew.refl _ _, hb⟩
  case round =>
    obtain ⟨k, m', d, rfl, hk, hd, hm', hown', hg, hbw⟩ := hrel
    have hl := Nm.enc_len10 (n := n) (by omega)
    have hd1 : d.length ≤ 10 := by rw [← hd, List.length_append] at hl; omega
    subst hm'
    by_cases hlt : 127 < k
    · have hA : bits .and .i64 (k : Int) 127 = (k : Int) % 128 := and127 k (by omega)
      have hO : bits .or .i64 ((k : Int) % 128) 128 = (k : Int) % 128 + 128 := or128 k
      go_wp2_with (at_builtin; refine app_b1 rfl (.tmp 9) (.tmp 14) rfl base u0 (m + d.length) (l ++ d) rfl hown' ((k : Int) % 128 + 128) rfl ?c1 ?c2 ?c3 ?c4 ?_)
      case c1 => omega
      case c2 => omega
      case c3 => omega
      case c4 => omega
      · intro v' w1 hown2 hg2
        have HO := Lib.hid hown2
        have HG := Lib.hid hg2
        clear hown2 hg2
        go_wp2
        go_roundw
        case rel => exact putRel_step hk hd hg hbw hlt HO.out HG.out
        case measure => simp [intOf]; omega
    · have hk2 : (k : Int) ≤ 127 := by omega
      go_wp2_with (at_builtin; refine app_b1 rfl (.tmp 16) (.tmp 19) rfl base u0 (m + d.length) (l ++ d) rfl hown' (k : Int) rfl ?c1 ?c2 ?c3 ?c4 ?_)
      case c1 => omega
      case c2 => omega
      case c3 => omega
      case c4 => omega
      · intro v' w1 hown2 hg2
        have HO := Lib.hid hown2
        have HG := Lib.hid hg2
        clear hown2 hg2
        go_wp2
        go_ret
        exact ⟨_, rfl, putRel_end hd hg hlt HO.out HG.out⟩
end Go.Proofs.Ytaoekfgeggopbaa
