/-
  Numbers as bytes, in plain Lean: what is written is read back, whatever stands behind; what is read is written as just these bytes; no number's bytes begin another's.
-/
import Derived.Below
namespace Go.Proofs.Ytaoekfgeggopbaa
namespace Nm

def encF : Nat → Nat → List UInt8
  | 0, n => [UInt8.ofNat n]
  | f + 1, n => if n < 128 then [UInt8.ofNat n] else UInt8.ofNat (n % 128 + 128) :: encF f (n / 128)
/-- A number's bytes. -/
def enc (n : Nat) : List UInt8 := encF n n

theorem encF_more : ∀ (f g n : Nat), n ≤ f → n ≤ g → encF f n = encF g n := by
  intro f
  induction f with
  | zero =>
    intro g n hf hg
    have : n = 0 := by omega
    subst this
    cases g with
    | zero => rfl
    | succ g => simp [encF]
  | succ f ih =>
    intro g n hf hg
    cases g with
    | zero =>
      have : n = 0 := by omega
      subst this
      simp [encF]
    | succ g =>
      unfold encF
      by_cases h : n < 128
      · simp [h]
      · simp only [h, if_false]
        rw [ih g (n / 128) (by omega) (by omega)]
theorem enc_lt {n : Nat} (h : n < 128) : enc n = [UInt8.ofNat n] := by
  unfold enc
  cases n with
  | zero => rfl
  | succ n => unfold encF; simp [h]
theorem enc_ge {n : Nat} (h : 128 ≤ n) : enc n = UInt8.ofNat (n % 128 + 128) :: enc (n / 128) := by
  unfold enc
  cases n with
  | zero => omega
  | succ n =>
    conv => lhs; unfold encF
    rw [if_neg (by omega)]
    rw [encF_more n ((n + 1) / 128) ((n + 1) / 128) (by omega) (by omega)]
theorem enc_len_pos (n : Nat) : 0 < (enc n).length := by
  rcases Nat.lt_or_ge n 128 with h | h
  · rw [enc_lt h]; simp
  · rw [enc_ge h]; simp
theorem enc_len : ∀ (k n : Nat), n < 128 ^ (k + 1) → (enc n).length ≤ k + 1 := by
  intro k
  induction k with
  | zero => intro n h; rw [enc_lt (by omega)]; simp
  | succ k ih =>
    intro n h
    rcases Nat.lt_or_ge n 128 with h1 | h1
    · rw [enc_lt h1]; simp
    · rw [enc_ge h1]
      have := ih (n / 128) (by rw [Nat.div_lt_iff_lt_mul (by omega)]; rw [Nat.pow_succ] at h; exact h)
      simp only [List.length_cons]
      omega
theorem enc_len10 {n : Nat} (h : n ≤ 9223372036854775807) : (enc n).length ≤ 10 := enc_len 9 n (by omega)
theorem enc_len6 {n : Nat} (h : n ≤ 1099511627776) : (enc n).length ≤ 6 := enc_len 5 n (by omega)

/-- A number read off bytes, from byte i on: it, and how many bytes. -/
def dec : List UInt8 → Nat → Nat → Option (Nat × Nat)
  | [], _, _ => none
  | x :: r, i, a =>
    if 5 < i then none
    else if 128 ≤ x.toNat then dec r (i + 1) (a + x.toNat % 128 * 128 ^ i)
    else if x.toNat = 0 ∧ 0 < i ∨ 1099511627776 < a + x.toNat % 128 * 128 ^ i then none
    else some (a + x.toNat % 128 * 128 ^ i, i + 1)
def get (l : List UInt8) : Option (Nat × Nat) := dec l 0 0

theorem toNat_of {n : Nat} (h : n < 256) : (UInt8.ofNat n).toNat = n := by
  rw [UInt8.toNat_ofNat']
  exact Nat.mod_eq_of_lt h

theorem dec_enc : ∀ (f n i a : Nat) (b : List UInt8), n ≤ f → a + n * 128 ^ i ≤ 1099511627776 → (0 < n ∨ i = 0) → i ≤ 5 → dec (enc n ++ b) i a = some (a + n * 128 ^ i, i + (enc n).length) := by
  intro f
  induction f with
  | zero =>
    intro n i a b hf hm hn hi
    have : n = 0 := by omega
    subst this
    rw [enc_lt (by omega)]
    have : i = 0 := by omega
    subst this
    simp [dec] at hm ⊢
    omega
  | succ f ih =>
    intro n i a b hf hm hn hi
    rcases Nat.lt_or_ge n 128 with h | h
    · rw [enc_lt h]
      have e : (UInt8.ofNat n).toNat = n := toNat_of (by omega)
      simp only [List.cons_append, List.nil_append, dec, e, List.length_singleton]
      rw [if_neg (by omega), if_neg (by omega), Nat.mod_eq_of_lt h, if_neg (by omega)]
    · rw [enc_ge h]
      have e : (UInt8.ofNat (n % 128 + 128)).toNat = n % 128 + 128 := toNat_of (by omega)
      simp only [List.cons_append, dec, e, List.length_cons]
      have e2 : (n % 128 + 128) % 128 = n % 128 := by omega
      have e3 : a + n % 128 * 128 ^ i + n / 128 * 128 ^ (i + 1) = a + n * 128 ^ i := by
        have h1 : n = 128 * (n / 128) + n % 128 := (Nat.div_add_mod n 128).symm
        rw [Nat.pow_succ]
        generalize 128 ^ i = p
        have h2 : n / 128 * (p * 128) = 128 * (n / 128) * p := by rw [Nat.mul_comm p 128, ← Nat.mul_assoc, Nat.mul_comm (n / 128) 128]
        rw [h2, Nat.add_assoc, ← Nat.add_mul, Nat.add_comm (n % 128), ← h1]
      have hlt : i + 1 ≤ 5 := by
        rcases Nat.lt_or_ge i 5 with h5 | h5
        · omega
        · have : i = 5 := by omega
          subst this
          omega
      rw [if_neg (by omega), if_pos (by omega), e2, ih (n / 128) (i + 1) (a + n % 128 * 128 ^ i) b (by omega) (by omega) (Or.inl (by omega)) hlt, e3]
      simp only [Option.some.injEq, Prod.mk.injEq]
      exact ⟨trivial, by omega⟩
theorem get_enc {n : Nat} (h : n ≤ 1099511627776) (b : List UInt8) : get (enc n ++ b) = some (n, (enc n).length) := by
  have := dec_enc n n 0 0 b (Nat.le_refl _) (by omega) (Or.inr rfl) (by omega)
  simpa [get] using this

theorem dec_back : ∀ (l : List UInt8) (i a m k : Nat), dec l i a = some (m, k) → ∃ n, m = a + n * 128 ^ i ∧ k = i + (enc n).length ∧ (enc n).length ≤ l.length ∧ enc n = l.take (enc n).length ∧ m ≤ 1099511627776 ∧ (0 < n ∨ i = 0) := by
  intro l
  induction l with
  | nil => intro i a m k h; simp [dec] at h
  | cons x r ih =>
    intro i a m k h
    unfold dec at h
    have hx := x.toNat_lt
    split at h
    · cases h
    · split at h
      · rename_i h5 h1
        obtain ⟨n, h2, h3, h4, h6, h7, h8⟩ := ih _ _ _ _ h
        have hn : 0 < n := by
          rcases h8 with h8 | h8
          · exact h8
          · omega
        have hen : enc (128 * n + x.toNat % 128) = x :: enc n := by
          rw [enc_ge (by omega)]
          have e1 : (128 * n + x.toNat % 128) % 128 + 128 = x.toNat := by omega
          have e2 : (128 * n + x.toNat % 128) / 128 = n := by omega
          rw [e1, e2]
          simp
        refine ⟨128 * n + x.toNat % 128, ?_, ?_, ?_, ?_, h7, Or.inl (by omega)⟩
        · rw [h2, Nat.pow_succ]
          generalize 128 ^ i = p
          have h9 : n * (p * 128) = 128 * n * p := by rw [Nat.mul_comm p 128, ← Nat.mul_assoc, Nat.mul_comm n 128]
          rw [h9, Nat.add_mul]
          omega
        · rw [hen, h3]; simp only [List.length_cons]; omega
        · rw [hen]; simp only [List.length_cons]; omega
        · rw [hen]
          simp only [List.length_cons, List.take_succ_cons]
          rw [← h6]
      · split at h
        · cases h
        · rename_i h5 h1 h2
          have hx2 : x.toNat % 128 = x.toNat := Nat.mod_eq_of_lt (by omega)
          rw [hx2] at h h2
          simp only [Option.some.injEq, Prod.mk.injEq] at h
          have hen : enc x.toNat = [x] := by rw [enc_lt (by omega)]; simp
          refine ⟨x.toNat, by omega, by rw [hen, ← h.2]; rfl, by rw [hen]; simp, by rw [hen]; rfl, by omega, by omega⟩
theorem get_back {l : List UInt8} {m k : Nat} (h : get l = some (m, k)) : m ≤ 1099511627776 ∧ k = (enc m).length ∧ k ≤ l.length ∧ enc m = l.take k := by
  obtain ⟨n, h1, h2, h3, h4, h5, _⟩ := dec_back l 0 0 m k h
  have e : m = n := by simpa using h1
  subst e
  have e2 : k = (enc m).length := by simpa using h2
  exact ⟨h5, e2, by omega, by rw [e2]; exact h4⟩
theorem get_pos {l : List UInt8} {m k : Nat} (h : get l = some (m, k)) : 0 < k ∧ k ≤ 6 := by
  obtain ⟨h1, h2, _, _⟩ := get_back h
  have := enc_len_pos m
  have := enc_len6 h1
  omega
theorem enc_inj {n m : Nat} (hn : n ≤ 1099511627776) (hm : m ≤ 1099511627776) {a b : List UInt8} (h : enc n ++ a = enc m ++ b) : n = m := by
  have h1 := get_enc hn a
  rw [h, get_enc hm b] at h1
  simp only [Option.some.injEq, Prod.mk.injEq] at h1
  exact h1.1.symm
theorem apart {n m : Nat} (hn : n ≤ 1099511627776) (hm : m ≤ 1099511627776) (h : n ≠ m) {k : Nat} (hk : k = min (enc n).length (enc m).length) : (enc n).take k ≠ (enc m).take k := by
  intro he
  rcases Nat.le_total (enc n).length (enc m).length with h1 | h1
  · have e1 : k = (enc n).length := by omega
    rw [e1, List.take_length] at he
    apply h
    apply enc_inj hn hm (a := (enc m).drop (enc n).length) (b := [])
    rw [List.append_nil]
    conv => lhs; lhs; rw [he]
    exact List.take_append_drop _ _
  · have e1 : k = (enc m).length := by omega
    rw [e1, List.take_length] at he
    apply h
    apply enc_inj hn hm (a := []) (b := (enc n).drop (enc m).length)
    rw [List.append_nil]
    conv => rhs; lhs; rw [← he]
    exact (List.take_append_drop _ _).symm
end Nm
end Go.Proofs.Ytaoekfgeggopbaa
