/-
  Layer 1: the program and the reference side by side: for every argument both return the same.
-/
import Derived.Test.YtehjgnkolhdecaaNumRefInts
namespace Go.Proofs.Ytehjgnkolhdecaa
open Go.RowKit
set_option maxHeartbeats 400000
set_option maxRecDepth 100000
set_option linter.unusedVariables false

/-- A call that returns new bytes and an error's number. -/
def GivesBytes (f : FuncId) (args : Array Value) (l : List UInt8) (m : Nat) (x : Int) (w : World) : Prop :=
  Calls Try.prog f args w fun e w' => ∃ A c, e = .returned (.tuple #[.slice A m c, .int .i64 x]) ∧ Reads w' w'.heap.size 1 A m (cb l) ∧ Below w.heap.size w w'
theorem put_tri (n : Int) : ∃ (l : List UInt8) (m : Nat) (x : Int), (∀ w, GivesBytes 14 #[.int .i64 n] l m x w) ∧ ∀ w, GivesBytes 19 #[.int .i64 n] l m x w := by
  by_cases h : 0 ≤ n ∧ n ≤ 1099511627776
  · refine ⟨Nm.enc n.toNat, (Nm.enc n.toNat).length, 0, fun w => ?_, fun w => ?_⟩
    · refine (nput_is n _ _ w h.1 h.2 rfl rfl).mono ?_
      rintro e w' ⟨A, c, rfl, ho, hb⟩
      exact ⟨A, c, rfl, Reads.of_own ho, hb⟩
    · refine (rput_is n _ _ w h.1 h.2 rfl rfl).mono ?_
      rintro e w' ⟨A, c, rfl, ho, hb⟩
      exact ⟨A, c, rfl, Reads.of_own ho, hb⟩
  · refine ⟨[], 0, 2, fun w => ?_, fun w => ?_⟩
    · refine (nput_bad n w h).mono ?_
      rintro e w' ⟨rfl, rfl⟩
      exact ⟨none, 0, rfl, Reads.none_, Below.refl _ _⟩
    · refine (rput_bad n w h).mono ?_
      rintro e w' ⟨rfl, rfl⟩
      exact ⟨none, 0, rfl, Reads.none_, Below.refl _ _⟩
theorem text_tri (s : ByteArray) : ∃ (l : List UInt8) (m : Nat) (x : Int), (∀ w, GivesBytes 20 #[.string s] l m x w) ∧ ∀ w, GivesBytes 21 #[.string s] l m x w := by
  by_cases h : s.size ≤ 4096
  · refine ⟨Nm.txt s.data.toList, (Nm.txt s.data.toList).length, 0, fun w => ?_, fun w => ?_⟩
    · refine (ntext_ok s _ _ w h rfl rfl).mono ?_
      rintro e w' ⟨A, c, rfl, ho, hb⟩
      exact ⟨A, c, rfl, Reads.of_own ho, hb⟩
    · refine (rtext_ok s _ _ w h rfl rfl).mono ?_
      rintro e w' ⟨A, c, rfl, ho, hb⟩
      exact ⟨A, c, rfl, Reads.of_own ho, hb⟩
  · refine ⟨[], 0, 3, fun w => ?_, fun w => ?_⟩
    · refine (ntext_bad s w (by omega)).mono ?_
      rintro e w' ⟨rfl, rfl⟩
      exact ⟨none, 0, rfl, Reads.none_, Below.refl _ _⟩
    · refine (rtext_bad s w (by omega)).mono ?_
      rintro e w' ⟨rfl, rfl⟩
      exact ⟨none, 0, rfl, Reads.none_, Below.refl _ _⟩
theorem ints_post {l : List Int} {w w' : World} {e : Ending} (h : IntsPost l w e w') : (l.all Nm.inR = true ∧ ∃ A c, e = .returned (.tuple #[.slice A (Nm.intsB l).length c, .int .i64 0]) ∧ Reads w' w'.heap.size 1 A (Nm.intsB l).length (cb (Nm.intsB l)) ∧ Below w.heap.size w w') ∨
    (l.all Nm.inR = false ∧ ∃ A c, e = .returned (.tuple #[.slice A 0 c, .int .i64 2]) ∧ Reads w' w'.heap.size 1 A 0 (cb []) ∧ Below w.heap.size w w') := by
  rcases h with ⟨h1, A, c, rfl, ho, hb⟩ | ⟨h1, rfl, hb⟩
  · exact Or.inl ⟨h1, A, c, rfl, Reads.of_own ho, hb⟩
  · exact Or.inr ⟨h1, none, 0, rfl, Reads.none_, hb⟩
theorem ints_tri (n : Nat) (l : List Int) (hl : l.length = n) (hn : n ≤ 9223372036854775807) (hi64 : ∀ a ∈ l, -9223372036854775808 ≤ a ∧ a ≤ 9223372036854775807) : ∃ (b : List UInt8) (m : Nat) (x : Int),
    (∀ A c w, Reads w w.heap.size 1 A n (ci l) → GivesBytes 22 #[.slice A n c] b m x w) ∧ ∀ A c w, Reads w w.heap.size 1 A n (ci l) → GivesBytes 23 #[.slice A n c] b m x w := by
  by_cases h : n ≤ 4096
  · cases ha : l.all Nm.inR with
    | true =>
      refine ⟨Nm.intsB l, (Nm.intsB l).length, 0, fun A c w hr => ?_, fun A c w hr => ?_⟩
      · refine (nints_any A n c l w hr h hi64).mono fun e w' hp => ?_
        rcases ints_post hp with ⟨_, h2⟩ | ⟨h1, _⟩
        · exact h2
        · rw [ha] at h1; cases h1
      · refine (rints_any A n c l w hr h).mono fun e w' hp => ?_
        rcases ints_post hp with ⟨_, h2⟩ | ⟨h1, _⟩
        · exact h2
        · rw [ha] at h1; cases h1
    | false =>
      refine ⟨[], 0, 2, fun A c w hr => ?_, fun A c w hr => ?_⟩
      · refine (nints_any A n c l w hr h hi64).mono fun e w' hp => ?_
        rcases ints_post hp with ⟨h1, _⟩ | ⟨_, h2⟩
        · rw [ha] at h1; cases h1
        · exact h2
      · refine (rints_any A n c l w hr h).mono fun e w' hp => ?_
        rcases ints_post hp with ⟨h1, _⟩ | ⟨_, h2⟩
        · rw [ha] at h1; cases h1
        · exact h2
  · refine ⟨[], 0, 4, fun A c w hr => ?_, fun A c w hr => ?_⟩
    · refine (nints_many A n c w (by omega) hn).mono ?_
      rintro e w' ⟨rfl, rfl⟩
      exact ⟨none, 0, rfl, Reads.none_, Below.refl _ _⟩
    · refine (rints_many A n c w (by omega) hn).mono ?_
      rintro e w' ⟨rfl, rfl⟩
      exact ⟨none, 0, rfl, Reads.none_, Below.refl _ _⟩

theorem get_tri (l : List UInt8) : ∃ m k x : Int, (∀ A n c B w, Reads w B 1 A n (cb l) → n ≤ 1000000000000 → Calls Try.prog 18 #[.slice A n c] w fun e w' => e = .returned (.tuple #[.int .i64 m, .int .i64 k, .int .i64 x]) ∧ w = w') ∧
    ∀ A n c B w, Reads w B 1 A n (cb l) → n ≤ 1000000000000 → Calls Try.prog 30 #[.slice A n c] w fun e w' => e = .returned (.tuple #[.int .i64 m, .int .i64 k, .int .i64 x]) ∧ w = w' := by
  cases h : Nm.get l with
  | none => exact ⟨0, 0, 8, fun A n c B w hr hn => get_no A n c B l w hr hn h, fun A n c B w hr hn => rget_no A n c B l w hr hn h⟩
  | some p =>
    obtain ⟨m, k⟩ := p
    exact ⟨m, k, 0, fun A n c B w hr hn => get_is A n c B l m k w hr hn h, fun A n c B w hr hn => rget_is A n c B l m k w hr hn h⟩
theorem getText_tri (l : List UInt8) : ∃ (t : ByteArray) (k x : Int), (∀ A n c B w, Reads w B 1 A n (cb l) → n ≤ c → n ≤ 1000000000000 → Calls Try.prog 31 #[.slice A n c] w fun e w' => e = .returned (.tuple #[.string t, .int .i64 k, .int .i64 x]) ∧ w = w') ∧
    ∀ A n c B w, Reads w B 1 A n (cb l) → n ≤ c → n ≤ 1000000000000 → Calls Try.prog 32 #[.slice A n c] w fun e w' => e = .returned (.tuple #[.string t, .int .i64 k, .int .i64 x]) ∧ w = w' := by
  cases h : Nm.getText l with
  | none =>
    refine ⟨⟨#[]⟩, 0, 8, fun A n c B w hr hc hn => ?_, fun A n c B w hr hc hn => ?_⟩
    · have := getText_any A n c B l w hr hc hn
      rw [h] at this
      exact this
    · have := rgetText_any A n c B l w hr hc hn
      rw [h] at this
      exact this
  | some p =>
    obtain ⟨t, k⟩ := p
    refine ⟨S t, k, 0, fun A n c B w hr hc hn => ?_, fun A n c B w hr hc hn => ?_⟩
    · have := getText_any A n c B l w hr hc hn
      rw [h] at this
      exact this
    · have := rgetText_any A n c B l w hr hc hn
      rw [h] at this
      exact this
/-- A call that returns new numbers, how many bytes, and an error's number. -/
def GivesInts (f : FuncId) (args : Array Value) (l : List Int) (m : Nat) (k x : Int) (w : World) : Prop :=
  Calls Try.prog f args w fun e w' => ∃ A c, e = .returned (.tuple #[.slice A m c, .int .i64 k, .int .i64 x]) ∧ Reads w' w'.heap.size 1 A m (ci l) ∧ Below w.heap.size w w'
theorem getInts_tri (l : List UInt8) (most : Int) : ∃ (r : List Int) (m : Nat) (k x : Int), m ≤ 4096 ∧ (∀ A n c w, Reads w w.heap.size 1 A n (cb l) → n ≤ c → n ≤ 1000000000000 → GivesInts 33 #[.slice A n c, .int .i64 most] r m k x w) ∧
    ∀ A n c w, Reads w w.heap.size 1 A n (cb l) → n ≤ c → n ≤ 1000000000000 → GivesInts 34 #[.slice A n c, .int .i64 most] r m k x w := by
  by_cases h : 0 ≤ most ∧ most ≤ 4096
  · obtain ⟨q, rfl⟩ := Int.eq_ofNat_of_zero_le h.1
    have hq : q ≤ 4096 := by omega
    cases hg : Nm.getInts l q with
    | none =>
      refine ⟨[], 0, 0, 8, by omega, fun A n c w hr hc hn => ?_, fun A n c w hr hc hn => ?_⟩
      · refine (ngetInts_any A n c l q w hr hc hn hq).mono fun e w' hp => ?_
        rw [hg] at hp
        obtain ⟨rfl, hb⟩ := hp
        exact ⟨none, 0, rfl, Reads.none_, hb⟩
      · refine (rgetInts_any A n c l q w hr hc hn hq).mono fun e w' hp => ?_
        rw [hg] at hp
        obtain ⟨rfl, hb⟩ := hp
        exact ⟨none, 0, rfl, Reads.none_, hb⟩
    | some p =>
      obtain ⟨r, k⟩ := p
      have := (Nm.getInts_back hg).1
      refine ⟨r, r.length, k, 0, by omega, fun A n c w hr hc hn => ?_, fun A n c w hr hc hn => ?_⟩
      · refine (ngetInts_any A n c l q w hr hc hn hq).mono fun e w' hp => ?_
        rw [hg] at hp
        obtain ⟨A', c', rfl, ho, hb⟩ := hp
        exact ⟨A', c', rfl, Reads.of_own ho, hb⟩
      · refine (rgetInts_any A n c l q w hr hc hn hq).mono fun e w' hp => ?_
        rw [hg] at hp
        obtain ⟨A', c', rfl, ho, hb⟩ := hp
        exact ⟨A', c', rfl, Reads.of_own ho, hb⟩
  · refine ⟨[], 0, 0, 2, by omega, fun A n c w hr hc hn => ?_, fun A n c w hr hc hn => ?_⟩
    · refine (ngetInts_arg A n c most w h).mono ?_
      rintro e w' ⟨rfl, rfl⟩
      exact ⟨none, 0, rfl, Reads.none_, Below.refl _ _⟩
    · refine (rgetInts_arg A n c most w h).mono ?_
      rintro e w' ⟨rfl, rfl⟩
      exact ⟨none, 0, rfl, Reads.none_, Below.refl _ _⟩
end Go.Proofs.Ytehjgnkolhdecaa
