/-
  Contracts of package wire: fields, place, in, right: what each call returns, for every argument; new memory alone is written.
-/
import Derived.Test.YtmchnjnknnolmaaWirePlain
import Derived.Test.YtmchnjnknnolmaaBallotRef
import Derived.Test.YtmchnjnknnolmaaConv
namespace Go.Proofs.Ytmchnjnknnolmaa
open Go.RowKit Bal
set_option maxHeartbeats 1000000
set_option maxRecDepth 100000
set_option linter.unusedVariables false
set_option linter.unusedSimpArgs false

/-- The cells of mail. -/
def mA (m : Wp.Mail) : Array Value := #[.int .i64 m.f, .int .i64 m.t, .int .u8 m.k, .int .i64 m.g, .int .i64 m.s, .int .i64 m.b, .int .i64 m.p, .string (S m.v), .int .i64 m.i, .int .i64 m.tm]
/-- Where a letter's number lies. -/
def off (c : UInt8) : Nat := if c = 115 then 4 else if c = 98 then 5 else if c = 112 then 6 else if c = 105 then 8 else 9
theorem mA_put (m : Wp.Mail) (c : UInt8) (n : Int) : (mA m).setIfInBounds (off c) (.int .i64 n) = mA (m.put c n) := by
  unfold off Wp.Mail.put
  split
  · rfl
  · split
    · rfl
    · split
      · rfl
      · split <;> rfl
theorem mA_get (m : Wp.Mail) (c : UInt8) : (mA m)[off c]? = some (.int .i64 (m.get c)) := by
  unfold off Wp.Mail.get
  split
  · rfl
  · split
    · rfl
    · split
      · rfl
      · split <;> rfl
theorem mA_v (m : Wp.Mail) (v : List UInt8) : (mA m).setIfInBounds 7 (.string (S v)) = mA { m with v := v } := rfl

theorem win_any (n low high : Int) (w : World) : Calls Try.prog 124 #[.int .i64 n, .int .i64 low, .int .i64 high] w fun e w' => e = .returned (.bool (decide (low ≤ n) && decide (n ≤ high))) ∧ w = w' := by
  cases h1 : decide (low ≤ n) with
  | true =>
    go_enter Try.func124, Try.ntmps124
    go_wp2
    go_ret
    exact ⟨rfl, rfl⟩
  | false =>
    go_enter Try.func124, Try.ntmps124
    go_wp2
    go_ret
    exact ⟨rfl, rfl⟩

theorem wfields_any (k : Int) (w : World) (h0 : 0 ≤ k) (h1 : k ≤ 255) : Calls Try.prog 123 #[.int .u8 k] w fun e w' => e = .returned (.string (S (Wp.fieldsL k))) ∧ Below w.heap.size w w' := by
  by_cases hk : 10 ≤ k
  · have e : Wp.fieldsL k = [] := by
      unfold Wp.fieldsL
      repeat (rw [if_neg (by omega)])
    rw [e]
    clear e
    go_enter Try.func123, Try.ntmps123
    go_wp2
    go_ret
    exact ⟨rfl, (Below.refl _ _).alloc (Nat.le_refl _) _⟩
  · obtain ⟨j, rfl⟩ := Int.eq_ofNat_of_zero_le h0
    match j, hk with
    | 0, _ | 1, _ | 2, _ | 3, _ | 4, _ | 5, _ | 6, _ | 7, _ | 8, _ | 9, _ =>
      go_enter Try.func123, Try.ntmps123
      go_wp2
      go_ret
      exact ⟨rfl, (Below.refl _ _).alloc (Nat.le_refl _) _⟩
    | j + 10, hk => exact absurd hk (by omega)

theorem wplace_any (g : Nat) (c : UInt8) (w : World) (hc : Wp.letter c) : Calls Try.prog 125 #[.pointer (some ⟨g, 0, none⟩), .int .u8 (c.toNat : Int)] w fun e w' => e = .returned (.pointer (some ⟨g, off c, none⟩)) ∧ w = w' := by
  rcases hc with rfl | rfl | rfl | rfl | rfl
  all_goals
    go_enter Try.func125, Try.ntmps125
    go_wp2
    go_ret
    exact ⟨rfl, rfl⟩
end Go.Proofs.Ytmchnjnknnolmaa
