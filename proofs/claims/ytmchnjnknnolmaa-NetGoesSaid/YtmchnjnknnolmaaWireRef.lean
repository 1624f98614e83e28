/-
  The reference of layer 23: which mail may be.
-/
import Derived.Test.YtmchnjnknnolmaaWireCheckW
import Derived.Test.YtmchnjnknnolmaaBallotRef
namespace Go.Proofs.Ytmchnjnknnolmaa
open Go.RowKit Bal
set_option maxHeartbeats 8000000
set_option maxRecDepth 100000
set_option linter.unusedVariables false
set_option linter.unusedSimpArgs false

def nodeB (n : Int) : Bool := decide (0 ≤ n ∧ n ≤ 5)
theorem rnode_yes (n : Int) (w : World) (h : nodeB n = true) : Calls Try.prog 80 #[.int .i64 n] w fun e w' => e = .returned (.bool true) ∧ w = w' := by
  have h1 := of_decide_eq_true h
  have a := h1.1
  have b : n < 6 := by omega
  clear h h1
  go_enter Try.func80, Try.ntmps80
  go_wp2
  go_ret
  exact ⟨rfl, rfl⟩
theorem rnode_no (n : Int) (w : World) (h : nodeB n = false) : Calls Try.prog 80 #[.int .i64 n] w fun e w' => e = .returned (.bool false) ∧ w = w' := by
  have h1 := of_decide_eq_false h
  clear h
  by_cases a : 0 ≤ n
  · have b : decide (n < 6) = false := decide_eq_false (by omega)
    clear h1
    go_enter Try.func80, Try.ntmps80
    go_wp2
    go_ret
    exact ⟨rfl, rfl⟩
  · have b : decide (0 ≤ n) = false := decide_eq_false a
    clear h1
    go_enter Try.func80, Try.ntmps80
    go_wp2
    go_ret
    exact ⟨rfl, rfl⟩
theorem rin_yes12 (n lo hi : Int) (w : World) (h : lo ≤ n ∧ n < hi) : Calls Try.prog 105 #[.int .i64 n, .int .i64 lo, .int .i64 hi] w fun e w' => e = .returned (.bool true) ∧ w = w' := by
  have a := decide_eq_true h.1
  have b := decide_eq_true h.2
  clear h
  go_enter Try.func105, Try.ntmps105
  go_wp2
  go_ret
  exact ⟨rfl, rfl⟩
theorem rin_no12 (n lo hi : Int) (w : World) (h : ¬ (lo ≤ n ∧ n < hi)) : Calls Try.prog 105 #[.int .i64 n, .int .i64 lo, .int .i64 hi] w fun e w' => e = .returned (.bool false) ∧ w = w' := by
  by_cases a : lo ≤ n
  · have a2 := decide_eq_true a
    have b : decide (n < hi) = false := decide_eq_false (fun x => h ⟨a, x⟩)
    clear h a
    go_enter Try.func105, Try.ntmps105
    go_wp2
    go_ret
    exact ⟨rfl, rfl⟩
  · have b : decide (lo ≤ n) = false := decide_eq_false a
    clear h
    go_enter Try.func105, Try.ntmps105
    go_wp2
    go_ret
    exact ⟨rfl, rfl⟩
theorem rslot_yes (n : Int) (w : World) (h : Wp.slotB n = true) : Calls Try.prog 131 #[.int .i64 n] w fun e w' => e = .returned (.bool true) ∧ w = w' := by
  have h1 := of_decide_eq_true h
  have a := h1.1
  have b := h1.2
  clear h h1
  go_enter Try.func131, Try.ntmps131
  go_wp2
  go_ret
  exact ⟨rfl, rfl⟩
theorem rslot_no (n : Int) (w : World) (h : Wp.slotB n = false) : Calls Try.prog 131 #[.int .i64 n] w fun e w' => e = .returned (.bool false) ∧ w = w' := by
  have h1 := of_decide_eq_false h
  clear h
  by_cases a : 1 ≤ n
  · have b : decide (n ≤ 200) = false := decide_eq_false (by omega)
    clear h1
    go_enter Try.func131, Try.ntmps131
    go_wp2
    go_ret
    exact ⟨rfl, rfl⟩
  · have b : decide (1 ≤ n) = false := decide_eq_false a
    clear h1
    go_enter Try.func131, Try.ntmps131
    go_wp2
    go_ret
    exact ⟨rfl, rfl⟩
theorem rid_yes (n : Int) (w : World) (h : Wp.idB n = true) : Calls Try.prog 104 #[.int .i64 n] w fun e w' => e = .returned (.bool true) ∧ w = w' := by
  have h1 := of_decide_eq_true h
  have H := Lib.hid (rin_yes12 n 0 6291456 w ⟨h1.1, by omega⟩)
  clear h h1
  go_enter Try.func104, Try.ntmps104
  go_wp2_with (first | (with_reducible refine H.out.mono ?_; rintro e w' ⟨rfl, rfl⟩))
  go_ret
  exact ⟨rfl, rfl⟩
theorem rid_no (n : Int) (w : World) (h : Wp.idB n = false) : Calls Try.prog 104 #[.int .i64 n] w fun e w' => e = .returned (.bool false) ∧ w = w' := by
  have h1 := of_decide_eq_false h
  have H := Lib.hid (rin_no12 n 0 6291456 w (fun x => h1 ⟨x.1, by omega⟩))
  clear h h1
  go_enter Try.func104, Try.ntmps104
  go_wp2_with (first | (with_reducible refine H.out.mono ?_; rintro e w' ⟨rfl, rfl⟩))
  go_ret
  exact ⟨rfl, rfl⟩
def zeroB (s b p i tm : Int) (e : Bool) (fs fb fp fv fi ft : Bool) : Bool := (fs || s == 0) && (fb || b == 0) && (fp || p == 0) && (fv || e) && (fi || i == 0) && (ft || tm == 0)

theorem rzero_FFFFTT (f t k g s b p : Int) (u : ByteArray) (i tm : Int) (w : World) (e : Bool) (he : u.toList.isEmpty = e) :
    Calls Try.prog 132 #[.agg #[.int .i64 f, .int .i64 t, .int .u8 k, .int .i64 g, .int .i64 s, .int .i64 b, .int .i64 p, .string u, .int .i64 i, .int .i64 tm], .bool false, .bool false, .bool false, .bool false, .bool true, .bool true] w fun x w' => x = .returned (.bool (zeroB s b p i tm e false false false false true true)) ∧ Below w.heap.size w w' := by
  cases z0 : (s == 0) with
  | false =>
    have HE : Hid (zeroB s b p i tm e false false false false true true = false) := by simp [Hid, zeroB, z0]
    go_enter Try.func132, Try.ntmps132
    go_wp2
    go_ret
    rw [HE.out]
    exact ⟨rfl, (Below.refl _ _).alloc (Nat.le_refl _) _⟩
  | true =>
    cases z1 : (b == 0) with
    | false =>
      have HE : Hid (zeroB s b p i tm e false false false false true true = false) := by simp [Hid, zeroB, z0, z1]
      go_enter Try.func132, Try.ntmps132
      go_wp2
      go_ret
      rw [HE.out]
      exact ⟨rfl, (Below.refl _ _).alloc (Nat.le_refl _) _⟩
    | true =>
      cases z2 : (p == 0) with
      | false =>
        have HE : Hid (zeroB s b p i tm e false false false false true true = false) := by simp [Hid, zeroB, z0, z1, z2]
        go_enter Try.func132, Try.ntmps132
        go_wp2
        go_ret
        rw [HE.out]
        exact ⟨rfl, (Below.refl _ _).alloc (Nat.le_refl _) _⟩
      | true =>
        cases e with
        | false =>
          have HE : Hid (zeroB s b p i tm false false false false false true true = false) := by simp [Hid, zeroB, z0, z1, z2]
          go_enter Try.func132, Try.ntmps132
          go_wp2
          go_ret
          rw [HE.out]
          exact ⟨rfl, (Below.refl _ _).alloc (Nat.le_refl _) _⟩
        | true =>
          have HE : Hid (zeroB s b p i tm true false false false false true true = true) := by simp [Hid, zeroB, z0, z1, z2]
          go_enter Try.func132, Try.ntmps132
          go_wp2
          go_ret
          rw [HE.out]
          exact ⟨rfl, (Below.refl _ _).alloc (Nat.le_refl _) _⟩
theorem rzero_FFFTFF (f t k g s b p : Int) (u : ByteArray) (i tm : Int) (w : World) (e : Bool) (he : u.toList.isEmpty = e) :
    Calls Try.prog 132 #[.agg #[.int .i64 f, .int .i64 t, .int .u8 k, .int .i64 g, .int .i64 s, .int .i64 b, .int .i64 p, .string u, .int .i64 i, .int .i64 tm], .bool false, .bool false, .bool false, .bool true, .bool false, .bool false] w fun x w' => x = .returned (.bool (zeroB s b p i tm e false false false true false false)) ∧ Below w.heap.size w w' := by
  cases z0 : (s == 0) with
  | false =>
    have HE : Hid (zeroB s b p i tm e false false false true false false = false) := by simp [Hid, zeroB, z0]
    go_enter Try.func132, Try.ntmps132
    go_wp2
    go_ret
    rw [HE.out]
    exact ⟨rfl, (Below.refl _ _).alloc (Nat.le_refl _) _⟩
  | true =>
    cases z1 : (b == 0) with
    | false =>
      have HE : Hid (zeroB s b p i tm e false false false true false false = false) := by simp [Hid, zeroB, z0, z1]
      go_enter Try.func132, Try.ntmps132
      go_wp2
      go_ret
      rw [HE.out]
      exact ⟨rfl, (Below.refl _ _).alloc (Nat.le_refl _) _⟩
    | true =>
      cases z2 : (p == 0) with
      | false =>
        have HE : Hid (zeroB s b p i tm e false false false true false false = false) := by simp [Hid, zeroB, z0, z1, z2]
        go_enter Try.func132, Try.ntmps132
        go_wp2
        go_ret
        rw [HE.out]
        exact ⟨rfl, (Below.refl _ _).alloc (Nat.le_refl _) _⟩
      | true =>
        cases z4 : (i == 0) with
        | false =>
          have HE : Hid (zeroB s b p i tm e false false false true false false = false) := by simp [Hid, zeroB, z0, z1, z2, z4]
          go_enter Try.func132, Try.ntmps132
          go_wp2
          go_ret
          rw [HE.out]
          exact ⟨rfl, (Below.refl _ _).alloc (Nat.le_refl _) _⟩
        | true =>
          cases z5 : (tm == 0) with
          | false =>
            have HE : Hid (zeroB s b p i tm e false false false true false false = false) := by simp [Hid, zeroB, z0, z1, z2, z4, z5]
            go_enter Try.func132, Try.ntmps132
            go_wp2
            go_ret
            rw [HE.out]
            exact ⟨rfl, (Below.refl _ _).alloc (Nat.le_refl _) _⟩
          | true =>
            have HE : Hid (zeroB s b p i tm e false false false true false false = true) := by simp [Hid, zeroB, z0, z1, z2, z4, z5]
            go_enter Try.func132, Try.ntmps132
            go_wp2
            go_ret
            rw [HE.out]
            exact ⟨rfl, (Below.refl _ _).alloc (Nat.le_refl _) _⟩
theorem rzero_TFFFFF (f t k g s b p : Int) (u : ByteArray) (i tm : Int) (w : World) (e : Bool) (he : u.toList.isEmpty = e) :
    Calls Try.prog 132 #[.agg #[.int .i64 f, .int .i64 t, .int .u8 k, .int .i64 g, .int .i64 s, .int .i64 b, .int .i64 p, .string u, .int .i64 i, .int .i64 tm], .bool true, .bool false, .bool false, .bool false, .bool false, .bool false] w fun x w' => x = .returned (.bool (zeroB s b p i tm e true false false false false false)) ∧ Below w.heap.size w w' := by
  cases z1 : (b == 0) with
  | false =>
    have HE : Hid (zeroB s b p i tm e true false false false false false = false) := by simp [Hid, zeroB, z1]
    go_enter Try.func132, Try.ntmps132
    go_wp2
    go_ret
    rw [HE.out]
    exact ⟨rfl, (Below.refl _ _).alloc (Nat.le_refl _) _⟩
  | true =>
    cases z2 : (p == 0) with
    | false =>
      have HE : Hid (zeroB s b p i tm e true false false false false false = false) := by simp [Hid, zeroB, z1, z2]
      go_enter Try.func132, Try.ntmps132
      go_wp2
      go_ret
      rw [HE.out]
      exact ⟨rfl, (Below.refl _ _).alloc (Nat.le_refl _) _⟩
    | true =>
      cases e with
      | false =>
        have HE : Hid (zeroB s b p i tm false true false false false false false = false) := by simp [Hid, zeroB, z1, z2]
        go_enter Try.func132, Try.ntmps132
        go_wp2
        go_ret
        rw [HE.out]
        exact ⟨rfl, (Below.refl _ _).alloc (Nat.le_refl _) _⟩
      | true =>
        cases z4 : (i == 0) with
        | false =>
          have HE : Hid (zeroB s b p i tm true true false false false false false = false) := by simp [Hid, zeroB, z1, z2, z4]
          go_enter Try.func132, Try.ntmps132
          go_wp2
          go_ret
          rw [HE.out]
          exact ⟨rfl, (Below.refl _ _).alloc (Nat.le_refl _) _⟩
        | true =>
          cases z5 : (tm == 0) with
          | false =>
            have HE : Hid (zeroB s b p i tm true true false false false false false = false) := by simp [Hid, zeroB, z1, z2, z4, z5]
            go_enter Try.func132, Try.ntmps132
            go_wp2
            go_ret
            rw [HE.out]
            exact ⟨rfl, (Below.refl _ _).alloc (Nat.le_refl _) _⟩
          | true =>
            have HE : Hid (zeroB s b p i tm true true false false false false false = true) := by simp [Hid, zeroB, z1, z2, z4, z5]
            go_enter Try.func132, Try.ntmps132
            go_wp2
            go_ret
            rw [HE.out]
            exact ⟨rfl, (Below.refl _ _).alloc (Nat.le_refl _) _⟩
theorem rzero_TFFTFF (f t k g s b p : Int) (u : ByteArray) (i tm : Int) (w : World) (e : Bool) (he : u.toList.isEmpty = e) :
    Calls Try.prog 132 #[.agg #[.int .i64 f, .int .i64 t, .int .u8 k, .int .i64 g, .int .i64 s, .int .i64 b, .int .i64 p, .string u, .int .i64 i, .int .i64 tm], .bool true, .bool false, .bool false, .bool true, .bool false, .bool false] w fun x w' => x = .returned (.bool (zeroB s b p i tm e true false false true false false)) ∧ Below w.heap.size w w' := by
  cases z1 : (b == 0) with
  | false =>
    have HE : Hid (zeroB s b p i tm e true false false true false false = false) := by simp [Hid, zeroB, z1]
    go_enter Try.func132, Try.ntmps132
    go_wp2
    go_ret
    rw [HE.out]
    exact ⟨rfl, (Below.refl _ _).alloc (Nat.le_refl _) _⟩
  | true =>
    cases z2 : (p == 0) with
    | false =>
      have HE : Hid (zeroB s b p i tm e true false false true false false = false) := by simp [Hid, zeroB, z1, z2]
      go_enter Try.func132, Try.ntmps132
      go_wp2
      go_ret
      rw [HE.out]
      exact ⟨rfl, (Below.refl _ _).alloc (Nat.le_refl _) _⟩
    | true =>
      cases z4 : (i == 0) with
      | false =>
        have HE : Hid (zeroB s b p i tm e true false false true false false = false) := by simp [Hid, zeroB, z1, z2, z4]
        go_enter Try.func132, Try.ntmps132
        go_wp2
        go_ret
        rw [HE.out]
        exact ⟨rfl, (Below.refl _ _).alloc (Nat.le_refl _) _⟩
      | true =>
        cases z5 : (tm == 0) with
        | false =>
          have HE : Hid (zeroB s b p i tm e true false false true false false = false) := by simp [Hid, zeroB, z1, z2, z4, z5]
          go_enter Try.func132, Try.ntmps132
          go_wp2
          go_ret
          rw [HE.out]
          exact ⟨rfl, (Below.refl _ _).alloc (Nat.le_refl _) _⟩
        | true =>
          have HE : Hid (zeroB s b p i tm e true false false true false false = true) := by simp [Hid, zeroB, z1, z2, z4, z5]
          go_enter Try.func132, Try.ntmps132
          go_wp2
          go_ret
          rw [HE.out]
          exact ⟨rfl, (Below.refl _ _).alloc (Nat.le_refl _) _⟩
theorem rzero_TTFFFF (f t k g s b p : Int) (u : ByteArray) (i tm : Int) (w : World) (e : Bool) (he : u.toList.isEmpty = e) :
    Calls Try.prog 132 #[.agg #[.int .i64 f, .int .i64 t, .int .u8 k, .int .i64 g, .int .i64 s, .int .i64 b, .int .i64 p, .string u, .int .i64 i, .int .i64 tm], .bool true, .bool true, .bool false, .bool false, .bool false, .bool false] w fun x w' => x = .returned (.bool (zeroB s b p i tm e true true false false false false)) ∧ Below w.heap.size w w' := by
  cases z2 : (p == 0) with
  | false =>
    have HE : Hid (zeroB s b p i tm e true true false false false false = false) := by simp [Hid, zeroB, z2]
    go_enter Try.func132, Try.ntmps132
    go_wp2
    go_ret
    rw [HE.out]
    exact ⟨rfl, (Below.refl _ _).alloc (Nat.le_refl _) _⟩
  | true =>
    cases e with
    | false =>
      have HE : Hid (zeroB s b p i tm false true true false false false false = false) := by simp [Hid, zeroB, z2]
      go_enter Try.func132, Try.ntmps132
      go_wp2
      go_ret
      rw [HE.out]
      exact ⟨rfl, (Below.refl _ _).alloc (Nat.le_refl _) _⟩
    | true =>
      cases z4 : (i == 0) with
      | false =>
        have HE : Hid (zeroB s b p i tm true true true false false false false = false) := by simp [Hid, zeroB, z2, z4]
        go_enter Try.func132, Try.ntmps132
        go_wp2
        go_ret
        rw [HE.out]
        exact ⟨rfl, (Below.refl _ _).alloc (Nat.le_refl _) _⟩
      | true =>
        cases z5 : (tm == 0) with
        | false =>
          have HE : Hid (zeroB s b p i tm true true true false false false false = false) := by simp [Hid, zeroB, z2, z4, z5]
          go_enter Try.func132, Try.ntmps132
          go_wp2
          go_ret
          rw [HE.out]
          exact ⟨rfl, (Below.refl _ _).alloc (Nat.le_refl _) _⟩
        | true =>
          have HE : Hid (zeroB s b p i tm true true true false false false false = true) := by simp [Hid, zeroB, z2, z4, z5]
          go_enter Try.func132, Try.ntmps132
          go_wp2
          go_ret
          rw [HE.out]
          exact ⟨rfl, (Below.refl _ _).alloc (Nat.le_refl _) _⟩
theorem rzero_TTFTFF (f t k g s b p : Int) (u : ByteArray) (i tm : Int) (w : World) (e : Bool) (he : u.toList.isEmpty = e) :
    Calls Try.prog 132 #[.agg #[.int .i64 f, .int .i64 t, .int .u8 k, .int .i64 g, .int .i64 s, .int .i64 b, .int .i64 p, .string u, .int .i64 i, .int .i64 tm], .bool true, .bool true, .bool false, .bool true, .bool false, .bool false] w fun x w' => x = .returned (.bool (zeroB s b p i tm e true true false true false false)) ∧ Below w.heap.size w w' := by
  cases z2 : (p == 0) with
  | false =>
    have HE : Hid (zeroB s b p i tm e true true false true false false = false) := by simp [Hid, zeroB, z2]
    go_enter Try.func132, Try.ntmps132
    go_wp2
    go_ret
    rw [HE.out]
    exact ⟨rfl, (Below.refl _ _).alloc (Nat.le_refl _) _⟩
  | true =>
    cases z4 : (i == 0) with
    | false =>
      have HE : Hid (zeroB s b p i tm e true true false true false false = false) := by simp [Hid, zeroB, z2, z4]
      go_enter Try.func132, Try.ntmps132
      go_wp2
      go_ret
      rw [HE.out]
      exact ⟨rfl, (Below.refl _ _).alloc (Nat.le_refl _) _⟩
    | true =>
      cases z5 : (tm == 0) with
      | false =>
        have HE : Hid (zeroB s b p i tm e true true false true false false = false) := by simp [Hid, zeroB, z2, z4, z5]
        go_enter Try.func132, Try.ntmps132
        go_wp2
        go_ret
        rw [HE.out]
        exact ⟨rfl, (Below.refl _ _).alloc (Nat.le_refl _) _⟩
      | true =>
        have HE : Hid (zeroB s b p i tm e true true false true false false = true) := by simp [Hid, zeroB, z2, z4, z5]
        go_enter Try.func132, Try.ntmps132
        go_wp2
        go_ret
        rw [HE.out]
        exact ⟨rfl, (Below.refl _ _).alloc (Nat.le_refl _) _⟩
theorem rzero_TTTFFF (f t k g s b p : Int) (u : ByteArray) (i tm : Int) (w : World) (e : Bool) (he : u.toList.isEmpty = e) :
    Calls Try.prog 132 #[.agg #[.int .i64 f, .int .i64 t, .int .u8 k, .int .i64 g, .int .i64 s, .int .i64 b, .int .i64 p, .string u, .int .i64 i, .int .i64 tm], .bool true, .bool true, .bool true, .bool false, .bool false, .bool false] w fun x w' => x = .returned (.bool (zeroB s b p i tm e true true true false false false)) ∧ Below w.heap.size w w' := by
  cases e with
  | false =>
    have HE : Hid (zeroB s b p i tm false true true true false false false = false) := by simp [Hid, zeroB]
    go_enter Try.func132, Try.ntmps132
    go_wp2
    go_ret
    rw [HE.out]
    exact ⟨rfl, (Below.refl _ _).alloc (Nat.le_refl _) _⟩
  | true =>
    cases z4 : (i == 0) with
    | false =>
      have HE : Hid (zeroB s b p i tm true true true true false false false = false) := by simp [Hid, zeroB, z4]
      go_enter Try.func132, Try.ntmps132
      go_wp2
      go_ret
      rw [HE.out]
      exact ⟨rfl, (Below.refl _ _).alloc (Nat.le_refl _) _⟩
    | true =>
      cases z5 : (tm == 0) with
      | false =>
        have HE : Hid (zeroB s b p i tm true true true true false false false = false) := by simp [Hid, zeroB, z4, z5]
        go_enter Try.func132, Try.ntmps132
        go_wp2
        go_ret
        rw [HE.out]
        exact ⟨rfl, (Below.refl _ _).alloc (Nat.le_refl _) _⟩
      | true =>
        have HE : Hid (zeroB s b p i tm true true true true false false false = true) := by simp [Hid, zeroB, z4, z5]
        go_enter Try.func132, Try.ntmps132
        go_wp2
        go_ret
        rw [HE.out]
        exact ⟨rfl, (Below.refl _ _).alloc (Nat.le_refl _) _⟩
theorem rzero_TTTTFF (f t k g s b p : Int) (u : ByteArray) (i tm : Int) (w : World) (e : Bool) (he : u.toList.isEmpty = e) :
    Calls Try.prog 132 #[.agg #[.int .i64 f, .int .i64 t, .int .u8 k, .int .i64 g, .int .i64 s, .int .i64 b, .int .i64 p, .string u, .int .i64 i, .int .i64 tm], .bool true, .bool true, .bool true, .bool true, .bool false, .bool false] w fun x w' => x = .returned (.bool (zeroB s b p i tm e true true true true false false)) ∧ Below w.heap.size w w' := by
  cases z4 : (i == 0) with
  | false =>
    have HE : Hid (zeroB s b p i tm e true true true true false false = false) := by simp [Hid, zeroB, z4]
    go_enter Try.func132, Try.ntmps132
    go_wp2
    go_ret
    rw [HE.out]
    exact ⟨rfl, (Below.refl _ _).alloc (Nat.le_refl _) _⟩
  | true =>
    cases z5 : (tm == 0) with
    | false =>
      have HE : Hid (zeroB s b p i tm e true true true true false false = false) := by simp [Hid, zeroB, z4, z5]
      go_enter Try.func132, Try.ntmps132
      go_wp2
      go_ret
      rw [HE.out]
      exact ⟨rfl, (Below.refl _ _).alloc (Nat.le_refl _) _⟩
    | true =>
      have HE : Hid (zeroB s b p i tm e true true true true false false = true) := by simp [Hid, zeroB, z4, z5]
      go_enter Try.func132, Try.ntmps132
      go_wp2
      go_ret
      rw [HE.out]
      exact ⟨rfl, (Below.refl _ _).alloc (Nat.le_refl _) _⟩
end Go.Proofs.Ytmchnjnknnolmaa
