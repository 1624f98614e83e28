/-
  Layer 24: each call's answer under one form, whatever the input; program and reference alike.
-/
import Derived.Test.YtmchnjnknnolmaaNetE
import Derived.Test.YtmchnjnknnolmaaNetS
import Derived.Test.YtmchnjnknnolmaaNetT
namespace Go.Proofs.Ytmchnjnknnolmaa
open Go.RowKit Bal Go.Sort Go.BigFrame
set_option maxHeartbeats 4000000
set_option maxRecDepth 100000
set_option linter.unusedVariables false
set_option linter.unusedSimpArgs false

theorem okMails_len' {l : List Wp.Mail} (h : okMails l = true) : l.length ≤ 4096 := by
  rw [okMails, Bool.and_eq_true] at h
  exact of_decide_eq_true h.1
def sendL (l more : List Wp.Mail) : List Wp.Mail := if okMails l = true ∧ more.any badB = false ∧ l.length + more.length ≤ 4096 then l ++ more else []
def sendE (l more : List Wp.Mail) : Int := if okMails l = true ∧ more.any badB = false then (if l.length + more.length ≤ 4096 then 0 else 9) else 8
def zMt : Wp.Mail := ⟨0, 0, 0, 0, 0, 0, 0, [], 0, 0⟩
def takeOf (l : List Wp.Mail) (k : Int) : Option Wp.Mail := if okMails l = true ∧ 0 ≤ k then l[k.toNat]? else none
def takeM (l : List Wp.Mail) (k : Int) : Wp.Mail := (takeOf l k).getD zMt
def takeL (l : List Wp.Mail) (k : Int) : List Wp.Mail := if (takeOf l k).isSome then l.take k.toNat ++ l.drop (k.toNat + 1) else []
def takeE (l : List Wp.Mail) (k : Int) : Int := if (takeOf l k).isSome then 0 else if okMails l = true then 2 else 8
def btwOk (l : List Wp.Mail) (a b : Int) : Bool := okMails l && decide ((0 ≤ a ∧ a ≤ 5) ∧ (0 ≤ b ∧ b ≤ 5))
def btwR (l : List Wp.Mail) (a b : Int) : List Int := if btwOk l a b = true then btw a b l else []
def btwE (l : List Wp.Mail) (a b : Int) : Int := if btwOk l a b = true then 0 else if okMails l = true then 2 else 8
def okE2 (l : List Wp.Mail) : Int := if okMails l = true then 0 else 8

theorem nsend_any (A A2 : Option Addr) (n c n2 c2 : Nat) (l l2 : List Wp.Mail) (w : World) (hr : Reads w w.heap.size 10 A n (cm l)) (hr2 : Reads w w.heap.size 10 A2 n2 (cm l2)) (hl : ∀ m ∈ l, IsMailM m) (hl2 : ∀ m ∈ l2, IsMailM m) (hn : n ≤ 1000000) (hn2 : n2 ≤ 1000000) (LS : List Wp.Mail) (nS : Nat) (eS : Int) (h1 : sendL l l2 = LS) (h2 : LS.length = nS) (h3 : sendE l l2 = eS) :
    Calls Try.prog 20 #[.slice A n c, .slice A2 n2 c2] w fun e w' => ∃ A3 c3, e = .returned (.tuple #[.slice A3 nS c3, .int .i64 eS]) ∧ w'.ownsRow w.heap.size 25 10 (.slice A3 nS c3) nS (cm LS) ∧ Below w.heap.size w w' := by
  have e1 := hr.len_m
  have e2 := hr2.len_m
  by_cases hc : okMails l = true ∧ l2.any badB = false
  · obtain ⟨hok, hb⟩ := hc
    by_cases hf : l.length + l2.length ≤ 4096
    · have g1 : LS = l ++ l2 := by rw [← h1, sendL, if_pos ⟨hok, hb, hf⟩]
      have g2 : nS = n + n2 := by rw [← h2, g1, List.length_append, e1, e2]
      have g3 : eS = 0 := by rw [← h3, sendE, if_pos ⟨hok, hb⟩, if_pos hf]
      subst g1 g2 g3
      exact nsend_ok A A2 n c n2 c2 l l2 w hr hr2 hl hl2 hn hn2 hok hb (by omega)
    · have g1 : LS = [] := by rw [← h1, sendL, if_neg (fun x => hf x.2.2)]
      have g2 : nS = 0 := by rw [← h2, g1]; rfl
      have g3 : eS = 9 := by rw [← h3, sendE, if_pos ⟨hok, hb⟩, if_neg hf]
      subst g1 g2 g3
      exact (nsend_full A A2 n c n2 c2 l l2 w hr hr2 hl hl2 hn hn2 hok hb (by omega)).mono fun e w' ⟨he, hb⟩ => ⟨none, 0, he, World.ownsRow_nil _ _ _ _, hb⟩
  · have g1 : LS = [] := by rw [← h1, sendL, if_neg (fun x => hc ⟨x.1, x.2.1⟩)]
    have g2 : nS = 0 := by rw [← h2, g1]; rfl
    have g3 : eS = 8 := by rw [← h3, sendE, if_neg hc]
    subst g1 g2 g3
    refine (nsend_bad A A2 n c n2 c2 l l2 w hr hr2 hl hl2 hn hn2 ?_).mono fun e w' ⟨he, hb⟩ => ⟨none, 0, he, World.ownsRow_nil _ _ _ _, hb⟩
    cases hx : okMails l with
    | false => exact Or.inl rfl
    | true =>
      right
      cases hy : l2.any badB with
      | true => rfl
      | false => exact absurd ⟨hx, hy⟩ hc
theorem rsend_any (A A2 : Option Addr) (n c n2 c2 : Nat) (l l2 : List Wp.Mail) (w : World) (hr : Reads w w.heap.size 10 A n (cm l)) (hr2 : Reads w w.heap.size 10 A2 n2 (cm l2)) (hl : ∀ m ∈ l, IsMailM m) (hl2 : ∀ m ∈ l2, IsMailM m) (hn : n ≤ 1000000) (hn2 : n2 ≤ 1000000) (LS : List Wp.Mail) (nS : Nat) (eS : Int) (h1 : sendL l l2 = LS) (h2 : LS.length = nS) (h3 : sendE l l2 = eS) :
    Calls Try.prog 38 #[.slice A n c, .slice A2 n2 c2] w fun e w' => ∃ A3 c3, e = .returned (.tuple #[.slice A3 nS c3, .int .i64 eS]) ∧ w'.ownsRow w.heap.size 25 10 (.slice A3 nS c3) nS (cm LS) ∧ Below w.heap.size w w' := by
  have e1 := hr.len_m
  have e2 := hr2.len_m
  by_cases hc : okMails l = true ∧ l2.any badB = false
  · obtain ⟨hok, hb⟩ := hc
    by_cases hf : l.length + l2.length ≤ 4096
    · have g1 : LS = l ++ l2 := by rw [← h1, sendL, if_pos ⟨hok, hb, hf⟩]
      have g2 : nS = n + n2 := by rw [← h2, g1, List.length_append, e1, e2]
      have g3 : eS = 0 := by rw [← h3, sendE, if_pos ⟨hok, hb⟩, if_pos hf]
      subst g1 g2 g3
      exact rsend_ok A A2 n c n2 c2 l l2 w hr hr2 hl hl2 hn hn2 hok hb (by omega)
    · have g1 : LS = [] := by rw [← h1, sendL, if_neg (fun x => hf x.2.2)]
      have g2 : nS = 0 := by rw [← h2, g1]; rfl
      have g3 : eS = 9 := by rw [← h3, sendE, if_pos ⟨hok, hb⟩, if_neg hf]
      subst g1 g2 g3
      exact (rsend_full A A2 n c n2 c2 l l2 w hr hr2 hl hl2 hn hn2 hok hb (by omega)).mono fun e w' ⟨he, hb⟩ => ⟨none, 0, he, World.ownsRow_nil _ _ _ _, hb⟩
  · have g1 : LS = [] := by rw [← h1, sendL, if_neg (fun x => hc ⟨x.1, x.2.1⟩)]
    have g2 : nS = 0 := by rw [← h2, g1]; rfl
    have g3 : eS = 8 := by rw [← h3, sendE, if_neg hc]
    subst g1 g2 g3
    refine (rsend_bad A A2 n c n2 c2 l l2 w hr hr2 hl hl2 hn hn2 ?_).mono fun e w' ⟨he, hb⟩ => ⟨none, 0, he, World.ownsRow_nil _ _ _ _, hb⟩
    cases hx : okMails l with
    | false => exact Or.inl rfl
    | true =>
      right
      cases hy : l2.any badB with
      | true => rfl
      | false => exact absurd ⟨hx, hy⟩ hc
theorem take_cases (l : List Wp.Mail) (n : Nat) (hn : l.length = n) (k : Int) : (okMails l = false ∧ takeOf l k = none) ∨ (okMails l = true ∧ (k < 0 ∨ (n : Int) ≤ k) ∧ takeOf l k = none) ∨ ∃ (j : Nat) (m : Wp.Mail), k = (j : Int) ∧ okMails l = true ∧ l[j]? = some m ∧ takeOf l k = some m := by
  cases hok : okMails l with
  | false => exact Or.inl ⟨rfl, by unfold takeOf; rw [if_neg (fun x => by rw [hok] at x; cases x.1)]⟩
  | true =>
    right
    by_cases h0 : 0 ≤ k
    · have e : takeOf l k = l[k.toNat]? := by unfold takeOf; rw [if_pos ⟨hok, h0⟩]
      by_cases h1 : k < (n : Int)
      · right
        refine ⟨k.toNat, l[k.toNat]'(by omega), by omega, rfl, List.getElem?_eq_getElem _, ?_⟩
        rw [e]
        exact List.getElem?_eq_getElem _
      · exact Or.inl ⟨rfl, Or.inr (by omega), by rw [e]; exact List.getElem?_eq_none (by omega)⟩
    · exact Or.inl ⟨rfl, Or.inl (by omega), by unfold takeOf; rw [if_neg (fun x => h0 x.2)]⟩
theorem zMt_A : mA zMt = #[.int .i64 0, .int .i64 0, .int .u8 0, .int .i64 0, .int .i64 0, .int .i64 0, .int .i64 0, .string ⟨#[]⟩, .int .i64 0, .int .i64 0] := rfl
theorem ntake_any (A : Option Addr) (n c : Nat) (l : List Wp.Mail) (w : World) (hr : Reads w w.heap.size 10 A n (cm l)) (hc : n ≤ c) (hl : ∀ m ∈ l, IsMailM m) (hn : n ≤ 100000) (k : Int) (LT : List Wp.Mail) (nT : Nat) (eT : Int) (m : Wp.Mail) (h1 : takeL l k = LT) (h2 : LT.length = nT) (h3 : takeE l k = eT) (h4 : takeM l k = m) :
    Calls Try.prog 21 #[.slice A n c, .int .i64 k] w fun e w' => ∃ A3 c3, e = .returned (.tuple #[.slice A3 nT c3, .agg (mA m), .int .i64 eT]) ∧ w'.ownsRow w.heap.size 25 10 (.slice A3 nT c3) nT (cm LT) ∧ Below w.heap.size w w' := by
  have e1 := hr.len_m
  rcases take_cases l n e1 k with ⟨hok, hq⟩ | ⟨hok, hk, hq⟩ | ⟨j, m', rfl, hok, hj, hq⟩
  · have g1 : LT = [] := by rw [← h1, takeL, hq]; rfl
    have g2 : nT = 0 := by rw [← h2, g1]; rfl
    have g3 : eT = 8 := by rw [← h3, takeE, hq, hok]; rfl
    have g4 : m = zMt := by rw [← h4, takeM, hq]; rfl
    subst g1 g2 g3 g4
    exact (ntake_bad A n c l w hr hc hl hn k hok).mono fun e w' ⟨he, hb⟩ => ⟨none, 0, he, World.ownsRow_nil _ _ _ _, hb⟩
  · have g1 : LT = [] := by rw [← h1, takeL, hq]; rfl
    have g2 : nT = 0 := by rw [← h2, g1]; rfl
    have g3 : eT = 2 := by rw [← h3, takeE, hq, hok]; rfl
    have g4 : m = zMt := by rw [← h4, takeM, hq]; rfl
    subst g1 g2 g3 g4
    exact (ntake_arg A n c l w hr hc hl hn k hk hok).mono fun e w' ⟨he, hb⟩ => ⟨none, 0, he, World.ownsRow_nil _ _ _ _, hb⟩
  · have hjl := (List.getElem?_eq_some_iff.1 hj).1
    have g1 : LT = l.take j ++ l.drop (j + 1) := by rw [← h1, takeL, hq]; rfl
    have g2 : nT = n - 1 := by rw [← h2, g1, List.length_append, List.length_take, List.length_drop]; omega
    have g3 : eT = 0 := by rw [← h3, takeE, hq]; rfl
    have g4 : m = m' := by rw [← h4, takeM, hq]; rfl
    subst g1 g2 g3 g4
    exact ntake_ok A n c l w hr hc hl hn j m hj hok
theorem rtake_any (A : Option Addr) (n c : Nat) (l : List Wp.Mail) (w : World) (hr : Reads w w.heap.size 10 A n (cm l)) (hc : n ≤ c) (hl : ∀ m ∈ l, IsMailM m) (hn : n ≤ 100000) (k : Int) (LT : List Wp.Mail) (nT : Nat) (eT : Int) (m : Wp.Mail) (h1 : takeL l k = LT) (h2 : LT.length = nT) (h3 : takeE l k = eT) (h4 : takeM l k = m) :
    Calls Try.prog 39 #[.slice A n c, .int .i64 k] w fun e w' => ∃ A3 c3, e = .returned (.tuple #[.slice A3 nT c3, .agg (mA m), .int .i64 eT]) ∧ w'.ownsRow w.heap.size 25 10 (.slice A3 nT c3) nT (cm LT) ∧ Below w.heap.size w w' := by
  have e1 := hr.len_m
  rcases take_cases l n e1 k with ⟨hok, hq⟩ | ⟨hok, hk, hq⟩ | ⟨j, m', rfl, hok, hj, hq⟩
  · have g1 : LT = [] := by rw [← h1, takeL, hq]; rfl
    have g2 : nT = 0 := by rw [← h2, g1]; rfl
    have g3 : eT = 8 := by rw [← h3, takeE, hq, hok]; rfl
    have g4 : m = zMt := by rw [← h4, takeM, hq]; rfl
    subst g1 g2 g3 g4
    exact (rtake_bad A n c l w hr hc hl hn k hok).mono fun e w' ⟨he, hb⟩ => ⟨none, 0, he, World.ownsRow_nil _ _ _ _, hb⟩
  · have g1 : LT = [] := by rw [← h1, takeL, hq]; rfl
    have g2 : nT = 0 := by rw [← h2, g1]; rfl
    have g3 : eT = 2 := by rw [← h3, takeE, hq, hok]; rfl
    have g4 : m = zMt := by rw [← h4, takeM, hq]; rfl
    subst g1 g2 g3 g4
    exact (rtake_arg A n c l w hr hc hl hn k hk hok).mono fun e w' ⟨he, hb⟩ => ⟨none, 0, he, World.ownsRow_nil _ _ _ _, hb⟩
  · have hjl := (List.getElem?_eq_some_iff.1 hj).1
    have g1 : LT = l.take j ++ l.drop (j + 1) := by rw [← h1, takeL, hq]; rfl
    have g2 : nT = n - 1 := by rw [← h2, g1, List.length_append, List.length_take, List.length_drop]; omega
    have g3 : eT = 0 := by rw [← h3, takeE, hq]; rfl
    have g4 : m = m' := by rw [← h4, takeM, hq]; rfl
    subst g1 g2 g3 g4
    exact rtake_ok A n c l w hr hc hl hn j m hj hok
theorem ncopy_any (A : Option Addr) (n c : Nat) (l : List Wp.Mail) (w : World) (hr : Reads w w.heap.size 10 A n (cm l)) (hc : n ≤ c) (hl : ∀ m ∈ l, IsMailM m) (hn : n ≤ 100000) (k : Int) (eT : Int) (m : Wp.Mail) (h3 : takeE l k = eT) (h4 : takeM l k = m) :
    Calls Try.prog 22 #[.slice A n c, .int .i64 k] w fun e w' => e = .returned (.tuple #[.agg (mA m), .int .i64 eT]) ∧ Below w.heap.size w w' := by
  have e1 := hr.len_m
  rcases take_cases l n e1 k with ⟨hok, hq⟩ | ⟨hok, hk, hq⟩ | ⟨j, m', rfl, hok, hj, hq⟩
  · have g3 : eT = 8 := by rw [← h3, takeE, hq, hok]; rfl
    have g4 : m = zMt := by rw [← h4, takeM, hq]; rfl
    subst g3 g4
    exact ncopy_bad A n c l w hr hc hl hn k hok
  · have g3 : eT = 2 := by rw [← h3, takeE, hq, hok]; rfl
    have g4 : m = zMt := by rw [← h4, takeM, hq]; rfl
    subst g3 g4
    exact ncopy_arg A n c l w hr hc hl hn k hk hok
  · have g3 : eT = 0 := by rw [← h3, takeE, hq]; rfl
    have g4 : m = m' := by rw [← h4, takeM, hq]; rfl
    subst g3 g4
    exact ncopy_ok A n c l w hr hc hl hn j m hj hok
theorem ndrop_any (A : Option Addr) (n c : Nat) (l : List Wp.Mail) (w : World) (hr : Reads w w.heap.size 10 A n (cm l)) (hc : n ≤ c) (hl : ∀ m ∈ l, IsMailM m) (hn : n ≤ 100000) (k : Int) (LT : List Wp.Mail) (nT : Nat) (eT : Int) (h1 : takeL l k = LT) (h2 : LT.length = nT) (h3 : takeE l k = eT) :
    Calls Try.prog 23 #[.slice A n c, .int .i64 k] w fun e w' => ∃ A3 c3, e = .returned (.tuple #[.slice A3 nT c3, .int .i64 eT]) ∧ w'.ownsRow w.heap.size 25 10 (.slice A3 nT c3) nT (cm LT) ∧ Below w.heap.size w w' := by
  have e1 := hr.len_m
  rcases take_cases l n e1 k with ⟨hok, hq⟩ | ⟨hok, hk, hq⟩ | ⟨j, m', rfl, hok, hj, hq⟩
  · have g1 : LT = [] := by rw [← h1, takeL, hq]; rfl
    have g2 : nT = 0 := by rw [← h2, g1]; rfl
    have g3 : eT = 8 := by rw [← h3, takeE, hq, hok]; rfl
    subst g1 g2 g3
    exact (ndrop_bad A n c l w hr hc hl hn k hok).mono fun e w' ⟨he, hb⟩ => ⟨none, 0, he, World.ownsRow_nil _ _ _ _, hb⟩
  · have g1 : LT = [] := by rw [← h1, takeL, hq]; rfl
    have g2 : nT = 0 := by rw [← h2, g1]; rfl
    have g3 : eT = 2 := by rw [← h3, takeE, hq, hok]; rfl
    subst g1 g2 g3
    exact (ndrop_arg A n c l w hr hc hl hn k hk hok).mono fun e w' ⟨he, hb⟩ => ⟨none, 0, he, World.ownsRow_nil _ _ _ _, hb⟩
  · have hjl := (List.getElem?_eq_some_iff.1 hj).1
    have g1 : LT = l.take j ++ l.drop (j + 1) := by rw [← h1, takeL, hq]; rfl
    have g2 : nT = n - 1 := by rw [← h2, g1, List.length_append, List.length_take, List.length_drop]; omega
    have g3 : eT = 0 := by rw [← h3, takeE, hq]; rfl
    subst g1 g2 g3
    exact ndrop_ok A n c l w hr hc hl hn j m' hj hok
theorem nbetween_any (A : Option Addr) (n c : Nat) (l : List Wp.Mail) (w : World) (hr : Reads w w.heap.size 10 A n (cm l)) (hc : n ≤ c) (hl : ∀ m ∈ l, IsMailM m) (hn : n ≤ 100000) (a b : Int) (r : List Int) (q : Nat) (eB : Int) (h1 : btwR l a b = r) (h2 : r.length = q) (h3 : btwE l a b = eB) :
    Calls Try.prog 36 #[.slice A n c, .int .i64 a, .int .i64 b] w fun e w' => ∃ A3 c3, e = .returned (.tuple #[.slice A3 q c3, .int .i64 eB]) ∧ w'.ownsRow w.heap.size 3 1 (.slice A3 q c3) q (ci r) ∧ Below w.heap.size w w' := by
  cases hok : okMails l with
  | false =>
    have hx : btwOk l a b = false := by rw [btwOk, hok]; rfl
    have g1 : r = [] := by rw [← h1, btwR, hx]; rfl
    have g2 : q = 0 := by rw [← h2, g1]; rfl
    have g3 : eB = 8 := by rw [← h3, btwE, hx, hok]; rfl
    subst g1 g2 g3
    exact (nbetween_bad A n c l w hr hc hl hn a b hok).mono fun e w' ⟨he, hb⟩ => ⟨none, 0, he, World.ownsRow_nil _ _ _ _, hb⟩
  | true =>
    by_cases hab : (0 ≤ a ∧ a ≤ 5) ∧ (0 ≤ b ∧ b ≤ 5)
    · have hx : btwOk l a b = true := by rw [btwOk, hok, decide_eq_true hab]; rfl
      have g1 : btw a b l = r := by rw [← h1, btwR, if_pos hx]
      have g3 : eB = 0 := by rw [← h3, btwE, if_pos hx]
      subst g3
      exact nbetween_ok A n c l w hr hc hl hn a b hab.1 hab.2 hok q r g1 h2
    · have hx : btwOk l a b = false := by rw [btwOk, hok, decide_eq_false hab]; rfl
      have g1 : r = [] := by rw [← h1, btwR, hx]; rfl
      have g2 : q = 0 := by rw [← h2, g1]; rfl
      have g3 : eB = 2 := by rw [← h3, btwE, hx, hok]; rfl
      subst g1 g2 g3
      exact (nbetween_arg A n c l w hr hc hl hn a b hab hok).mono fun e w' ⟨he, hb⟩ => ⟨none, 0, he, World.ownsRow_nil _ _ _ _, hb⟩
theorem rbetween_any (A : Option Addr) (n c : Nat) (l : List Wp.Mail) (w : World) (hr : Reads w w.heap.size 10 A n (cm l)) (hc : n ≤ c) (hl : ∀ m ∈ l, IsMailM m) (hn : n ≤ 100000) (a b : Int) (r : List Int) (q : Nat) (eB : Int) (h1 : btwR l a b = r) (h2 : r.length = q) (h3 : btwE l a b = eB) :
    Calls Try.prog 40 #[.slice A n c, .int .i64 a, .int .i64 b] w fun e w' => ∃ A3 c3, e = .returned (.tuple #[.slice A3 q c3, .int .i64 eB]) ∧ w'.ownsRow w.heap.size 3 1 (.slice A3 q c3) q (ci r) ∧ Below w.heap.size w w' := by
  cases hok : okMails l with
  | false =>
    have hx : btwOk l a b = false := by rw [btwOk, hok]; rfl
    have g1 : r = [] := by rw [← h1, btwR, hx]; rfl
    have g2 : q = 0 := by rw [← h2, g1]; rfl
    have g3 : eB = 8 := by rw [← h3, btwE, hx, hok]; rfl
    subst g1 g2 g3
    exact (rbetween_bad A n c l w hr hc hl hn a b hok).mono fun e w' ⟨he, hb⟩ => ⟨none, 0, he, World.ownsRow_nil _ _ _ _, hb⟩
  | true =>
    by_cases hab : (0 ≤ a ∧ a ≤ 5) ∧ (0 ≤ b ∧ b ≤ 5)
    · have hx : btwOk l a b = true := by rw [btwOk, hok, decide_eq_true hab]; rfl
      have g1 : btw a b l = r := by rw [← h1, btwR, if_pos hx]
      have g3 : eB = 0 := by rw [← h3, btwE, if_pos hx]
      subst g3
      exact rbetween_ok A n c l w hr hc hl hn a b hab.1 hab.2 hok q r g1 h2
    · have hx : btwOk l a b = false := by rw [btwOk, hok, decide_eq_false hab]; rfl
      have g1 : r = [] := by rw [← h1, btwR, hx]; rfl
      have g2 : q = 0 := by rw [← h2, g1]; rfl
      have g3 : eB = 2 := by rw [← h3, btwE, hx, hok]; rfl
      subst g1 g2 g3
      exact (rbetween_arg A n c l w hr hc hl hn a b hab hok).mono fun e w' ⟨he, hb⟩ => ⟨none, 0, he, World.ownsRow_nil _ _ _ _, hb⟩
theorem ncheck_eq (A : Option Addr) (n c : Nat) (l : List Wp.Mail) (w : World) (hr : Reads w w.heap.size 10 A n (cm l)) (hc : n ≤ c) (hl : ∀ m ∈ l, IsMailM m) (hn : n ≤ 100000) (eC : Int) (h : okE2 l = eC) : Calls Try.prog 18 #[.slice A n c] w fun e w' => e = .returned (.int .i64 eC) ∧ Below w.heap.size w w' := by
  have := ncheck_any A n c l w _ rfl hr hl (by omega)
  rw [← h]
  exact this
theorem rcheck_eq (A : Option Addr) (n c : Nat) (l : List Wp.Mail) (w : World) (hr : Reads w w.heap.size 10 A n (cm l)) (hc : n ≤ c) (hl : ∀ m ∈ l, IsMailM m) (hn : n ≤ 100000) (eC : Int) (h : okE2 l = eC) : Calls Try.prog 43 #[.slice A n c] w fun e w' => e = .returned (.int .i64 eC) ∧ Below w.heap.size w w' := by
  have := rCheck24_any A n c l w _ rfl hr hl (by omega)
  rw [← h]
  exact this
theorem sendL_len {l more : List Wp.Mail} : (sendL l more).length ≤ 4096 := by
  unfold sendL
  split
  · rename_i h
    rw [List.length_append]
    exact h.2.2
  · simp
theorem takeL_len {l : List Wp.Mail} {k : Int} : (takeL l k).length ≤ l.length := by
  unfold takeL
  split
  · rw [List.length_append, List.length_take, List.length_drop]
    omega
  · simp
theorem btwR_len {l : List Wp.Mail} {a b : Int} : (btwR l a b).length ≤ l.length := by
  unfold btwR
  split
  · exact btwA_len a b l 0
  · simp
end Go.Proofs.Ytmchnjnknnolmaa
