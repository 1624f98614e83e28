/-
  The reference of layer 24: all, May, Check, Send, Between; mail compared.
-/
import Derived.Test.YtmchnjnknnolmaaNetE
import Derived.Test.YtmchnjnknnolmaaWireRefM
import Derived.Test.YtmchnjnknnolmaaQuiet
import Derived.Deep.QuietTactic
namespace Go.Proofs.Ytmchnjnknnolmaa
open Go.RowKit Bal Go.Sort Go.BigFrame
set_option maxHeartbeats 4000000
set_option maxRecDepth 100000
set_option linter.unusedVariables false
set_option linter.unusedSimpArgs false

theorem rmayM (m : Wp.Mail) (w : World) (hm : IsMailM m) (b : Bool) (hb : badB m = b) : Calls Try.prog 110 #[.agg (mA m)] w fun e w' => e = .returned (.bool (!b)) ∧ Below w.heap.size w w' := by
  have h := rmay23_any m.f m.t m.k m.g m.s m.b m.p (S m.v) m.i m.tm w (by rw [S_size]; exact hm.2.1)
  have e : (!b) = Wp.mayM m := by rw [← hb, badB, Bool.not_not]
  rw [e]
  exact h
theorem rall_any (A : Option Addr) (n c : Nat) (l : List Wp.Mail) (w : World) (b : Bool) (hb : l.any badB = b) (hr : Reads w w.heap.size 10 A n (cm l)) (hl : ∀ m ∈ l, IsMailM m) (hn : n ≤ 1000000000) :
    Calls Try.prog 79 #[.slice A n c] w fun e w' => e = .returned (.bool (!b)) ∧ Below w.heap.size w w' := by
  have hlen := hr.len_m
  have HBB := Lib.hid hb
  have HL := Lib.hid hl
  have HLN := Lib.hid hlen
  have HR := Lib.hid hr
  clear hb hl hlen hr
  go_enter Try.func79, Try.ntmps79
  go_wp2
  go_loopw [3] (fun y wr => ∃ k : Nat, y = .int .i64 (k : Int) ∧ k ≤ n ∧ Below w.heap.size w wr ∧ ∀ m ∈ l.take k, badB m = false) (fun y _ => n - (intOf y).toNat)
  case atStart => exact ⟨0, rfl, Nat.zero_le _, Below.refl _ _, by simp⟩
  case round =>
    obtain ⟨k, rfl, hk, hb, ha⟩ := hrel
    by_cases hlt : k < n
    · obtain ⟨g, off, m, e, hg, hm, hc⟩ := (HR.out.below hb).mail hlt
      have hm2 := List.mem_of_getElem? hm
      subst e
      have HIM := Lib.hid (HL.out m hm2)
      have HC := Lib.hid hc
      have HB := Lib.hid hb
      have HA := Lib.hid ha
      have HM := Lib.hid hm
      have HM2 := Lib.hid hm2
      clear hc hb ha hm2 hm
      go_wp2_with (first | (with_reducible refine wpList_load_mid rfl _ _ rfl _ _ rfl _ _ HC.out Try.underlying25 rfl (by kernel_rfl) ?_) | fail)
      rw [show (mcells m).toArray = mA m from rfl]
      cases hbad : badB m with
      | true =>
        refine (rmayM m wr HIM.out true hbad).mono ?_
        rintro e w1 ⟨rfl, hb⟩
        have HE : Hid (b = true) := by
          rw [Hid, ← HBB.out, List.any_eq_true]
          exact ⟨m, HM2.out, hbad⟩
        have B1 := Lib.hid (HB.out.trans (hb.mono HB.out.size))
        clear hb hbad
        go_wp2
        go_ret
        rw [HE.out]
        exact ⟨rfl, B1.out⟩
      | false =>
        refine (rmayM m wr HIM.out false hbad).mono ?_
        rintro e w1 ⟨rfl, hb⟩
        have B1 := Lib.hid (HB.out.trans (hb.mono HB.out.size))
        have HA2 : Hid (∀ y ∈ l.take (k + 1), badB y = false) := by
          intro y hy
          rw [List.take_add_one, HM.out] at hy
          rcases List.mem_append.1 hy with hy | hy
          · exact HA.out y hy
          · simp at hy
            rw [hy]
            exact hbad
        clear hb hbad HA
        go_wp2
        go_roundw
        case rel => exact ⟨k + 1, by go_num, by omega, B1.out, HA2.out⟩
        case measure => simp [intOf]; omega
    · have HE : Hid (b = false) := by
        rw [Hid, ← HBB.out, List.any_eq_false]
        rw [List.take_of_length_le (by have := HLN.out; omega)] at ha
        intro y hy
        rw [ha y hy]
        decide
      have HB := Lib.hid hb
      clear ha hb
      go_wp2
      go_ret
      rw [HE.out]
      exact ⟨rfl, HB.out⟩
theorem rMay_any (A : Option Addr) (n c : Nat) (l : List Wp.Mail) (w : World) (b : Bool) (hb : okMails l = b) (hr : Reads w w.heap.size 10 A n (cm l)) (hl : ∀ m ∈ l, IsMailM m) (hn : n ≤ 1000000000) :
    Calls Try.prog 78 #[.slice A n c] w fun e w' => e = .returned (.bool b) ∧ Below w.heap.size w w' := by
  have hlen := hr.len_m
  by_cases z : n ≤ 4096
  · have z1 : decide ((n : Int) ≤ 4096) = true := decide_eq_true (by omega)
    cases ha : l.any badB with
    | true =>
      obtain rfl : b = false := by rw [← hb, okMails, ha]; simp
      have H := Lib.hid (rall_any A n c l w true ha hr hl hn)
      clear hb hr hl hlen ha
      go_enter Try.func78, Try.ntmps78
      go_wp2_with fail
      refine H.out.mono ?_
      rintro e w1 ⟨rfl, hb⟩
      have HB := Lib.hid hb
      clear hb
      go_wp2
      go_ret
      exact ⟨rfl, HB.out⟩
    | false =>
      obtain rfl : b = true := by rw [← hb, okMails, ha, decide_eq_true (by omega)]; rfl
      have H := Lib.hid (rall_any A n c l w false ha hr hl hn)
      clear hb hr hl hlen ha
      go_enter Try.func78, Try.ntmps78
      go_wp2_with fail
      refine H.out.mono ?_
      rintro e w1 ⟨rfl, hb⟩
      have HB := Lib.hid hb
      clear hb
      go_wp2
      go_ret
      exact ⟨rfl, HB.out⟩
  · have z1 : decide ((n : Int) ≤ 4096) = false := decide_eq_false (by omega)
    obtain rfl : b = false := by rw [← hb, okMails, decide_eq_false (by omega)]; rfl
    clear hb hr hl hlen
    go_enter Try.func78, Try.ntmps78
    go_wp2
    go_ret
    exact ⟨rfl, Below.refl _ _⟩
theorem rCheck24_any (A : Option Addr) (n c : Nat) (l : List Wp.Mail) (w : World) (b : Bool) (hb : okMails l = b) (hr : Reads w w.heap.size 10 A n (cm l)) (hl : ∀ m ∈ l, IsMailM m) (hn : n ≤ 1000000000) :
    Calls Try.prog 43 #[.slice A n c] w fun e w' => e = .returned (.int .i64 (if b then 0 else 8)) ∧ Below w.heap.size w w' := by
  have H := Lib.hid (rMay_any A n c l w b hb hr hl hn)
  clear hb hr hl
  cases b with
  | true =>
    go_enter Try.func43, Try.ntmps43
    go_wp2_with fail
    refine H.out.mono ?_
    rintro e w1 ⟨rfl, hb⟩
    have HB := Lib.hid hb
    clear hb
    go_wp2
    go_ret
    exact ⟨rfl, HB.out⟩
  | false =>
    go_enter Try.func43, Try.ntmps43
    go_wp2_with fail
    refine H.out.mono ?_
    rintro e w1 ⟨rfl, hb⟩
    have HB := Lib.hid hb
    clear hb
    go_wp2
    go_ret
    exact ⟨rfl, HB.out⟩

theorem rsend_bad (A A2 : Option Addr) (n c n2 c2 : Nat) (l l2 : List Wp.Mail) (w : World) (hr : Reads w w.heap.size 10 A n (cm l)) (hr2 : Reads w w.heap.size 10 A2 n2 (cm l2)) (hl : ∀ m ∈ l, IsMailM m) (hl2 : ∀ m ∈ l2, IsMailM m) (hn : n ≤ 1000000) (hn2 : n2 ≤ 1000000) (h : okMails l = false ∨ l2.any badB = true) :
    Calls Try.prog 38 #[.slice A n c, .slice A2 n2 c2] w fun e w' => e = .returned (.tuple #[.slice none 0 0, .int .i64 8]) ∧ Below w.heap.size w w' := by
  cases hok : okMails l with
  | false =>
    have H1 := Lib.hid (rMay_any A n c l w false hok hr hl (by omega))
    clear h hr hr2 hl hl2 hok
    go_enter Try.func38, Try.ntmps38
    go_wp2_with fail
    refine H1.out.mono ?_
    rintro e w1 ⟨rfl, hb⟩
    have B1 := Lib.hid hb
    clear hb
    go_wp2
    go_ret2
    exact ⟨rfl, B1.out⟩
  | true =>
    have h2 : l2.any badB = true := h.resolve_left (by rw [hok]; decide)
    have H1 := Lib.hid (rMay_any A n c l w true hok hr hl (by omega))
    have H2 := Lib.hid (fun w1 hr => rall_any A2 n2 c2 l2 w1 true h2 hr hl2 (by omega))
    have HR2 := Lib.hid hr2
    clear h hr hr2 hl hl2 hok h2
    go_enter Try.func38, Try.ntmps38
    go_wp2_with fail
    refine H1.out.mono ?_
    rintro e w1 ⟨rfl, hb⟩
    have B1 := Lib.hid hb
    clear hb
    go_wp2_with fail
    refine (H2.out w1 ((HR2.out.below B1.out).more B1.out.size)).mono ?_
    rintro e w2 ⟨rfl, hb⟩
    have B2 := Lib.hid (then_ B1.out hb)
    clear hb
    go_wp2
    go_ret2
    exact ⟨rfl, B2.out⟩
theorem rsend_full (A A2 : Option Addr) (n c n2 c2 : Nat) (l l2 : List Wp.Mail) (w : World) (hr : Reads w w.heap.size 10 A n (cm l)) (hr2 : Reads w w.heap.size 10 A2 n2 (cm l2)) (hl : ∀ m ∈ l, IsMailM m) (hl2 : ∀ m ∈ l2, IsMailM m) (hn : n ≤ 1000000) (hn2 : n2 ≤ 1000000) (hok : okMails l = true) (h2 : l2.any badB = false) (hf : 4096 < n + n2) :
    Calls Try.prog 38 #[.slice A n c, .slice A2 n2 c2] w fun e w' => e = .returned (.tuple #[.slice none 0 0, .int .i64 9]) ∧ Below w.heap.size w w' := by
  have H1 := Lib.hid (rMay_any A n c l w true hok hr hl (by omega))
  have H2 := Lib.hid (fun w1 hr => rall_any A2 n2 c2 l2 w1 false h2 hr hl2 (by omega))
  have HR2 := Lib.hid hr2
  have hff : (4096 : Int) < (n : Int) + (n2 : Int) := by omega
  clear hr hr2 hl hl2 hok h2 hf
  go_enter Try.func38, Try.ntmps38
  go_wp2_with fail
  refine H1.out.mono ?_
  rintro e w1 ⟨rfl, hb⟩
  have B1 := Lib.hid hb
  clear hb
  go_wp2_with fail
  refine (H2.out w1 ((HR2.out.below B1.out).more B1.out.size)).mono ?_
  rintro e w2 ⟨rfl, hb⟩
  have B2 := Lib.hid (then_ B1.out hb)
  clear hb
  go_wp2
  go_ret2
  exact ⟨rfl, B2.out⟩
theorem rsend_ok (A A2 : Option Addr) (n c n2 c2 : Nat) (l l2 : List Wp.Mail) (w : World) (hr : Reads w w.heap.size 10 A n (cm l)) (hr2 : Reads w w.heap.size 10 A2 n2 (cm l2)) (hl : ∀ m ∈ l, IsMailM m) (hl2 : ∀ m ∈ l2, IsMailM m) (hn : n ≤ 1000000) (hn2 : n2 ≤ 1000000) (hok : okMails l = true) (h2 : l2.any badB = false) (hf : n + n2 ≤ 4096) :
    Calls Try.prog 38 #[.slice A n c, .slice A2 n2 c2] w fun e w' => ∃ A3 c3, e = .returned (.tuple #[.slice A3 (n + n2) c3, .int .i64 0]) ∧ w'.ownsRow w.heap.size 25 10 (.slice A3 (n + n2) c3) (n + n2) (cm (l ++ l2)) ∧ Below w.heap.size w w' := by
  have H1 := Lib.hid (rMay_any A n c l w true hok hr hl (by omega))
  have H2 := Lib.hid (fun w1 hr => rall_any A2 n2 c2 l2 w1 false h2 hr hl2 (by omega))
  have HR1 := Lib.hid hr
  have HR2 := Lib.hid hr2
  have hff : ¬ (4096 : Int) < (n : Int) + (n2 : Int) := by omega
  clear hr hr2 hl hl2 hok h2
  go_enter Try.func38, Try.ntmps38
  go_wp2_with fail
  refine H1.out.mono ?_
  rintro e w1 ⟨rfl, hb⟩
  have B1 := Lib.hid hb
  clear hb
  go_wp2_with fail
  refine (H2.out w1 ((HR2.out.below B1.out).more B1.out.size)).mono ?_
  rintro e w2 ⟨rfl, hb⟩
  have B2 := Lib.hid (then_ B1.out hb)
  clear hb
  go_wp2_with (at_builtin; refine app_ms rfl (.tmp 21) (.tmp 22) rfl w.heap.size (.slice none 0 0) 0 [] rfl (World.ownsRow_nil _ _ _ _) w.heap.size A n c l rfl (HR1.out.below B2.out) ?c1 ?c2 ?_)
  case c1 => omega
  case c2 => exact B2.out.size
  intro v3 w3 o3 g3
  have O3 : Hid (w3.ownsRow w.heap.size 25 10 v3 n (cm l)) := by simpa [Hid] using o3
  have B3 := Lib.hid (B2.out.trans (g3.below B2.out.size (by intro k hk; cases hk)))
  clear o3 g3
  go_wp2_with (at_builtin; refine app_ms rfl (.tmp 24) (.tmp 25) rfl w.heap.size v3 n l rfl O3.out w.heap.size A2 n2 c2 l2 rfl (HR2.out.below B3.out) ?d1 ?d2 ?_)
  case d1 => omega
  case d2 => exact B3.out.size
  intro v4 w4 o4 g4
  have O4 := Lib.hid o4
  have B4 := Lib.hid (B3.out.trans (g4.belowOwn O3.out B3.out.size))
  obtain ⟨A5, c5, rfl, -, -, -⟩ := own_formN O4.out
  clear o4 g4
  go_wp2
  go_ret2
  exact ⟨_, _, rfl, O4.out, B4.out⟩
end Go.Proofs.Ytmchnjnknnolmaa
