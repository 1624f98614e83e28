/-
  Layer 24: net.Check.
-/
import Derived.Test.YtmchnjnknnolmaaMails
namespace Go.Proofs.Ytmchnjnknnolmaa
open Go.RowKit Bal
set_option maxHeartbeats 4000000
set_option maxRecDepth 100000
set_option linter.unusedVariables false
set_option linter.unusedSimpArgs false

def badB (m : Wp.Mail) : Bool := !Wp.mayM m
theorem nbad_any (m : Wp.Mail) (w : World) (hm : IsMailM m) (b : Bool) (h : badB m = b) :
    Calls Try.prog 67 #[.agg (mA m)] w fun e w' => e = .returned (.bool b) ∧ Below w.heap.size w w' := by
  have HC := wcheck_any m (w.alloc (.cells (mA m) 25)) hm
  obtain ⟨U, hU⟩ : ∃ U, S m.v = U := ⟨_, rfl⟩
  have eA : mA m = #[.int .i64 m.f, .int .i64 m.t, .int .u8 m.k, .int .i64 m.g, .int .i64 m.s, .int .i64 m.b, .int .i64 m.p, .string U, .int .i64 m.i, .int .i64 m.tm] := by rw [← hU]; rfl
  rw [eA] at HC ⊢
  clear hU eA
  have B0 := Lib.hid ((Below.refl _ w).alloc (Nat.le_refl w.heap.size) (.cells #[.int .i64 m.f, .int .i64 m.t, .int .u8 m.k, .int .i64 m.g, .int .i64 m.s, .int .i64 m.b, .int .i64 m.p, .string U, .int .i64 m.i, .int .i64 m.tm] 25))
  cases hx : Wp.mayM m with
  | true =>
    rw [hx] at HC
    have H := Lib.hid HC
    obtain rfl : b = false := by rw [← h, badB, hx]; rfl
    clear HC hx h
    go_enter Try.func67, Try.ntmps67
    go_wp2_with fail
    refine H.out.mono ?_
    rintro e w1 ⟨rfl, hb⟩
    have B1 := Lib.hid (then_ B0.out hb)
    clear hb
    go_wp2
    go_ret
    exact ⟨rfl, B1.out⟩
  | false =>
    rw [hx] at HC
    have H := Lib.hid HC
    obtain rfl : b = true := by rw [← h, badB, hx]; rfl
    clear HC hx h
    go_enter Try.func67, Try.ntmps67
    go_wp2_with fail
    refine H.out.mono ?_
    rintro e w1 ⟨rfl, hb⟩
    have B1 := Lib.hid (then_ B0.out hb)
    clear hb
    go_wp2
    go_ret
    exact ⟨rfl, B1.out⟩

theorem findIdx_at {l : List Wp.Mail} {k : Nat} {m : Wp.Mail} (hm : l[k]? = some m) (h : badB m = true) (ha : ∀ y ∈ l.take k, badB y = false) : l.findIdx? badB = some k := by
  obtain ⟨hk, rfl⟩ := List.getElem?_eq_some_iff.1 hm
  refine List.findIdx?_eq_some_iff_getElem.2 ⟨hk, h, fun j hj => ?_⟩
  have := ha (l[j]'(by omega)) (List.mem_take_iff_getElem.2 ⟨j, by omega, rfl⟩)
  simp [this]
/-- The first that may not be; -1: none. -/
def idxB (l : List Wp.Mail) : Int := match l.findIdx? badB with
  | some k => (k : Int)
  | none => -1
theorem nindex_any (A : Option Addr) (n c : Nat) (l : List Wp.Mail) (w : World) (x : Int) (hx : idxB l = x) (hr : Reads w w.heap.size 10 A n (cm l)) (hl : ∀ m ∈ l, IsMailM m) (hn : n ≤ 1000000000) :
    Calls Try.prog 95 #[.slice A n c, .func (.func 67) #[] #[]] w fun e w' => e = .returned (.int .i64 x) ∧ Below w.heap.size w w' := by
  have hlen := hr.len_m
  have HX := Lib.hid hx
  have HL := Lib.hid hl
  have HLN := Lib.hid hlen
  clear hx hl hlen
  go_enter Try.func95, Try.ntmps95
  go_wp2
  go_loopw [8] (fun y wr => ∃ k : Nat, y = .int .i64 (k : Int) ∧ k ≤ n ∧ Below w.heap.size w wr ∧ ∀ m ∈ l.take k, badB m = false) (fun y _ => n - (intOf y).toNat)
  case atStart => exact ⟨0, rfl, Nat.zero_le _, Below.refl _ _, by simp⟩
  case round =>
    obtain ⟨k, rfl, hk, hb, ha⟩ := hrel
    by_cases hlt : k < n
    · obtain ⟨g, off, m, rfl, hg, hm, hc⟩ := (hr.below hb).mail hlt
      have hm2 := List.mem_of_getElem? hm
      have HIM := Lib.hid (HL.out m hm2)
      have HC := Lib.hid hc
      have HB := Lib.hid hb
      have HA := Lib.hid ha
      have HR := Lib.hid hr
      have HM := Lib.hid hm
      clear hc hb ha hr hm2 hm
      go_wp2_with (first | (with_reducible refine wpList_load_mid rfl _ _ rfl _ _ rfl _ _ HC.out Try.underlying25 rfl (by kernel_rfl) ?_) | fail)
      rw [show (mcells m).toArray = mA m from rfl]
      cases hbad : badB m with
      | true =>
        refine (nbad_any m wr HIM.out true hbad).mono ?_
        rintro e w1 ⟨rfl, hb⟩
        have HE : Hid (x = (k : Int)) := by
          rw [Hid, ← HX.out, idxB]
          rw [findIdx_at HM.out hbad HA.out]
        have B1 := Lib.hid (HB.out.trans (hb.mono HB.out.size))
        clear hb hbad
        go_wp2
        go_ret
        exact ⟨by rw [HE.out]; rfl, B1.out⟩
      | false =>
        refine (nbad_any m wr HIM.out false hbad).mono ?_
        rintro e w1 ⟨rfl, hb⟩
        have B1 := Lib.hid (HB.out.trans (hb.mono HB.out.size))
        have HA2 : Hid (∀ y ∈ l.take (k + 1), badB y = false) := by
          intro y hy
          rw [List.take_add_one, HM.out] at hy
          rcases List.mem_append.1 hy with hy | hy
          · exact HA.out y hy
          · simp at hy
            rw [hy]
            exact hbad
        clear hb hbad HA
        go_wp2
        go_roundw
        case rel => exact ⟨k + 1, by go_num, by omega, B1.out, HA2.out⟩
        case measure => simp [intOf]; omega
    · have HE : Hid (x = -1) := by
        rw [Hid, ← HX.out, idxB]
        rw [List.take_of_length_le (by have := HLN.out; omega)] at ha
        rw [List.findIdx?_eq_none_iff.2 (fun y hy => ha y hy)]
      have HB := Lib.hid hb
      clear ha hb hr
      go_wp2
      go_ret
      exact ⟨by rw [HE.out]; rfl, HB.out⟩
theorem idxB_bad (l : List Wp.Mail) : decide (0 ≤ idxB l) = l.any badB := by
  unfold idxB
  cases h : l.findIdx? badB with
  | none =>
    have := List.findIdx?_eq_none_iff.1 h
    rw [List.any_eq_false.2 (fun y hy => by simp [this y hy])]
    decide
  | some k =>
    obtain ⟨hk, h1, _⟩ := List.findIdx?_eq_some_iff_getElem.1 h
    rw [List.any_eq_true.2 ⟨_, List.getElem_mem hk, h1⟩]
    simp
theorem ncontains_any (A : Option Addr) (n c : Nat) (l : List Wp.Mail) (w : World) (b : Bool) (hb : l.any badB = b) (hr : Reads w w.heap.size 10 A n (cm l)) (hl : ∀ m ∈ l, IsMailM m) (hn : n ≤ 1000000000) :
    Calls Try.prog 66 #[.slice A n c, .func (.func 67) #[] #[]] w fun e w' => e = .returned (.bool b) ∧ Below w.heap.size w w' := by
  obtain ⟨x, hx⟩ : ∃ x, idxB l = x := ⟨_, rfl⟩
  have hq := idxB_bad l
  rw [hb, hx] at hq
  have H := Lib.hid (nindex_any A n c l w x hx hr hl hn)
  clear hx hb hr hl
  go_enter Try.func66, Try.ntmps66
  go_wp2_with fail
  refine H.out.mono ?_
  rintro e w1 ⟨rfl, hb⟩
  have HB := Lib.hid hb
  clear hb
  cases b with
  | true =>
    go_wp2
    go_ret
    exact ⟨rfl, HB.out⟩
  | false =>
    go_wp2
    go_ret
    exact ⟨rfl, HB.out⟩

def okMails (l : List Wp.Mail) : Bool := decide (l.length ≤ 4096) && !l.any badB
theorem ncheck_any (A : Option Addr) (n c : Nat) (l : List Wp.Mail) (w : World) (b : Bool) (hb : okMails l = b) (hr : Reads w w.heap.size 10 A n (cm l)) (hl : ∀ m ∈ l, IsMailM m) (hn : n ≤ 1000000000) :
    Calls Try.prog 18 #[.slice A n c] w fun e w' => e = .returned (.int .i64 (if b then 0 else 8)) ∧ Below w.heap.size w w' := by
  have hlen := hr.len_m
  by_cases z : (4096 : Int) < (n : Int)
  · obtain rfl : b = false := by rw [← hb, okMails, decide_eq_false (by omega)]; rfl
    clear hb hr hl hlen
    go_enter Try.func18, Try.ntmps18
    go_wp2
    go_ret
    exact ⟨rfl, Below.refl _ _⟩
  · cases ha : l.any badB with
    | true =>
      obtain rfl : b = false := by rw [← hb, okMails, ha]; simp
      have H := Lib.hid (ncontains_any A n c l w true ha hr hl hn)
      clear hb hr hl hlen ha
      go_enter Try.func18, Try.ntmps18
      go_wp2_with fail
      refine H.out.mono ?_
      rintro e w1 ⟨rfl, hb⟩
      have HB := Lib.hid hb
      clear hb
      go_wp2
      go_ret
      exact ⟨rfl, HB.out⟩
    | false =>
      obtain rfl : b = true := by rw [← hb, okMails, ha, decide_eq_true (by omega)]; rfl
      have H := Lib.hid (ncontains_any A n c l w false ha hr hl hn)
      clear hb hr hl hlen ha
      go_enter Try.func18, Try.ntmps18
      go_wp2_with fail
      refine H.out.mono ?_
      rintro e w1 ⟨rfl, hb⟩
      have HB := Lib.hid hb
      clear hb
      go_wp2
      go_ret
      exact ⟨rfl, HB.out⟩
end Go.Proofs.Ytmchnjnknnolmaa
