/-
  Layer 24: the laws' own functions: wish, Great, many, alive.
-/
import Derived.Test.YtmchnjnknnolmaaNetE
import Derived.Test.YtmchnjnknnolmaaQuiet
namespace Go.Proofs.Ytmchnjnknnolmaa
open Go.RowKit Bal Go.Sort Go.BigFrame
set_option maxHeartbeats 4000000
set_option maxRecDepth 100000
set_option linter.unusedVariables false
set_option linter.unusedSimpArgs false

def wM : Wp.Mail := ⟨1, 2, 9, 0, 0, 0, 0, [118], 0, 0⟩
theorem wM_A : mA wM = #[.int .i64 1, .int .i64 2, .int .u8 9, .int .i64 0, .int .i64 0, .int .i64 0, .int .i64 0, .string ⟨#[118]⟩, .int .i64 0, .int .i64 0] := rfl
theorem wM_is : IsMailM wM := by
  have z : ∀ x : Int, 0 ≤ x → x ≤ 9 → inI x := fun x h1 h2 => ⟨by omega, by omega⟩
  exact ⟨⟨by decide, by decide⟩, by decide, z _ (by decide) (by decide), z _ (by decide) (by decide), z _ (by decide) (by decide), z _ (by decide) (by decide), z _ (by decide) (by decide), z _ (by decide) (by decide), z _ (by decide) (by decide), z _ (by decide) (by decide)⟩
theorem wM_ok : badB wM = false := by decide +kernel
theorem nwish_any (w : World) : Calls Try.prog 37 #[] w fun e w' => e = .returned (.agg #[.int .i64 1, .int .i64 2, .int .u8 9, .int .i64 0, .int .i64 0, .int .i64 0, .int .i64 0, .string ⟨#[118]⟩, .int .i64 0, .int .i64 0]) ∧ Below w.heap.size w w' := by
  have hz : w.heap.size < w.heap.size + 1 := by omega
  go_enter Try.func37, Try.ntmps37
  go_wp2
  exact bodyPost_ret (v := .agg #[.int .i64 1, .int .i64 2, .int .u8 9, .int .i64 0, .int .i64 0, .int .i64 0, .int .i64 0, .string ⟨#[118]⟩, .int .i64 0, .int .i64 0]) (by simp [results, Try.results37, go_sem]) rfl ⟨rfl, by repeat (first | with_reducible exact ((Below.refl _ _).alloc (Nat.le_refl _) _) | with_reducible refine set_z ?_ _ _)⟩

def GreatPost (n : Nat) (w : World) (e : Ending) (w' : World) : Prop := ∃ b : Bool, e = .returned (.bool b) ∧ w = w' ∧ (b = false → n ≤ 5000)
theorem ngreat_any (A : Option Addr) (n c : Nat) (l : List Wp.Mail) (w : World) (hr : Reads w w.heap.size 10 A n (cm l)) (hl : ∀ m ∈ l, IsMailM m) (hn : n ≤ 9223372036854775807) :
    Calls Try.prog 17 #[.slice A n c] w (GreatPost n w) := by
  have HL := Lib.hid hl
  have HR := Lib.hid hr
  clear hl hr
  go_enter Try.func17, Try.ntmps17
  go_wp2
  go_loop [3, 4] (fun x y => ∃ k s : Nat, y = .int .i64 (k : Int) ∧ k ≤ n ∧ k ≤ 5000 ∧ x = .int .i64 (s : Int) ∧ s ≤ k * 5020) (fun _ y => n - (intOf y).toNat)
  case atStart => exact ⟨0, 0, rfl, Nat.zero_le _, Nat.zero_le _, rfl, Nat.zero_le _⟩
  case round =>
    obtain ⟨k, s, rfl, hk, hk5, rfl, hs⟩ := hrel
    by_cases hlt : k < n
    · by_cases h5 : k < 5000
      · obtain ⟨g, off, m, e, hg, hm, hc⟩ := HR.out.mail hlt
        have hm2 := (HL.out m (List.mem_of_getElem? hm)).2.1
        subst e
        have c7 : w.cell? ⟨g, off + k * 10 + 7, none⟩ = some (.string (S m.v)) := hc 7 _ rfl
        have hU : (S m.v).size ≤ 9223372036854775807 := by rw [S_size]; exact hm2
        generalize S m.v = U at *
        clear hm hm2 hc
        have hs2 : s ≤ 25100000 := by omega
        by_cases h6 : (5000 : Int) < (U.size : Int)
        · have hmin : (if (U.size : Int) < 5000 then (U.size : Int) else 5000) = 5000 := if_neg (by omega)
          go_wp2
          all_goals (try omega)
          go_round
          case rel => exact ⟨k + 1, s + 5020, by go_num, by omega, by omega, by go_num, by omega⟩
          case measure => simp [intOf]; omega
        · go_wp2
          all_goals (try omega)
          all_goals (
            go_round
            case rel => exact ⟨k + 1, s + (20 + min U.size 5000), by go_num, by omega, by omega, by first | go_num | (congr 1; omega) | (simp; omega), by omega⟩
            case measure => simp [intOf]; omega)
      · go_wp2
        go_ret
        by_cases h9 : (5000 : Int) < (n : Int)
        · exact ⟨_, rfl, rfl, fun h => by simp [h9] at h⟩
        · exact ⟨_, rfl, rfl, fun _ => by omega⟩
    · go_wp2
      go_ret
      exact ⟨_, rfl, rfl, fun _ => by omega⟩

def cntM (m : Wp.Mail) (l : List Wp.Mail) : Nat := l.countP fun x => eqM x m
theorem cntM_le (m : Wp.Mail) (l : List Wp.Mail) : cntM m l ≤ l.length := List.countP_le_length
theorem cntM_append (m : Wp.Mail) (l r : List Wp.Mail) : cntM m (l ++ r) = cntM m l + cntM m r := List.countP_append
theorem cntM_take (m : Wp.Mail) {l : List Wp.Mail} {k : Nat} {x : Wp.Mail} (h : l[k]? = some x) : cntM m (l.take (k + 1)) = cntM m (l.take k) + if eqM x m = true then 1 else 0 := by
  obtain ⟨hk, rfl⟩ := List.getElem?_eq_some_iff.1 h
  rw [List.take_succ_eq_append_getElem hk, cntM_append]
  congr 1
  simp [cntM, List.countP_cons]
theorem nmany_any (A : Option Addr) (n c : Nat) (l : List Wp.Mail) (m : Wp.Mail) (w : World) (hr : Reads w w.heap.size 10 A n (cm l)) (hn : n ≤ 1000000) (q : Nat) (hq : cntM m l = q) :
    Calls Try.prog 19 #[.slice A n c, .agg (mA m)] w fun e w' => e = .returned (.int .i64 (q : Int)) ∧ Below w.heap.size w w' := by
  obtain ⟨U, hU⟩ : ∃ U, S m.v = U := ⟨_, rfl⟩
  have eA : mA m = #[.int .i64 m.f, .int .i64 m.t, .int .u8 m.k, .int .i64 m.g, .int .i64 m.s, .int .i64 m.b, .int .i64 m.p, .string U, .int .i64 m.i, .int .i64 m.tm] := by rw [← hU]; rfl
  have hlen := hr.len_m
  have B0 := Lib.hid ((Below.refl _ w).alloc (Nat.le_refl w.heap.size) (.cells (mA m) 25))
  have K0 := Lib.hid (Blk.new w 25 (mA m))
  have R0 := Lib.hid (hr.alloc (Nat.le_refl _) (.cells (mA m) 25))
  rw [eA] at B0 K0 R0 ⊢
  have EA := Lib.hid eA
  have HQ := Lib.hid hq
  have HLN := Lib.hid hlen
  clear eA hU hr hq hlen
  go_enter Try.func19, Try.ntmps19
  go_wp2_with fail
  generalize w.alloc (.cells #[.int .i64 m.f, .int .i64 m.t, .int .u8 m.k, .int .i64 m.g, .int .i64 m.s, .int .i64 m.b, .int .i64 m.p, .string U, .int .i64 m.i, .int .i64 m.tm] 25) = W at *
  go_loopw [5, 6] (fun x y wr => ∃ (k p s : Nat), y = .int .i64 (k : Int) ∧ k ≤ n ∧ x = .int .i64 (p : Int) ∧ cntM m (l.take k) = p ∧ wr = W.drewN s) (fun _ y _ => n - (intOf y).toNat)
  case atStart => exact ⟨0, 0, 0, rfl, Nat.zero_le _, rfl, rfl, rfl⟩
  case round =>
    obtain ⟨k, p, s, rfl, hk, rfl, hp, rfl⟩ := hrel
    by_cases hlt : k < n
    · have hpk : p ≤ k := by
        have h1 := cntM_le m (l.take k)
        have h2 := List.length_take_le k l
        omega
      obtain ⟨g, off, x, e, hg, hm, hc⟩ := R0.out.mail hlt
      obtain ⟨V, hV⟩ : ∃ V, S x.v = V := ⟨_, rfl⟩
      have eX : mA x = #[.int .i64 x.f, .int .i64 x.t, .int .u8 x.k, .int .i64 x.g, .int .i64 x.s, .int .i64 x.b, .int .i64 x.p, .string V, .int .i64 x.i, .int .i64 x.tm] := by rw [← hV]; rfl
      have zq := fun w => mail_eq x.f x.t x.k x.g x.s x.b x.p x.i x.tm m.f m.t m.k m.g m.s m.b m.p m.i m.tm (S x.v) (S m.v) w
      have zq2 := fun w => mail_eqIn x.f x.t x.k x.g x.s x.b x.p x.i x.tm m.f m.t m.k m.g m.s m.b m.p m.i m.tm (S x.v) (S m.v) w
      have hee : (x.f == m.f && (x.t == m.t && (x.k == m.k && (x.g == m.g && (x.s == m.s && (x.b == m.b && (x.p == m.p && ((S x.v).toList == (S m.v).toList && (x.i == m.i && x.tm == m.tm))))))))) = eqM x m := by rw [S_toList, S_toList]; rfl
      rw [hee] at zq zq2
      subst e
      have EX := Lib.hid eX
      have HM := Lib.hid hm
      have HP := Lib.hid hp
      have x0 : W.cell? ⟨g, off + k * 10, none⟩ = some (.int .i64 x.f) := hc 0 _ rfl
      have x1 : W.cell? ⟨g, off + k * 10 + 1, none⟩ = some (.int .i64 x.t) := hc 1 _ rfl
      have x2 : W.cell? ⟨g, off + k * 10 + 2, none⟩ = some (.int .u8 x.k) := hc 2 _ rfl
      have x3 : W.cell? ⟨g, off + k * 10 + 3, none⟩ = some (.int .i64 x.g) := hc 3 _ rfl
      have x4 : W.cell? ⟨g, off + k * 10 + 4, none⟩ = some (.int .i64 x.s) := hc 4 _ rfl
      have x5 : W.cell? ⟨g, off + k * 10 + 5, none⟩ = some (.int .i64 x.b) := hc 5 _ rfl
      have x6 : W.cell? ⟨g, off + k * 10 + 6, none⟩ = some (.int .i64 x.p) := hc 6 _ rfl
      have x7 : W.cell? ⟨g, off + k * 10 + 7, none⟩ = some (.string V) := by have h := hc 7 _ rfl; rw [hV] at h; exact h
      have x8 : W.cell? ⟨g, off + k * 10 + 8, none⟩ = some (.int .i64 x.i) := hc 8 _ rfl
      have x9 : W.cell? ⟨g, off + k * 10 + 9, none⟩ = some (.int .i64 x.tm) := hc 9 _ rfl
      have y0 : W.cell? ⟨w.heap.size, 0, none⟩ = some (.int .i64 m.f) := K0.out.cell 0
      have y1 : W.cell? ⟨w.heap.size, 1, none⟩ = some (.int .i64 m.t) := K0.out.cell 1
      have y2 : W.cell? ⟨w.heap.size, 2, none⟩ = some (.int .u8 m.k) := K0.out.cell 2
      have y3 : W.cell? ⟨w.heap.size, 3, none⟩ = some (.int .i64 m.g) := K0.out.cell 3
      have y4 : W.cell? ⟨w.heap.size, 4, none⟩ = some (.int .i64 m.s) := K0.out.cell 4
      have y5 : W.cell? ⟨w.heap.size, 5, none⟩ = some (.int .i64 m.b) := K0.out.cell 5
      have y6 : W.cell? ⟨w.heap.size, 6, none⟩ = some (.int .i64 m.p) := K0.out.cell 6
      have y7 : W.cell? ⟨w.heap.size, 7, none⟩ = some (.string U) := K0.out.cell 7
      have y8 : W.cell? ⟨w.heap.size, 8, none⟩ = some (.int .i64 m.i) := K0.out.cell 8
      have y9 : W.cell? ⟨w.heap.size, 9, none⟩ = some (.int .i64 m.tm) := K0.out.cell 9
      have HUM : Hid (S m.v = U) := by
        have h := EA.out
        simp only [mA] at h
        injection h with h
        injection h with _ h
        injection h with _ h
        injection h with _ h
        injection h with _ h
        injection h with _ h
        injection h with _ h
        injection h with _ h
        injection h with h _
        injection h with h
      rw [HUM.out, hV] at zq zq2
      clear eX hV hm hp hc hee
      cases hx : eqM x m with
      | true =>
        have HT : Hid (cntM m (l.take (k + 1)) = p + 1) := by rw [Hid, cntM_take m HM.out, HP.out, if_pos hx]
        rw [hx] at zq zq2
        clear hx
        go_wp2_with fail
        go_quiet (fail)
        go_wp2
        go_roundw
        case rel => exact ⟨k + 1, p + 1, _, by go_num, by omega, by go_num, HT.out, rfl⟩
        case measure => simp [intOf]; omega
      | false =>
        have HT : Hid (cntM m (l.take (k + 1)) = p) := by rw [Hid, cntM_take m HM.out, HP.out, if_neg (by rw [hx]; decide), Nat.add_zero]
        rw [hx] at zq zq2
        clear hx
        go_wp2_with fail
        go_quiet (fail)
        go_wp2
        go_roundw
        case rel => exact ⟨k + 1, p, _, by go_num, by omega, rfl, HT.out, rfl⟩
        case measure => simp [intOf]; omega
    · have hpq : Hid (p = q) := by
        rw [Hid, ← hp, ← HQ.out, List.take_of_length_le (by have := HLN.out; omega)]
      clear hp
      go_wp2
      go_ret
      exact ⟨by rw [hpq.out]; rfl, below_drewN B0.out s⟩
end Go.Proofs.Ytmchnjnknnolmaa
