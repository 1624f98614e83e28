/-
  Layer 24: NetBetween's walk.
-/
import Derived.Test.YtmchnjnknnolmaaNetG
import Derived.Test.YtmchnjnknnolmaaMailsIn
namespace Go.Proofs.Ytmchnjnknnolmaa
open Go.RowKit Bal Go.Sort Go.BigFrame
set_option maxHeartbeats 4000000
set_option maxRecDepth 100000
set_option linter.unusedVariables false
set_option linter.unusedSimpArgs false

theorem btwA_mem (a b : Int) (x : Int) : ∀ (l : List Wp.Mail) (i : Nat), x ∈ btwA a b l i ↔ ∃ (k : Nat) (m : Wp.Mail), x = ((i + k : Nat) : Int) ∧ l[k]? = some m ∧ m.f = a ∧ m.t = b
  | [], i => by simp [btwA]
  | m :: l, i => by
    rw [btwA, List.mem_append, btwA_mem a b x l (i + 1)]
    constructor
    · rintro (h | ⟨k, m', h1, h2, h3⟩)
      · split at h
        · rename_i hc
          simp only [List.mem_singleton] at h
          exact ⟨0, m, h, rfl, hc.1, hc.2⟩
        · simp at h
      · exact ⟨k + 1, m', by rw [h1]; omega, h2, h3⟩
    · rintro ⟨k, m', h1, h2, h3⟩
      match k with
      | 0 =>
        simp only [List.getElem?_cons_zero, Option.some.injEq] at h2
        subst h2
        left
        rw [if_pos h3, List.mem_singleton]
        exact h1
      | k + 1 => exact Or.inr ⟨k, m', by rw [h1]; omega, h2, h3⟩
theorem btwA_sorted (a b : Int) : ∀ (l : List Wp.Mail) (i : Nat), (btwA a b l i).Pairwise (· < ·)
  | [], i => by simp [btwA]
  | m :: l, i => by
    rw [btwA, List.pairwise_append]
    refine ⟨by split <;> simp, btwA_sorted a b l (i + 1), fun x hx y hy => ?_⟩
    obtain ⟨k, m', h1, _⟩ := (btwA_mem a b y l (i + 1)).1 hy
    split at hx
    · simp only [List.mem_singleton] at hx
      omega
    · simp at hx
theorem btw_get {a b : Int} {l : List Wp.Mail} {i : Nat} {x : Int} (h : (btw a b l)[i]? = some x) : ∃ (k : Nat) (m : Wp.Mail), x = (k : Int) ∧ l[k]? = some m ∧ m.f = a ∧ m.t = b := by
  obtain ⟨k, m, h1, h2⟩ := (btwA_mem a b x l 0).1 (List.mem_of_getElem? h)
  exact ⟨k, m, by rw [h1, Nat.zero_add], h2⟩
theorem btw_lt {a b : Int} {l : List Wp.Mail} {i : Nat} {x y : Int} (h : (btw a b l)[i]? = some x) (h2 : (btw a b l)[i + 1]? = some y) : x < y := by
  obtain ⟨h3, rfl⟩ := List.getElem?_eq_some_iff.1 h
  obtain ⟨h4, rfl⟩ := List.getElem?_eq_some_iff.1 h2
  exact (List.pairwise_iff_getElem.1 (btwA_sorted a b l 0)) i (i + 1) h3 h4 (by omega)
theorem btw_at {l : List Wp.Mail} {k : Nat} {m : Wp.Mail} (h : l[k]? = some m) : (k : Int) ∈ btw m.f m.t l := (btwA_mem _ _ _ l 0).2 ⟨k, m, by rw [Nat.zero_add], h, rfl, rfl⟩

def fndB (r : List Int) (j : Int) (i : Nat) : Bool := decide (j ∈ r.take i)
theorem own_cells {w : World} {base n c : Nat} {e : TypeId} {A : Option Addr} {xs : List Value} (h : w.ownsRow base e 1 (.slice A n c) n xs) (hn : 0 < n) : ∃ g, A = some ⟨g, 0, none⟩ ∧ base ≤ g ∧ ∀ (j : Nat) (u : Value), xs[j]? = some u → w.cell? ⟨g, j, none⟩ = some u := by
  have h1 := h.1
  rcases h.2 with ⟨h2, h3⟩ | ⟨g, cap, cur, h2, h3, h4, h5, h6, h7, h8⟩
  · omega
  · injection h2 with h2
    refine ⟨g, h2, h3, fun j u hu => ?_⟩
    rw [cell_of_row w g j cur e (0, 0) h4]
    rw [← h8] at hu
    rw [List.getElem?_take] at hu
    split at hu
    · simpa using hu
    · cases hu
theorem netBetween_walk (A : Option Addr) (n c : Nat) (l : List Wp.Mail) (k : Int) (w : World) (hi : IsMails w A n c l) (hk : -9223372036854775808 ≤ k ∧ k ≤ 9223372036854775807) :
    Calls Try.prog 5 #[.slice A n c, .int .i64 k] w fun e w' => e = .returned (.bool true) ∧ Below w.heap.size w w' := by
  obtain ⟨hr, hc, hm, hl⟩ := hi
  unfold maxLen at hm
  obtain ⟨kb0, kb1⟩ := hk
  have HR := Lib.hid hr
  have HL := Lib.hid hl
  clear hr hl
  go_enter Try.func5, Try.ntmps5
  go_wp2_with fail
  refine (alive24 _).mono ?_
  rintro e w1 ⟨rfl, hb⟩
  have B1 := Lib.hid hb
  clear hb
  have R1 := Lib.hid ((HR.out.below B1.out).more B1.out.size)
  go_wp2_with fail
  refine (ngreat_any A n c l w1 R1.out HL.out (by omega)).mono ?_
  rintro e w' ⟨b, rfl, rfl, hb5⟩
  cases b with
  | true =>
    clear hb5
    go_wp2
    go_ret
    exact ⟨rfl, B1.out⟩
  | false =>
    have hn5 : n ≤ 5000 := hb5 rfl
    clear hb5
    cases hok : okMails l with
    | false =>
      have HC := Lib.hid (ncopy_bad A n c l w1 R1.out hc HL.out (by omega) k hok)
      have zq := fun w => mEq zMm w
      have zq2 := fun w => mEqIn zMm w
      rw [zMm_A] at zq zq2
      clear hok
      go_wp2_with fail
      refine HC.out.mono ?_
      rintro e w2 ⟨rfl, hb⟩
      have B2 := Lib.hid ((then_ B1.out hb).alloc (then_ B1.out hb).size (.cells #[.int .i64 0, .int .i64 0, .int .u8 0, .int .i64 0, .int .i64 0, .int .i64 0, .int .i64 0, .string ⟨#[]⟩, .int .i64 0, .int .i64 0] 25))
      clear hb HC
      go_wp2
      go_ret
      exact ⟨rfl, B2.out⟩
    | true =>
      by_cases hin : 0 ≤ k ∧ k < (n : Int)
      rotate_left
      · have HC := Lib.hid (ncopy_arg A n c l w1 R1.out hc HL.out (by omega) k (by omega) hok)
        have zq := fun w => mEq zMm w
        have zq2 := fun w => mEqIn zMm w
        rw [zMm_A] at zq zq2
        clear hok hin
        go_wp2_with fail
        refine HC.out.mono ?_
        rintro e w2 ⟨rfl, hb⟩
        have B2 := Lib.hid ((then_ B1.out hb).alloc (then_ B1.out hb).size (.cells #[.int .i64 0, .int .i64 0, .int .u8 0, .int .i64 0, .int .i64 0, .int .i64 0, .int .i64 0, .string ⟨#[]⟩, .int .i64 0, .int .i64 0] 25))
        clear hb HC
        go_wp2
        go_ret
        exact ⟨rfl, B2.out⟩
      · obtain ⟨k0, k1⟩ := hin
        obtain ⟨j, rfl⟩ : ∃ j : Nat, k = (j : Int) := ⟨k.toNat, by omega⟩
        have hjn : j < n := by omega
        have hlen := R1.out.len_m
        have hmj : l[j]? = some (l[j]'(by omega)) := List.getElem?_eq_getElem (by omega)
        obtain ⟨m, hm0⟩ : ∃ m, l[j]'(by omega) = m := ⟨_, rfl⟩
        rw [hm0] at hmj
        clear hm0
        have HC := ncopy_ok A n c l w1 R1.out hc HL.out (by omega) j m hmj hok
        obtain ⟨U, hU⟩ : ∃ U, S m.v = U := ⟨_, rfl⟩
        have eA : mA m = #[.int .i64 m.f, .int .i64 m.t, .int .u8 m.k, .int .i64 m.g, .int .i64 m.s, .int .i64 m.b, .int .i64 m.p, .string U, .int .i64 m.i, .int .i64 m.tm] := by rw [← hU]; rfl
        rw [eA] at HC
        have H := Lib.hid HC
        have hmay : Wp.mayM m = true := by
          have h1 := hok
          rw [okMails, Bool.and_eq_true] at h1
          have h2 := h1.2
          rw [Bool.not_eq_true', List.any_eq_false] at h2
          have h3 := h2 m (List.mem_of_getElem? hmj)
          simpa [badB] using h3
        obtain ⟨⟨mf0, mf1⟩, ⟨mt0, mt1⟩, -⟩ := Wp.mayM_cases hmay
        have HMJ := Lib.hid hmj
        have HOK := Lib.hid hok
        have HLEN := Lib.hid hlen
        clear HC hmay hmj hok eA hU hlen
        go_wp2_with fail
        refine H.out.mono ?_
        rintro e w2 ⟨rfl, hb⟩
        have B2 := Lib.hid ((then_ B1.out hb).alloc (then_ B1.out hb).size (.cells #[.int .i64 m.f, .int .i64 m.t, .int .u8 m.k, .int .i64 m.g, .int .i64 m.s, .int .i64 m.b, .int .i64 m.p, .string U, .int .i64 m.i, .int .i64 m.tm] 25))
        have K2 := Lib.hid (Blk.new w2 25 #[.int .i64 m.f, .int .i64 m.t, .int .u8 m.k, .int .i64 m.g, .int .i64 m.s, .int .i64 m.b, .int .i64 m.p, .string U, .int .i64 m.i, .int .i64 m.tm])
        have R2 := Lib.hid ((HR.out.below B2.out).more B2.out.size)
        clear hb H
        go_wp2_with fail
        generalize w2.alloc (.cells #[.int .i64 m.f, .int .i64 m.t, .int .u8 m.k, .int .i64 m.g, .int .i64 m.s, .int .i64 m.b, .int .i64 m.p, .string U, .int .i64 m.i, .int .i64 m.tm] 25) = W2 at *
        obtain ⟨gm, hgm⟩ : ∃ x, w2.heap.size = x := ⟨_, rfl⟩
        rw [hgm] at K2
        rw [hgm]
        clear hgm
        obtain ⟨r, hr⟩ : ∃ r, btw m.f m.t l = r := ⟨_, rfl⟩
        obtain ⟨q, hq⟩ : ∃ q, r.length = q := ⟨_, rfl⟩
        have hql : q ≤ 5000 := by
          have h1 := btwA_len m.f m.t l 0
          have h2 := HLEN.out
          rw [← hq, ← hr]
          unfold btw
          omega
        have HB := nbetween_ok A n c l W2 R2.out hc HL.out (by omega) m.f m.t ⟨mf0, mf1⟩ ⟨mt0, mt1⟩ HOK.out q r hr hq
        have HRR := Lib.hid hr
        have HQ := Lib.hid hq
        clear hr hq
        refine HB.mono ?_
        clear HB
        rintro e w3 ⟨A3, c3, rfl, ho, hb⟩
        have B3 := Lib.hid (B2.out.trans (hb.mono B2.out.size))
        have K3 := Lib.hid (K2.out.below hb K2.out.lt)
        have R3 := Lib.hid ((HR.out.below B3.out).more B3.out.size)
        have RO := Lib.hid ho
        clear hb ho K2 R2
        go_wp2_with fail
        go_loopw [10, 11] (fun x y wr => ∃ (i s : Nat), y = .int .i64 (i : Int) ∧ i ≤ q ∧ x = .bool (fndB r j i) ∧ wr = w3.drewN s) (fun _ y _ => q - (intOf y).toNat)
        case atStart => exact ⟨0, 0, rfl, Nat.zero_le _, by simp [fndB], rfl⟩
        case round =>
          obtain ⟨i, s, rfl, hi, rfl, rfl⟩ := hrel
          by_cases hlt : i < q
          · obtain ⟨gr, rfl, -, hcc⟩ := own_cells RO.out (by omega)
            have hil : i < r.length := by rw [HQ.out]; exact hlt
            have hri : r[i]? = some (r[i]'hil) := List.getElem?_eq_getElem hil
            obtain ⟨x, hx⟩ : ∃ x, r[i]'hil = x := ⟨_, rfl⟩
            rw [hx] at hri
            have ci0 := hcc i (.int .i64 x) (by rw [ci_get, hri]; rfl)
            have hri2 := hri
            rw [← HRR.out] at hri2
            obtain ⟨p, m2, rfl, hm2, hf2, ht2⟩ := btw_get hri2
            have hpl : p < n := by have h1 := (List.getElem?_eq_some_iff.1 hm2).1; have h2 := HLEN.out; omega
            obtain ⟨g, off, m3, e3, -, hm3, hc3⟩ := R3.out.mail hpl
            obtain rfl : m2 = m3 := by rw [hm2] at hm3; injection hm3
            subst e3
            have z0 : w3.cell? ⟨g, off + p * 10, none⟩ = some (.int .i64 m.f) := by rw [← hf2]; exact hc3 0 _ rfl
            have z1 : w3.cell? ⟨g, off + p * 10 + 1, none⟩ = some (.int .i64 m.t) := by rw [← ht2]; exact hc3 1 _ rfl
            have y0 : w3.cell? ⟨gm, 0, none⟩ = some (.int .i64 m.f) := K3.out.cell 0
            have y1 : w3.cell? ⟨gm, 1, none⟩ = some (.int .i64 m.t) := K3.out.cell 1
            have HT : Hid ((fndB r j i || ((p : Int) == (j : Int))) = fndB r j (i + 1)) := by
              rw [Hid, fndB, fndB, List.take_add_one, hri, Bool.eq_iff_iff, Bool.or_eq_true, decide_eq_true_eq, decide_eq_true_eq, beq_iff_eq, List.mem_append]
              simp only [Option.toList_some, List.mem_singleton]
              constructor
              · rintro (h | h)
                · exact Or.inl h
                · exact Or.inr h.symm
              · rintro (h | h)
                · exact Or.inl h
                · exact Or.inr h.symm
            have HRI := Lib.hid hri
            have hnp : ¬ (n : Int) ≤ (p : Int) := by omega
            have hnp2 : ¬ n ≤ p := by omega
            have hp0 : ¬ (p : Int) < 0 := by omega
            have hp1 : (0 : Int) ≤ (p : Int) := by omega
            have hp2 : (p : Int) < (n : Int) := by omega
            have hpp : ∀ (i' : Nat) (y : Int), i = i' + 1 → r[i']? = some y → ¬ (p : Int) ≤ y := fun i' y e h => by
              subst e
              have := btw_lt (by rw [HRR.out]; exact h) (by rw [HRR.out]; exact hri)
              omega
            have q1 : decide ((p : Int) < 0) = false := decide_eq_false hp0
            have q2 : decide (n ≤ p) = false := decide_eq_false hnp2
            have q3 : decide ((n : Int) ≤ (p : Int)) = false := decide_eq_false hnp
            clear hm2 hf2 ht2 hm3 hc3 hri2 hx
            rcases Nat.eq_zero_or_pos i with rfl | hi0
            · clear hpp hri
              have hcc := True.intro
              go_upto_if 103 with fail
              go_quiet (fail)
              obtain ⟨fb, hfb⟩ : ∃ b, fndB r j 0 = b := ⟨_, rfl⟩
              have HT2 := HT.out
              rw [hfb] at HT2
              clear HT
              have HT3 := Lib.hid HT2
              clear HT2
              rw [hfb]
              clear hfb
              cases fb with
              | true =>
                go_wp2
                go_roundw
                case rel => exact ⟨0 + 1, _, by go_num, by omega, by rw [← HT3.out]; rfl, rfl⟩
                case measure => simp [intOf]; omega
              | false =>
                go_wp2
                go_roundw
                case rel => exact ⟨0 + 1, _, by go_num, by omega, by rw [← HT3.out]; simp, rfl⟩
                case measure => simp [intOf]; omega
            · have hgp : r[i - 1]? = some (r[i - 1]'(by omega)) := List.getElem?_eq_getElem (by omega)
              obtain ⟨y, hy⟩ : ∃ y, r[i - 1]'(by omega) = y := ⟨_, rfl⟩
              rw [hy] at hgp
              have ci1 := hcc (i - 1) (.int .i64 y) (by rw [ci_get, hgp]; rfl)
              have hpy := hpp (i - 1) y (by omega) hgp
              clear hpp hri hgp hy hcc
              have i1 : (0 : Int) < (i : Int) := by omega
              have i2 : (1 : Int) ≤ (i : Int) := by omega
              have i3 : (0 : Int) ≤ (i : Int) - 1 := by omega
              have i4 : (i : Int) - 1 < (q : Int) := by omega
              have i5 : ((i : Int) - 1).toNat = i - 1 := by omega
              have i6 : IntKind.i64.wrap ((i : Int) - 1) = (i : Int) - 1 := by rw [IntKind.wrap_i64]; omega
              have q4 : decide ((p : Int) ≤ y) = false := decide_eq_false hpy
              have q5 : decide ((0 : Int) < (i : Int)) = true := decide_eq_true i1
              have q6 : decide (0 < i) = true := decide_eq_true hi0
              go_upto_if 103 with fail
              go_quiet (fail)
              obtain ⟨fb, hfb⟩ : ∃ b, fndB r j i = b := ⟨_, rfl⟩
              have HT2 := HT.out
              rw [hfb] at HT2
              clear HT
              have HT3 := Lib.hid HT2
              clear HT2
              rw [hfb]
              clear hfb
              cases fb with
              | true =>
                go_wp2
                go_roundw
                case rel => exact ⟨i + 1, _, by go_num, by omega, by rw [← HT3.out]; rfl, rfl⟩
                case measure => simp [intOf]; omega
              | false =>
                go_wp2
                go_roundw
                case rel => exact ⟨i + 1, _, by go_num, by omega, by rw [← HT3.out]; simp, rfl⟩
                case measure => simp [intOf]; omega
          · obtain rfl : q = i := by omega
            have HE : Hid (fndB r j q = true) := by
              rw [Hid, fndB, List.take_of_length_le (by have := HQ.out; omega), decide_eq_true_eq, ← HRR.out]
              exact btw_at HMJ.out
            go_wp2
            go_ret
            rw [HE.out]
            exact ⟨rfl, below_drewN B3.out s⟩
end Go.Proofs.Ytmchnjnknnolmaa
