/-
  Layer 24: NetKeeps' walk.
-/
import Derived.Test.YtmchnjnknnolmaaNetG
import Derived.Test.YtmchnjnknnolmaaMailsIn
import Derived.Deep.RegionWith
import Derived.Deep.DeepCutAuto
namespace Go.Proofs.Ytmchnjnknnolmaa
open Go.RowKit Bal Go.Sort Go.BigFrame
set_option maxHeartbeats 40000000
set_option maxRecDepth 100000
set_option linter.unusedVariables false
set_option linter.unusedSimpArgs false

def KSt (w : World) (gm : Nat) (m : Wp.Mail) (cs : Array Value) (x0 x10 : Value) (wr : World) : Prop :=
  ∃ (L : List Wp.Mail) (A : Option Addr) (n c : Nat), x0 = .slice A n c ∧ x10 = .int .i64 (cntM m L : Int) ∧ Reads wr wr.heap.size 10 A n (cm L) ∧ n ≤ c ∧ c ≤ 9223372036854775807 ∧ n ≤ 4096 ∧ okMails L = true ∧ (∀ x ∈ L, IsMailM x) ∧
    Below w.heap.size w wr ∧ Blk wr gm 25 cs
theorem KSt.bel {w wr : World} {gm : Nat} {m : Wp.Mail} {cs : Array Value} {x0 x10 : Value} (h : KSt w gm m cs x0 x10 wr) : Below w.heap.size w wr := by
  obtain ⟨L, A, n, c, h1, h2, h3, h4, h5, h6, h7, h8, h9, h10⟩ := h
  exact h9
theorem KSt.below {w wr w1 : World} {gm : Nat} {m : Wp.Mail} {cs : Array Value} {x0 x10 : Value} (h : KSt w gm m cs x0 x10 wr) (hb : Below wr.heap.size wr w1) : KSt w gm m cs x0 x10 w1 := by
  obtain ⟨L, A, n, c, h1, h2, h3, h4, h5, h6, h7, h8, h9, h10⟩ := h
  exact ⟨L, A, n, c, h1, h2, (h3.below hb).more hb.size, h4, h5, h6, h7, h8, then_ h9 hb, h10.below hb h10.lt⟩
theorem okMails_len {l : List Wp.Mail} (h : okMails l = true) : l.length ≤ 4096 := by
  rw [okMails, Bool.and_eq_true] at h
  exact of_decide_eq_true h.1
theorem okMails_bad {l : List Wp.Mail} (h : okMails l = true) : l.any badB = false := by
  rw [okMails, Bool.and_eq_true, Bool.not_eq_true'] at h
  exact h.2
theorem okMails_mk {l : List Wp.Mail} (h1 : l.length ≤ 4096) (h2 : l.any badB = false) : okMails l = true := by
  rw [okMails, h2, decide_eq_true h1]
  rfl
theorem any_sub {l : List Wp.Mail} (k : Nat) (h : l.any badB = false) : (l.take k ++ l.drop (k + 1)).any badB = false := by
  rw [List.any_eq_false] at h ⊢
  intro x hx
  rcases List.mem_append.1 hx with hx | hx
  · exact h x (List.mem_of_mem_take hx)
  · exact h x (List.mem_of_mem_drop hx)
theorem okMails_sub {l : List Wp.Mail} (k : Nat) (h : okMails l = true) : okMails (l.take k ++ l.drop (k + 1)) = true := by
  refine okMails_mk ?_ (any_sub k (okMails_bad h))
  have := okMails_len h
  rw [List.length_append, List.length_take, List.length_drop]
  omega
theorem cnt_sub (m : Wp.Mail) {l : List Wp.Mail} {k : Nat} {y : Wp.Mail} (h : l[k]? = some y) : cntM m (l.take k ++ l.drop (k + 1)) + cntM m [y] = cntM m l := by
  obtain ⟨hk, rfl⟩ := List.getElem?_eq_some_iff.1 h
  have e : l = l.take k ++ ([l[k]] ++ l.drop (k + 1)) := by rw [List.singleton_append, ← List.drop_eq_getElem_cons hk, List.take_append_drop]
  conv => rhs; rw [e]
  rw [cntM_append, cntM_append, cntM_append]
  omega
theorem mem_sub {l : List Wp.Mail} (k : Nat) (h : ∀ x ∈ l, IsMailM x) : ∀ x ∈ l.take k ++ l.drop (k + 1), IsMailM x := by
  intro x hx
  rcases List.mem_append.1 hx with hx | hx
  · exact h x (List.mem_of_mem_take hx)
  · exact h x (List.mem_of_mem_drop hx)
theorem any_snoc {l : List Wp.Mail} {y : Wp.Mail} (h : l.any badB = false) (h2 : badB y = false) : (l ++ [y]).any badB = false := by rw [List.any_append, h, List.any_cons, h2]; rfl
theorem mem_snoc {l : List Wp.Mail} {y : Wp.Mail} (h : ∀ x ∈ l, IsMailM x) (h2 : IsMailM y) : ∀ x ∈ l ++ [y], IsMailM x := by
  intro x hx
  rcases List.mem_append.1 hx with hx | hx
  · exact h x hx
  · rw [List.mem_singleton.1 hx]; exact h2
theorem un_drew {w w1 : World} (h : Below w.drew.heap.size w.drew w1) : Below w.heap.size w w1 := ⟨h.os, h.tape, h.output, h.size, h.block⟩
theorem one_any {y : Wp.Mail} {b : Bool} (h : badB y = b) : [y].any badB = b := by rw [List.any_cons, h]; simp
theorem one_read {w : World} {B n c : Nat} {A : Option Addr} {l : List Wp.Mail} {k : Nat} {y : Wp.Mail} (h : Reads w B 10 A n (cm l)) (hk : l[k]? = some y) (hc : n ≤ c) : Reads w B 10 (cutN 10 A c k) 1 (cm [y]) := by
  have hl := h.len_m
  obtain ⟨hk2, rfl⟩ := List.getElem?_eq_some_iff.1 hk
  have h2 := (h.restN (k := k) (c := c) (by omega) hc).firstN (k := 1) (by omega)
  rw [cm_drop, cm_take, List.drop_eq_getElem_cons hk2] at h2
  exact h2
theorem one_is' {y : Wp.Mail} (h : IsMailM y) : ∀ x ∈ [y], IsMailM x := by simp only [List.mem_singleton, forall_eq]; exact h

theorem netKeeps_walkM (A Am : Option Addr) (n c nm cm' : Nat) (l more : List Wp.Mail) (Aa : Option Addr) (na ca : Nat) (acts : List Int) (m : Wp.Mail) (w : World) (hi : IsMails w A n c l) (hi2 : IsMails w Am nm cm' more) (hi3 : IsInts w Aa na ca acts) (hm : IsMailM m) :
    Calls Try.prog 3 #[.slice A n c, .slice Am nm cm', .slice Aa na ca, .agg (mA m)] w fun e w' => e = .returned (.bool true) ∧ Below w.heap.size w w' := by
  obtain ⟨hr, hc, hcm, hl⟩ := hi
  obtain ⟨hrm, hcmm, hcm2, hlm⟩ := hi2
  obtain ⟨hra, hca, hcam, hla⟩ := hi3
  unfold maxLen at hcm hcm2 hcam
  obtain ⟨U, hU⟩ : ∃ U, S m.v = U := ⟨_, rfl⟩
  have eA : mA m = #[.int .i64 m.f, .int .i64 m.t, .int .u8 m.k, .int .i64 m.g, .int .i64 m.s, .int .i64 m.b, .int .i64 m.p, .string U, .int .i64 m.i, .int .i64 m.tm] := by rw [← hU]; rfl
  rw [eA]
  have EA := Lib.hid eA
  have B0 := Lib.hid ((Below.refl _ w).alloc (Nat.le_refl w.heap.size) (.cells #[.int .i64 m.f, .int .i64 m.t, .int .u8 m.k, .int .i64 m.g, .int .i64 m.s, .int .i64 m.b, .int .i64 m.p, .string U, .int .i64 m.i, .int .i64 m.tm] 25))
  have K0 := Lib.hid (Blk.new w 25 #[.int .i64 m.f, .int .i64 m.t, .int .u8 m.k, .int .i64 m.g, .int .i64 m.s, .int .i64 m.b, .int .i64 m.p, .string U, .int .i64 m.i, .int .i64 m.tm])
  have HR := Lib.hid hr
  have HRM := Lib.hid hrm
  have HRA := Lib.hid hra
  have HL := Lib.hid hl
  have HLM := Lib.hid hlm
  have HLA := Lib.hid hla
  clear eA hU hr hrm hra hl hlm hla
  go_enter Try.func3, Try.ntmps3
  go_wp2_with fail
  refine (alive24 _).mono ?_
  rintro e w1 ⟨rfl, hb⟩
  have B1 := Lib.hid (B0.out.trans (hb.mono B0.out.size))
  have K1 := Lib.hid (K0.out.below hb K0.out.lt)
  clear hb B0 K0
  have R1 := Lib.hid ((HR.out.below B1.out).more B1.out.size)
  have RM1 := Lib.hid ((HRM.out.below B1.out).more B1.out.size)
  go_wp2_with fail
  refine (ngreat_any A n c l w1 R1.out HL.out (by omega)).mono ?_
  rintro e w' ⟨b, rfl, rfl, hb5⟩
  cases b with
  | true =>
    clear hb5
    go_wp2
    go_ret
    exact ⟨rfl, B1.out⟩
  | false =>
    have hn5 : n ≤ 5000 := hb5 rfl
    clear hb5
    by_cases hm100 : (100 : Int) < (nm : Int)
    · go_wp2
      go_ret
      exact ⟨rfl, B1.out⟩
    go_wp2_with fail
    refine (ngreat_any Am nm cm' more w1 RM1.out HLM.out (by omega)).mono ?_
    rintro e w' ⟨b, rfl, rfl, hb5⟩
    cases b with
    | true =>
      clear hb5
      go_wp2
      go_ret
      exact ⟨rfl, B1.out⟩
    | false =>
      clear hb5
      by_cases ha100 : (100 : Int) < (na : Int)
      · go_wp2
        go_ret
        exact ⟨rfl, B1.out⟩
      cases hok : okMails l with
      | false =>
        have HC := Lib.hid (ncheck_any A n c l w1 false hok R1.out HL.out (by omega))
        clear hok
        go_wp2_with fail
        refine HC.out.mono ?_
        rintro e w2 ⟨rfl, hb⟩
        have B2 := Lib.hid (then_ B1.out hb)
        clear hb HC
        go_wp2
        go_ret
        exact ⟨rfl, B2.out⟩
      | true =>
        have HC := Lib.hid (ncheck_any A n c l w1 true hok R1.out HL.out (by omega))
        have HOK := Lib.hid hok
        clear hok
        go_wp2_with fail
        refine HC.out.mono ?_
        rintro e w2 ⟨rfl, hb⟩
        have B2 := Lib.hid (then_ B1.out hb)
        have K2 := Lib.hid (K1.out.below hb K1.out.lt)
        have R2 := Lib.hid ((R1.out.below hb).more hb.size)
        clear hb HC K1 R1 RM1
        have y0 : w2.cell? ⟨w.heap.size, 0, none⟩ = some (.int .i64 m.f) := K2.out.cell 0
        have y1 : w2.cell? ⟨w.heap.size, 1, none⟩ = some (.int .i64 m.t) := K2.out.cell 1
        have y2 : w2.cell? ⟨w.heap.size, 2, none⟩ = some (.int .u8 m.k) := K2.out.cell 2
        have y3 : w2.cell? ⟨w.heap.size, 3, none⟩ = some (.int .i64 m.g) := K2.out.cell 3
        have y4 : w2.cell? ⟨w.heap.size, 4, none⟩ = some (.int .i64 m.s) := K2.out.cell 4
        have y5 : w2.cell? ⟨w.heap.size, 5, none⟩ = some (.int .i64 m.b) := K2.out.cell 5
        have y6 : w2.cell? ⟨w.heap.size, 6, none⟩ = some (.int .i64 m.p) := K2.out.cell 6
        have y7 : w2.cell? ⟨w.heap.size, 7, none⟩ = some (.string U) := K2.out.cell 7
        have y8 : w2.cell? ⟨w.heap.size, 8, none⟩ = some (.int .i64 m.i) := K2.out.cell 8
        have y9 : w2.cell? ⟨w.heap.size, 9, none⟩ = some (.int .i64 m.tm) := K2.out.cell 9
        have hn46 : n ≤ 4096 := by have h1 := okMails_len HOK.out; have h2 := R2.out.len_m; omega
        go_wp2_with fail
        have HX := nmany_any A n c l m w2 R2.out (by omega) _ rfl
        rw [EA.out] at HX
        refine HX.mono ?_
        clear HX
        rintro e w3 ⟨rfl, hb⟩
        have B3 := Lib.hid (then_ B2.out hb)
        have K3 := Lib.hid (K2.out.below hb K2.out.lt)
        have R3 := Lib.hid ((R2.out.below hb).more hb.size)
        clear hb K2 R2 y0 y1 y2 y3 y4 y5 y6 y7 y8 y9
        have KK : Hid (KSt w w.heap.size m #[.int .i64 m.f, .int .i64 m.t, .int .u8 m.k, .int .i64 m.g, .int .i64 m.s, .int .i64 m.b, .int .i64 m.p, .string U, .int .i64 m.i, .int .i64 m.tm] (.slice A n c) (.int .i64 (cntM m l : Int)) w3) := ⟨l, A, n, c, rfl, rfl, R3.out, hc, hcm, hn46, HOK.out, HL.out, B3.out, K3.out⟩
        clear B1 B2 B3 K3 R3 HR HOK HL hn5 hn46 hc hcm
        go_wp2_with fail
        go_loopw [0, 10, 11] (fun x0 x10 x11 wr => ∃ i : Nat, x11 = .int .i64 (i : Int) ∧ i ≤ 100 ∧ KSt w w.heap.size m #[.int .i64 m.f, .int .i64 m.t, .int .u8 m.k, .int .i64 m.g, .int .i64 m.s, .int .i64 m.b, .int .i64 m.p, .string U, .int .i64 m.i, .int .i64 m.tm] x0 x10 wr) (fun _ _ y _ => 100 - (intOf y).toNat)
        case atStart => exact ⟨0, rfl, by omega, KK.out⟩
        case round =>
          clear KK
          obtain ⟨i, rfl, hi, hk⟩ := hrel
          have HK := Lib.hid hk
          clear hk
          by_cases hmo : (i : Int) < (nm : Int)
          · skip
            go_upto_if 66 with fail
            go_cut [0, 10] (fun x0 x10 wx => KSt w w.heap.size m #[.int .i64 m.f, .int .i64 m.t, .int .u8 m.k, .int .i64 m.g, .int .i64 m.s, .int .i64 m.b, .int .i64 m.p, .string U, .int .i64 m.i, .int .i64 m.tm] x0 x10 wx)
            case first =>
              obtain ⟨L, A1, n1, c1, rfl, rfl, k3, k4, k5, k6, k7, k8, k9, k10⟩ := HK.out
              obtain ⟨y, hy0⟩ : ∃ y, more[i]? = some y := ⟨more[i]'(by have := HRM.out.len_m; omega), List.getElem?_eq_getElem _⟩
              have HY := Lib.hid hy0
              have HIY := Lib.hid (HLM.out y (List.mem_of_getElem? hy0))
              have hlen1 := k3.len_m
              have RM := Lib.hid ((HRM.out.below k9).more k9.size)
              have RY := one_read RM.out hy0 hcmm
              have hs := fun W => run_sliceN_mid (P := Try.prog) Try.underlying22 10 Am nm cm' i 1 (by omega) W mail_size
              rw [Int.natCast_one] at hs
              obtain ⟨A2, hA2⟩ : ∃ x, cutN 10 Am cm' i = x := ⟨_, rfl⟩
              obtain ⟨c2, hc2⟩ : ∃ x, cm' - i = x := ⟨_, rfl⟩
              rw [hA2, hc2] at hs
              rw [hA2] at RY
              have RYH := Lib.hid RY
              have K3 := Lib.hid k3
              have K7 := Lib.hid k7
              have K8 := Lib.hid k8
              have K9 := Lib.hid k9
              have K10 := Lib.hid k10
              have i0 : (0 : Int) ≤ (i : Int) := by omega
              have i1 : (i : Int) ≤ (i : Int) + 1 := by omega
              have i2 : (i : Int) + 1 ≤ (cm' : Int) := by omega
              clear hy0 RY hA2 hc2 k3 k7 k8 k9 k10
              cases hbad : badB y with
              | true =>
                have HX := Lib.hid (nsend_bad A1 A2 n1 c1 1 c2 L [y] wr K3.out RYH.out K8.out (one_is' HIY.out) (by omega) (by omega) (Or.inr (one_any hbad)))
                clear hbad
                go_wp2_with fail
                refine HX.out.mono ?_
                rintro e w4 ⟨rfl, hb⟩
                have KE := Lib.hid (HK.out.below hb)
                clear hb
                go_wp2_with fail
                go_meet
                exact KE.out
              | false =>
                by_cases hf : 4096 < n1 + 1
                · have HX := Lib.hid (nsend_full A1 A2 n1 c1 1 c2 L [y] wr K3.out RYH.out K8.out (one_is' HIY.out) (by omega) (by omega) K7.out (one_any hbad) hf)
                  clear hbad
                  go_wp2_with fail
                  refine HX.out.mono ?_
                  rintro e w4 ⟨rfl, hb⟩
                  have KE := Lib.hid (HK.out.below hb)
                  clear hb
                  go_wp2_with fail
                  go_meet
                  exact KE.out
                · have HX := Lib.hid (nsend_ok A1 A2 n1 c1 1 c2 L [y] wr K3.out RYH.out K8.out (one_is' HIY.out) (by omega) (by omega) K7.out (one_any hbad) (by omega))
                  have HNB := Lib.hid (any_snoc (okMails_bad K7.out) hbad)
                  obtain ⟨q, hq⟩ : ∃ q, cntM m [y] = q := ⟨_, rfl⟩
                  obtain ⟨p, hp⟩ : ∃ p, cntM m L = p := ⟨_, rfl⟩
                  have hq1 : q ≤ 1 := by rw [← hq]; exact cntM_le m [y]
                  have hp1 : p ≤ 4096 := by have := cntM_le m L; omega
                  have HMN := fun W hr => nmany_any A2 1 c2 [y] m W hr (by omega) q hq
                  rw [EA.out] at HMN
                  have HMH := Lib.hid HMN
                  have hpq : cntM m (L ++ [y]) = p + q := by rw [cntM_append, hp, hq]
                  have HPQ := Lib.hid hpq
                  have hwi : IntKind.i64.wrap ((i : Int) + 1) = (i : Int) + 1 := by rw [IntKind.wrap_i64]; omega
                  have hw1 : IntKind.i64.wrap ((p : Int) + (q : Int)) = (p : Int) + (q : Int) := by rw [IntKind.wrap_i64]; omega
                  rw [hp]
                  clear hbad hq HMN hpq hp
                  go_wp2_with fail
                  refine HX.out.mono ?_
                  rintro e w4 ⟨A3, c3, rfl, ho, hb⟩
                  have KE10 := Lib.hid (K10.out.below hb K10.out.lt)
                  have KE9 := Lib.hid (then_ K9.out hb)
                  have RY4 := Lib.hid ((RYH.out.below hb).more hb.size)
                  obtain ⟨A4, c4, e4, hr4, hc4, hm4⟩ := own_formN ho
                  injection e4 with e4 _ e5
                  subst e4 e5
                  unfold maxLen at hm4
                  have R4 := Lib.hid hr4
                  clear hb ho hr4
                  go_upto_region 12 with fail
                  have g0 : w4.cell? ⟨w.heap.size, 0, none⟩ = some (.int .i64 m.f) := KE10.out.cell 0
                  have g1 : w4.cell? ⟨w.heap.size, 1, none⟩ = some (.int .i64 m.t) := KE10.out.cell 1
                  have g2 : w4.cell? ⟨w.heap.size, 2, none⟩ = some (.int .u8 m.k) := KE10.out.cell 2
                  have g3 : w4.cell? ⟨w.heap.size, 3, none⟩ = some (.int .i64 m.g) := KE10.out.cell 3
                  have g4 : w4.cell? ⟨w.heap.size, 4, none⟩ = some (.int .i64 m.s) := KE10.out.cell 4
                  have g5 : w4.cell? ⟨w.heap.size, 5, none⟩ = some (.int .i64 m.b) := KE10.out.cell 5
                  have g6 : w4.cell? ⟨w.heap.size, 6, none⟩ = some (.int .i64 m.p) := KE10.out.cell 6
                  have g7 : w4.cell? ⟨w.heap.size, 7, none⟩ = some (.string U) := KE10.out.cell 7
                  have g8 : w4.cell? ⟨w.heap.size, 8, none⟩ = some (.int .i64 m.i) := KE10.out.cell 8
                  have g9 : w4.cell? ⟨w.heap.size, 9, none⟩ = some (.int .i64 m.tm) := KE10.out.cell 9
                  go_region_with (go_at_call 19; refine (HMH.out _ (by first | exact RY4.out | exact RY4.out.drew)).mono ?_; rintro e w5 ⟨rfl, hb⟩)
                  all_goals
                    have hb := un_drew hb
                    have KF10 := Lib.hid (Blk.below KE10.out hb KE10.out.lt)
                    have KF9 := Lib.hid (show Below w.heap.size w w5 from KE9.out.trans (hb.mono KE9.out.size))
                    have R5 := Lib.hid ((R4.out.below hb).more hb.size)
                    clear hb
                    go_wp2_with fail
                    go_meet
                    exact ⟨L ++ [y], A3, n1 + 1, c3, rfl, by rw [HPQ.out, Int.natCast_add], R5.out, hc4, by omega, by omega, okMails_mk (by rw [List.length_append, hlen1]; exact Nat.le_of_not_lt hf) HNB.out, mem_snoc K8.out HIY.out, KF9.out, KF10.out⟩
            case rest =>
              have HK2 := Lib.hid hcut
              clear hcut HK
              by_cases hac : (i : Int) < (na : Int)
              rotate_left
              · go_wp2_with fail
                go_roundw
                case rel => exact ⟨i + 1, by go_num, by omega, HK2.out⟩
                case measure => simp [intOf]; omega
              obtain ⟨z, hz0⟩ : ∃ z, acts[i]? = some z := ⟨acts[i]'(by have := HRA.out.len_i; omega), List.getElem?_eq_getElem _⟩
              obtain ⟨zb0, zb1⟩ := HLA.out z (List.mem_of_getElem? hz0)
              obtain ⟨ad, u, rfl, -, hu, hca⟩ := (HRA.out.below HK2.out.bel).at_ (k := i) (by omega)
              rw [ci_get, hz0] at hu
              simp only [Option.map_some, Option.some.injEq] at hu
              subst hu
              have HZ := Lib.hid hz0
              clear hz0
              go_upto_if 97 with fail
              go_cut [0, 10] (fun x0 x10 wx => KSt w w.heap.size m #[.int .i64 m.f, .int .i64 m.t, .int .u8 m.k, .int .i64 m.g, .int .i64 m.s, .int .i64 m.b, .int .i64 m.p, .string U, .int .i64 m.i, .int .i64 m.tm] x0 x10 wx)
              case first =>
                obtain ⟨L, A1, n1, c1, rfl, rfl, k3, k4, k5, k6, k7, k8, k9, k10⟩ := HK2.out
                have hlen1 := k3.len_m
                have K3 := Lib.hid k3
                have K7 := Lib.hid k7
                have K8 := Lib.hid k8
                have K9 := Lib.hid k9
                have K10 := Lib.hid k10
                obtain ⟨p, hp⟩ : ∃ p, cntM m L = p := ⟨_, rfl⟩
                have HPP := Lib.hid hp
                have hp1 : p ≤ 4096 := by have := cntM_le m L; omega
                clear k3 k7 k8 k9 k10
                by_cases hz : 0 ≤ z
                · by_cases hin : z < (n1 : Int)
                  rotate_left
                  · have HX := Lib.hid (ntake_arg A1 n1 c1 L _ K3.out k4 K8.out (by omega) z (Or.inr (by omega)) K7.out)
                    clear hp
                    go_wp2_with fail
                    refine HX.out.mono ?_
                    rintro e w4 ⟨rfl, hb⟩
                    have KE := Lib.hid (HK2.out.below (hb.alloc hb.size (.cells #[.int .i64 0, .int .i64 0, .int .u8 0, .int .i64 0, .int .i64 0, .int .i64 0, .int .i64 0, .string ⟨#[]⟩, .int .i64 0, .int .i64 0] 25)))
                    clear hb
                    go_wp2_with fail
                    go_meet
                    exact KE.out
                  · obtain ⟨k, hk⟩ : ∃ k : Nat, (k : Int) = z := ⟨z.toNat, by omega⟩
                    obtain ⟨y, hy0⟩ : ∃ y, L[k]? = some y := ⟨L[k]'(by omega), List.getElem?_eq_getElem _⟩
                    have HIY := Lib.hid (K8.out y (List.mem_of_getElem? hy0))
                    have HX0 := ntake_ok A1 n1 c1 L _ K3.out k4 K8.out (by omega) k y hy0 K7.out
                    obtain ⟨V, hV⟩ : ∃ V, S y.v = V := ⟨_, rfl⟩
                    have eY : mA y = #[.int .i64 y.f, .int .i64 y.t, .int .u8 y.k, .int .i64 y.g, .int .i64 y.s, .int .i64 y.b, .int .i64 y.p, .string V, .int .i64 y.i, .int .i64 y.tm] := by rw [← hV]; rfl
                    rw [hk, eY] at HX0
                    have HX := Lib.hid HX0
                    have EY := Lib.hid eY
                    obtain ⟨q, hq⟩ : ∃ q, cntM m [y] = q := ⟨_, rfl⟩
                    have HMN := fun A2 W hr => nmany_any A2 1 1 [y] m W hr (by omega) q hq
                    rw [EA.out] at HMN
                    have HMH := Lib.hid HMN
                    have hcs := cnt_sub m hy0
                    rw [hq, hp] at hcs
                    have HCS := Lib.hid hcs
                    have hqp : q ≤ p := by omega
                    clear hk hy0 HX0 hV eY hq HMN hcs
                    rw [hp]
                    clear hp
                    go_wp2_with fail
                    refine HX.out.mono ?_
                    rintro e w4 ⟨A3, c3, rfl, ho, hb⟩
                    have hb2 := hb.alloc hb.size (.cells #[.int .i64 y.f, .int .i64 y.t, .int .u8 y.k, .int .i64 y.g, .int .i64 y.s, .int .i64 y.b, .int .i64 y.p, .string V, .int .i64 y.i, .int .i64 y.tm] 25)
                    have hb3 := hb2.alloc hb2.size (.cells #[.int .i64 y.f, .int .i64 y.t, .int .u8 y.k, .int .i64 y.g, .int .i64 y.s, .int .i64 y.b, .int .i64 y.p, .string V, .int .i64 y.i, .int .i64 y.tm] 25)
                    have K10c := Lib.hid (K10.out.below hb3 K10.out.lt)
                    have K9c := Lib.hid (then_ K9.out hb3)
                    have KYc := Lib.hid (Blk.new w4 25 #[.int .i64 y.f, .int .i64 y.t, .int .u8 y.k, .int .i64 y.g, .int .i64 y.s, .int .i64 y.b, .int .i64 y.p, .string V, .int .i64 y.i, .int .i64 y.tm])
                    obtain ⟨A4, c4, e4, hr4, hc4, hm4⟩ := own_formN ho
                    injection e4 with e4 _ e5
                    subst e4 e5
                    unfold maxLen at hm4
                    have R7 := Lib.hid (((hr4.alloc (Nat.le_refl _) (.cells #[.int .i64 y.f, .int .i64 y.t, .int .u8 y.k, .int .i64 y.g, .int .i64 y.s, .int .i64 y.b, .int .i64 y.p, .string V, .int .i64 y.i, .int .i64 y.tm] 25)).alloc (by simp) (.cells #[.int .i64 y.f, .int .i64 y.t, .int .u8 y.k, .int .i64 y.g, .int .i64 y.s, .int .i64 y.b, .int .i64 y.p, .string V, .int .i64 y.i, .int .i64 y.tm] 25)).more (B' := ((w4.alloc (.cells #[.int .i64 y.f, .int .i64 y.t, .int .u8 y.k, .int .i64 y.g, .int .i64 y.s, .int .i64 y.b, .int .i64 y.p, .string V, .int .i64 y.i, .int .i64 y.tm] 25)).alloc (.cells #[.int .i64 y.f, .int .i64 y.t, .int .u8 y.k, .int .i64 y.g, .int .i64 y.s, .int .i64 y.b, .int .i64 y.p, .string V, .int .i64 y.i, .int .i64 y.tm] 25)).heap.size) (by simp; omega))
                    have NY := new_mail (w4.alloc (.cells (mA y) 25)) y
                    rw [EY.out] at NY
                    have hsz4 : (w4.alloc (.cells #[.int .i64 y.f, .int .i64 y.t, .int .u8 y.k, .int .i64 y.g, .int .i64 y.s, .int .i64 y.b, .int .i64 y.p, .string V, .int .i64 y.i, .int .i64 y.tm] 25)).heap.size = w4.heap.size + 1 := by simp
                    rw [hsz4] at NY
                    have NYH := Lib.hid NY
                    clear hsz4
                    have hgw : w.heap.size < w4.heap.size := (K10.out.below hb K10.out.lt).lt
                    have g0 := (K10.out.below hb K10.out.lt).cell 0
                    have g1 := (K10.out.below hb K10.out.lt).cell 1
                    have g2 := (K10.out.below hb K10.out.lt).cell 2
                    have g3 := (K10.out.below hb K10.out.lt).cell 3
                    have g4 := (K10.out.below hb K10.out.lt).cell 4
                    have g5 := (K10.out.below hb K10.out.lt).cell 5
                    have g6 := (K10.out.below hb K10.out.lt).cell 6
                    have g7 := (K10.out.below hb K10.out.lt).cell 7
                    have g8 := (K10.out.below hb K10.out.lt).cell 8
                    have g9 := (K10.out.below hb K10.out.lt).cell 9
                    clear hb hb2 hb3 ho hr4 NY
                    go_wp2_with fail
                    with_reducible refine (HMH.out _ _ NYH.out).mono ?_
                    rintro e w6 ⟨rfl, hb⟩
                    have KF10 := Lib.hid (K10c.out.below hb K10c.out.lt)
                    have KF9 := Lib.hid (then_ K9c.out hb)
                    have R8 := Lib.hid ((R7.out.below hb).more hb.size)
                    clear hb
                    go_wp2_with fail
                    go_meet
                    exact ⟨_, A3, n1 - 1, c3, rfl, by congr 1; have := HCS.out; omega, R8.out, hc4, by omega, by omega, okMails_sub k K7.out, mem_sub k K8.out, KF9.out, KF10.out⟩
                · have hj0 : 0 ≤ -1 - z := by omega
                  by_cases hin : -1 - z < (n1 : Int)
                  rotate_left
                  · have HX := Lib.hid (ncopy_arg A1 n1 c1 L _ K3.out k4 K8.out (by omega) (-1 - z) (Or.inr (by omega)) K7.out)
                    have HX2 := Lib.hid (fun W hr => ndrop_arg A1 n1 c1 L W hr k4 K8.out (by omega) (-1 - z) (Or.inr (by omega)) K7.out)
                    clear hp
                    go_wp2_with fail
                    refine HX.out.mono ?_
                    rintro e w4 ⟨rfl, hb⟩
                    have hb2 := hb.alloc hb.size (.cells #[.int .i64 0, .int .i64 0, .int .u8 0, .int .i64 0, .int .i64 0, .int .i64 0, .int .i64 0, .string ⟨#[]⟩, .int .i64 0, .int .i64 0] 25)
                    have KE := Lib.hid (HK2.out.below hb2)
                    have HB2 := Lib.hid hb2
                    have hca4 := (hb.cell (p := ad.add i) (by have h1 := World.block_lt_of_cell? _ _ hca; exact h1)).trans hca
                    have hadl : (ad.add i).block < w4.heap.size := World.block_lt_of_cell? _ _ hca4
                    have hca5 := (World.cell?_alloc_lt w4 (.cells #[.int .i64 0, .int .i64 0, .int .u8 0, .int .i64 0, .int .i64 0, .int .i64 0, .int .i64 0, .string ⟨#[]⟩, .int .i64 0, .int .i64 0] 25) (ad.add i) hadl).trans hca4
                    have R5 := Lib.hid ((K3.out.below hb2).more hb2.size)
                    clear hb hb2
                    go_wp2_with fail
                    refine (HX2.out _ R5.out).mono ?_
                    rintro e w5 ⟨rfl, hb⟩
                    have KE2 := Lib.hid (KE.out.below hb)
                    clear hb
                    go_wp2_with fail
                    go_meet
                    exact KE2.out
                  · obtain ⟨k, hk⟩ : ∃ k : Nat, (k : Int) = -1 - z := ⟨(-1 - z).toNat, by omega⟩
                    obtain ⟨y, hy0⟩ : ∃ y, L[k]? = some y := ⟨L[k]'(by omega), List.getElem?_eq_getElem _⟩
                    have HIY := Lib.hid (K8.out y (List.mem_of_getElem? hy0))
                    have HX0 := ncopy_ok A1 n1 c1 L _ K3.out k4 K8.out (by omega) k y hy0 K7.out
                    have HX1 := fun W hr => ndrop_ok A1 n1 c1 L W hr k4 K8.out (by omega) k y hy0 K7.out
                    obtain ⟨V, hV⟩ : ∃ V, S y.v = V := ⟨_, rfl⟩
                    have eY : mA y = #[.int .i64 y.f, .int .i64 y.t, .int .u8 y.k, .int .i64 y.g, .int .i64 y.s, .int .i64 y.b, .int .i64 y.p, .string V, .int .i64 y.i, .int .i64 y.tm] := by rw [← hV]; rfl
                    rw [hk, eY] at HX0
                    rw [hk] at HX1
                    have HX := Lib.hid HX0
                    have HX2 := Lib.hid HX1
                    have EY := Lib.hid eY
                    obtain ⟨q, hq⟩ : ∃ q, cntM m [y] = q := ⟨_, rfl⟩
                    have HMN := fun A2 W hr => nmany_any A2 1 1 [y] m W hr (by omega) q hq
                    rw [EA.out] at HMN
                    have HMH := Lib.hid HMN
                    have hcs := cnt_sub m hy0
                    rw [hq, hp] at hcs
                    have HCS := Lib.hid hcs
                    have hqp : q ≤ p := by omega
                    clear hk hy0 HX0 HX1 hV eY hq HMN hcs
                    rw [hp]
                    clear hp
                    go_wp2_with fail
                    refine HX.out.mono ?_
                    rintro e w4 ⟨rfl, hb⟩
                    have hb2 := hb.alloc hb.size (.cells #[.int .i64 y.f, .int .i64 y.t, .int .u8 y.k, .int .i64 y.g, .int .i64 y.s, .int .i64 y.b, .int .i64 y.p, .string V, .int .i64 y.i, .int .i64 y.tm] 25)
                    have HB2 := Lib.hid hb2
                    have hca4 := (hb.cell (p := ad.add i) (by have h1 := World.block_lt_of_cell? _ _ hca; exact h1)).trans hca
                    have hadl : (ad.add i).block < w4.heap.size := World.block_lt_of_cell? _ _ hca4
                    have hca5 := (World.cell?_alloc_lt w4 (.cells #[.int .i64 y.f, .int .i64 y.t, .int .u8 y.k, .int .i64 y.g, .int .i64 y.s, .int .i64 y.b, .int .i64 y.p, .string V, .int .i64 y.i, .int .i64 y.tm] 25) (ad.add i) hadl).trans hca4
                    have R5 := Lib.hid ((K3.out.below hb2).more hb2.size)
                    have KY := Lib.hid (Blk.new w4 25 #[.int .i64 y.f, .int .i64 y.t, .int .u8 y.k, .int .i64 y.g, .int .i64 y.s, .int .i64 y.b, .int .i64 y.p, .string V, .int .i64 y.i, .int .i64 y.tm])
                    have K10b := Lib.hid (K10.out.below hb2 K10.out.lt)
                    have K9b := Lib.hid (then_ K9.out hb2)
                    clear hb hb2
                    go_wp2_with fail
                    refine (HX2.out _ R5.out).mono ?_
                    rintro e w5 ⟨A3, c3, rfl, ho, hb⟩
                    have K10b2 := Lib.hid (K10b.out.below hb K10b.out.lt)
                    have KYb := Lib.hid (KY.out.below hb KY.out.lt)
                    have hb3 := hb.alloc hb.size (.cells #[.int .i64 y.f, .int .i64 y.t, .int .u8 y.k, .int .i64 y.g, .int .i64 y.s, .int .i64 y.b, .int .i64 y.p, .string V, .int .i64 y.i, .int .i64 y.tm] 25)
                    have K10c := Lib.hid (K10b.out.below hb3 K10b.out.lt)
                    have K9c := Lib.hid (then_ K9b.out hb3)
                    obtain ⟨A4, c4, e4, hr4, hc4, hm4⟩ := own_formN ho
                    injection e4 with e4 _ e5
                    subst e4 e5
                    unfold maxLen at hm4
                    have R7 := Lib.hid ((hr4.alloc (Nat.le_refl _) (.cells #[.int .i64 y.f, .int .i64 y.t, .int .u8 y.k, .int .i64 y.g, .int .i64 y.s, .int .i64 y.b, .int .i64 y.p, .string V, .int .i64 y.i, .int .i64 y.tm] 25)).more (B' := (w5.alloc (.cells #[.int .i64 y.f, .int .i64 y.t, .int .u8 y.k, .int .i64 y.g, .int .i64 y.s, .int .i64 y.b, .int .i64 y.p, .string V, .int .i64 y.i, .int .i64 y.tm] 25)).heap.size) (by simp))
                    have NY := new_mail w5 y
                    rw [EY.out] at NY
                    have NYH := Lib.hid NY
                    have hgw : w.heap.size < w5.heap.size := K10b2.out.lt
                    have g0 := K10b2.out.cell 0
                    have g1 := K10b2.out.cell 1
                    have g2 := K10b2.out.cell 2
                    have g3 := K10b2.out.cell 3
                    have g4 := K10b2.out.cell 4
                    have g5 := K10b2.out.cell 5
                    have g6 := K10b2.out.cell 6
                    have g7 := K10b2.out.cell 7
                    have g8 := K10b2.out.cell 8
                    have g9 := K10b2.out.cell 9
                    have h0 := KYb.out.cell 0
                    have h1 := KYb.out.cell 1
                    have h2 := KYb.out.cell 2
                    have h3 := KYb.out.cell 3
                    have h4 := KYb.out.cell 4
                    have h5 := KYb.out.cell 5
                    have h6 := KYb.out.cell 6
                    have h7 := KYb.out.cell 7
                    have h8 := KYb.out.cell 8
                    have h9 := KYb.out.cell 9
                    clear hb hb3 ho hr4 NY
                    go_wp2_with fail
                    with_reducible refine (HMH.out _ _ NYH.out).mono ?_
                    rintro e w6 ⟨rfl, hb⟩
                    have KF10 := Lib.hid (K10c.out.below hb K10c.out.lt)
                    have KF9 := Lib.hid (then_ K9c.out hb)
                    have R8 := Lib.hid ((R7.out.below hb).more hb.size)
                    clear hb
                    go_wp2_with fail
                    go_meet
                    exact ⟨_, A3, n1 - 1, c3, rfl, by congr 1; have := HCS.out; omega, R8.out, hc4, by omega, by omega, okMails_sub k K7.out, mem_sub k K8.out, KF9.out, KF10.out⟩
              case rest =>
                have HK3 := Lib.hid hcut
                clear hcut HK2
                obtain ⟨L, A1, n1, c1, rfl, rfl, k3, k4, k5, k6, k7, k8, k9, k10⟩ := HK3.out
                have HX := nmany_any A1 n1 c1 L m _ k3 (by omega) _ rfl
                rw [EA.out] at HX
                have HXX := Lib.hid HX
                have HCK := Lib.hid (fun W hr => ncheck_any A1 n1 c1 L W true k7 hr k8 (by omega))
                have K3 := Lib.hid k3
                have y0 := k10.cell 0
                have y1 := k10.cell 1
                have y2 := k10.cell 2
                have y3 := k10.cell 3
                have y4 := k10.cell 4
                have y5 := k10.cell 5
                have y6 := k10.cell 6
                have y7 := k10.cell 7
                have y8 := k10.cell 8
                have y9 := k10.cell 9
                clear HX k3 k7 k8 k9 k10
                go_wp2_with fail
                refine HXX.out.mono ?_
                rintro e w6 ⟨rfl, hb⟩
                have KE := Lib.hid (HK3.out.below hb)
                have R6 := Lib.hid ((K3.out.below hb).more hb.size)
                clear hb y0 y1 y2 y3 y4 y5 y6 y7 y8 y9
                go_wp2_with fail
                refine (HCK.out _ R6.out).mono ?_
                rintro e w7 ⟨rfl, hb⟩
                have KE2 := Lib.hid (KE.out.below hb)
                clear hb
                go_wp2_with fail
                go_roundw
                case rel => exact ⟨i + 1, by go_num, by omega, KE2.out⟩
                case measure => simp [intOf]; omega
          · by_cases hac : (i : Int) < (na : Int)
            · skip
              go_upto_if 66 with fail
              go_cut [0, 10] (fun x0 x10 wx => KSt w w.heap.size m #[.int .i64 m.f, .int .i64 m.t, .int .u8 m.k, .int .i64 m.g, .int .i64 m.s, .int .i64 m.b, .int .i64 m.p, .string U, .int .i64 m.i, .int .i64 m.tm] x0 x10 wx)
              case first =>
                go_wp2_with fail
                go_meet
                exact HK.out
              case rest =>
                have HK2 := Lib.hid hcut
                clear hcut HK
                obtain ⟨z, hz0⟩ : ∃ z, acts[i]? = some z := ⟨acts[i]'(by have := HRA.out.len_i; omega), List.getElem?_eq_getElem _⟩
                obtain ⟨zb0, zb1⟩ := HLA.out z (List.mem_of_getElem? hz0)
                obtain ⟨ad, u, rfl, -, hu, hca⟩ := (HRA.out.below HK2.out.bel).at_ (k := i) (by omega)
                rw [ci_get, hz0] at hu
                simp only [Option.map_some, Option.some.injEq] at hu
                subst hu
                have HZ := Lib.hid hz0
                clear hz0
                go_upto_if 97 with fail
                go_cut [0, 10] (fun x0 x10 wx => KSt w w.heap.size m #[.int .i64 m.f, .int .i64 m.t, .int .u8 m.k, .int .i64 m.g, .int .i64 m.s, .int .i64 m.b, .int .i64 m.p, .string U, .int .i64 m.i, .int .i64 m.tm] x0 x10 wx)
                case first =>
                  obtain ⟨L, A1, n1, c1, rfl, rfl, k3, k4, k5, k6, k7, k8, k9, k10⟩ := HK2.out
                  have hlen1 := k3.len_m
                  have K3 := Lib.hid k3
                  have K7 := Lib.hid k7
                  have K8 := Lib.hid k8
                  have K9 := Lib.hid k9
                  have K10 := Lib.hid k10
                  obtain ⟨p, hp⟩ : ∃ p, cntM m L = p := ⟨_, rfl⟩
                  have HPP := Lib.hid hp
                  have hp1 : p ≤ 4096 := by have := cntM_le m L; omega
                  clear k3 k7 k8 k9 k10
                  by_cases hz : 0 ≤ z
                  · by_cases hin : z < (n1 : Int)
                    rotate_left
                    · have HX := Lib.hid (ntake_arg A1 n1 c1 L _ K3.out k4 K8.out (by omega) z (Or.inr (by omega)) K7.out)
                      clear hp
                      go_wp2_with fail
                      refine HX.out.mono ?_
                      rintro e w4 ⟨rfl, hb⟩
                      have KE := Lib.hid (HK2.out.below (hb.alloc hb.size (.cells #[.int .i64 0, .int .i64 0, .int .u8 0, .int .i64 0, .int .i64 0, .int .i64 0, .int .i64 0, .string ⟨#[]⟩, .int .i64 0, .int .i64 0] 25)))
                      clear hb
                      go_wp2_with fail
                      go_meet
                      exact KE.out
                    · obtain ⟨k, hk⟩ : ∃ k : Nat, (k : Int) = z := ⟨z.toNat, by omega⟩
                      obtain ⟨y, hy0⟩ : ∃ y, L[k]? = some y := ⟨L[k]'(by omega), List.getElem?_eq_getElem _⟩
                      have HIY := Lib.hid (K8.out y (List.mem_of_getElem? hy0))
                      have HX0 := ntake_ok A1 n1 c1 L _ K3.out k4 K8.out (by omega) k y hy0 K7.out
                      obtain ⟨V, hV⟩ : ∃ V, S y.v = V := ⟨_, rfl⟩
                      have eY : mA y = #[.int .i64 y.f, .int .i64 y.t, .int .u8 y.k, .int .i64 y.g, .int .i64 y.s, .int .i64 y.b, .int .i64 y.p, .string V, .int .i64 y.i, .int .i64 y.tm] := by rw [← hV]; rfl
                      rw [hk, eY] at HX0
                      have HX := Lib.hid HX0
                      have EY := Lib.hid eY
                      obtain ⟨q, hq⟩ : ∃ q, cntM m [y] = q := ⟨_, rfl⟩
                      have HMN := fun A2 W hr => nmany_any A2 1 1 [y] m W hr (by omega) q hq
                      rw [EA.out] at HMN
                      have HMH := Lib.hid HMN
                      have hcs := cnt_sub m hy0
                      rw [hq, hp] at hcs
                      have HCS := Lib.hid hcs
                      have hqp : q ≤ p := by omega
                      clear hk hy0 HX0 hV eY hq HMN hcs
                      rw [hp]
                      clear hp
                      go_wp2_with fail
                      refine HX.out.mono ?_
                      rintro e w4 ⟨A3, c3, rfl, ho, hb⟩
                      have hb2 := hb.alloc hb.size (.cells #[.int .i64 y.f, .int .i64 y.t, .int .u8 y.k, .int .i64 y.g, .int .i64 y.s, .int .i64 y.b, .int .i64 y.p, .string V, .int .i64 y.i, .int .i64 y.tm] 25)
                      have hb3 := hb2.alloc hb2.size (.cells #[.int .i64 y.f, .int .i64 y.t, .int .u8 y.k, .int .i64 y.g, .int .i64 y.s, .int .i64 y.b, .int .i64 y.p, .string V, .int .i64 y.i, .int .i64 y.tm] 25)
                      have K10c := Lib.hid (K10.out.below hb3 K10.out.lt)
                      have K9c := Lib.hid (then_ K9.out hb3)
                      have KYc := Lib.hid (Blk.new w4 25 #[.int .i64 y.f, .int .i64 y.t, .int .u8 y.k, .int .i64 y.g, .int .i64 y.s, .int .i64 y.b, .int .i64 y.p, .string V, .int .i64 y.i, .int .i64 y.tm])
                      obtain ⟨A4, c4, e4, hr4, hc4, hm4⟩ := own_formN ho
                      injection e4 with e4 _ e5
                      subst e4 e5
                      unfold maxLen at hm4
                      have R7 := Lib.hid (((hr4.alloc (Nat.le_refl _) (.cells #[.int .i64 y.f, .int .i64 y.t, .int .u8 y.k, .int .i64 y.g, .int .i64 y.s, .int .i64 y.b, .int .i64 y.p, .string V, .int .i64 y.i, .int .i64 y.tm] 25)).alloc (by simp) (.cells #[.int .i64 y.f, .int .i64 y.t, .int .u8 y.k, .int .i64 y.g, .int .i64 y.s, .int .i64 y.b, .int .i64 y.p, .string V, .int .i64 y.i, .int .i64 y.tm] 25)).more (B' := ((w4.alloc (.cells #[.int .i64 y.f, .int .i64 y.t, .int .u8 y.k, .int .i64 y.g, .int .i64 y.s, .int .i64 y.b, .int .i64 y.p, .string V, .int .i64 y.i, .int .i64 y.tm] 25)).alloc (.cells #[.int .i64 y.f, .int .i64 y.t, .int .u8 y.k, .int .i64 y.g, .int .i64 y.s, .int .i64 y.b, .int .i64 y.p, .string V, .int .i64 y.i, .int .i64 y.tm] 25)).heap.size) (by simp; omega))
                      have NY := new_mail (w4.alloc (.cells (mA y) 25)) y
                      rw [EY.out] at NY
                      have hsz4 : (w4.alloc (.cells #[.int .i64 y.f, .int .i64 y.t, .int .u8 y.k, .int .i64 y.g, .int .i64 y.s, .int .i64 y.b, .int .i64 y.p, .string V, .int .i64 y.i, .int .i64 y.tm] 25)).heap.size = w4.heap.size + 1 := by simp
                      rw [hsz4] at NY
                      have NYH := Lib.hid NY
                      clear hsz4
                      have hgw : w.heap.size < w4.heap.size := (K10.out.below hb K10.out.lt).lt
                      have g0 := (K10.out.below hb K10.out.lt).cell 0
                      have g1 := (K10.out.below hb K10.out.lt).cell 1
                      have g2 := (K10.out.below hb K10.out.lt).cell 2
                      have g3 := (K10.out.below hb K10.out.lt).cell 3
                      have g4 := (K10.out.below hb K10.out.lt).cell 4
                      have g5 := (K10.out.below hb K10.out.lt).cell 5
                      have g6 := (K10.out.below hb K10.out.lt).cell 6
                      have g7 := (K10.out.below hb K10.out.lt).cell 7
                      have g8 := (K10.out.below hb K10.out.lt).cell 8
                      have g9 := (K10.out.below hb K10.out.lt).cell 9
                      clear hb hb2 hb3 ho hr4 NY
                      go_wp2_with fail
                      with_reducible refine (HMH.out _ _ NYH.out).mono ?_
                      rintro e w6 ⟨rfl, hb⟩
                      have KF10 := Lib.hid (K10c.out.below hb K10c.out.lt)
                      have KF9 := Lib.hid (then_ K9c.out hb)
                      have R8 := Lib.hid ((R7.out.below hb).more hb.size)
                      clear hb
                      go_wp2_with fail
                      go_meet
                      exact ⟨_, A3, n1 - 1, c3, rfl, by congr 1; have := HCS.out; omega, R8.out, hc4, by omega, by omega, okMails_sub k K7.out, mem_sub k K8.out, KF9.out, KF10.out⟩
                  · have hj0 : 0 ≤ -1 - z := by omega
                    by_cases hin : -1 - z < (n1 : Int)
                    rotate_left
                    · have HX := Lib.hid (ncopy_arg A1 n1 c1 L _ K3.out k4 K8.out (by omega) (-1 - z) (Or.inr (by omega)) K7.out)
                      have HX2 := Lib.hid (fun W hr => ndrop_arg A1 n1 c1 L W hr k4 K8.out (by omega) (-1 - z) (Or.inr (by omega)) K7.out)
                      clear hp
                      go_wp2_with fail
                      refine HX.out.mono ?_
                      rintro e w4 ⟨rfl, hb⟩
                      have hb2 := hb.alloc hb.size (.cells #[.int .i64 0, .int .i64 0, .int .u8 0, .int .i64 0, .int .i64 0, .int .i64 0, .int .i64 0, .string ⟨#[]⟩, .int .i64 0, .int .i64 0] 25)
                      have KE := Lib.hid (HK2.out.below hb2)
                      have HB2 := Lib.hid hb2
                      have hca4 := (hb.cell (p := ad.add i) (by have h1 := World.block_lt_of_cell? _ _ hca; exact h1)).trans hca
                      have hadl : (ad.add i).block < w4.heap.size := World.block_lt_of_cell? _ _ hca4
                      have hca5 := (World.cell?_alloc_lt w4 (.cells #[.int .i64 0, .int .i64 0, .int .u8 0, .int .i64 0, .int .i64 0, .int .i64 0, .int .i64 0, .string ⟨#[]⟩, .int .i64 0, .int .i64 0] 25) (ad.add i) hadl).trans hca4
                      have R5 := Lib.hid ((K3.out.below hb2).more hb2.size)
                      clear hb hb2
                      go_wp2_with fail
                      refine (HX2.out _ R5.out).mono ?_
                      rintro e w5 ⟨rfl, hb⟩
                      have KE2 := Lib.hid (KE.out.below hb)
                      clear hb
                      go_wp2_with fail
                      go_meet
                      exact KE2.out
                    · obtain ⟨k, hk⟩ : ∃ k : Nat, (k : Int) = -1 - z := ⟨(-1 - z).toNat, by omega⟩
                      obtain ⟨y, hy0⟩ : ∃ y, L[k]? = some y := ⟨L[k]'(by omega), List.getElem?_eq_getElem _⟩
                      have HIY := Lib.hid (K8.out y (List.mem_of_getElem? hy0))
                      have HX0 := ncopy_ok A1 n1 c1 L _ K3.out k4 K8.out (by omega) k y hy0 K7.out
                      have HX1 := fun W hr => ndrop_ok A1 n1 c1 L W hr k4 K8.out (by omega) k y hy0 K7.out
                      obtain ⟨V, hV⟩ : ∃ V, S y.v = V := ⟨_, rfl⟩
                      have eY : mA y = #[.int .i64 y.f, .int .i64 y.t, .int .u8 y.k, .int .i64 y.g, .int .i64 y.s, .int .i64 y.b, .int .i64 y.p, .string V, .int .i64 y.i, .int .i64 y.tm] := by rw [← hV]; rfl
                      rw [hk, eY] at HX0
                      rw [hk] at HX1
                      have HX := Lib.hid HX0
                      have HX2 := Lib.hid HX1
                      have EY := Lib.hid eY
                      obtain ⟨q, hq⟩ : ∃ q, cntM m [y] = q := ⟨_, rfl⟩
                      have HMN := fun A2 W hr => nmany_any A2 1 1 [y] m W hr (by omega) q hq
                      rw [EA.out] at HMN
                      have HMH := Lib.hid HMN
                      have hcs := cnt_sub m hy0
                      rw [hq, hp] at hcs
                      have HCS := Lib.hid hcs
                      have hqp : q ≤ p := by omega
                      clear hk hy0 HX0 HX1 hV eY hq HMN hcs
                      rw [hp]
                      clear hp
                      go_wp2_with fail
                      refine HX.out.mono ?_
                      rintro e w4 ⟨rfl, hb⟩
                      have hb2 := hb.alloc hb.size (.cells #[.int .i64 y.f, .int .i64 y.t, .int .u8 y.k, .int .i64 y.g, .int .i64 y.s, .int .i64 y.b, .int .i64 y.p, .string V, .int .i64 y.i, .int .i64 y.tm] 25)
                      have HB2 := Lib.hid hb2
                      have hca4 := (hb.cell (p := ad.add i) (by have h1 := World.block_lt_of_cell? _ _ hca; exact h1)).trans hca
                      have hadl : (ad.add i).block < w4.heap.size := World.block_lt_of_cell? _ _ hca4
                      have hca5 := (World.cell?_alloc_lt w4 (.cells #[.int .i64 y.f, .int .i64 y.t, .int .u8 y.k, .int .i64 y.g, .int .i64 y.s, .int .i64 y.b, .int .i64 y.p, .string V, .int .i64 y.i, .int .i64 y.tm] 25) (ad.add i) hadl).trans hca4
                      have R5 := Lib.hid ((K3.out.below hb2).more hb2.size)
                      have KY := Lib.hid (Blk.new w4 25 #[.int .i64 y.f, .int .i64 y.t, .int .u8 y.k, .int .i64 y.g, .int .i64 y.s, .int .i64 y.b, .int .i64 y.p, .string V, .int .i64 y.i, .int .i64 y.tm])
                      have K10b := Lib.hid (K10.out.below hb2 K10.out.lt)
                      have K9b := Lib.hid (then_ K9.out hb2)
                      clear hb hb2
                      go_wp2_with fail
                      refine (HX2.out _ R5.out).mono ?_
                      rintro e w5 ⟨A3, c3, rfl, ho, hb⟩
                      have K10b2 := Lib.hid (K10b.out.below hb K10b.out.lt)
                      have KYb := Lib.hid (KY.out.below hb KY.out.lt)
                      have hb3 := hb.alloc hb.size (.cells #[.int .i64 y.f, .int .i64 y.t, .int .u8 y.k, .int .i64 y.g, .int .i64 y.s, .int .i64 y.b, .int .i64 y.p, .string V, .int .i64 y.i, .int .i64 y.tm] 25)
                      have K10c := Lib.hid (K10b.out.below hb3 K10b.out.lt)
                      have K9c := Lib.hid (then_ K9b.out hb3)
                      obtain ⟨A4, c4, e4, hr4, hc4, hm4⟩ := own_formN ho
                      injection e4 with e4 _ e5
                      subst e4 e5
                      unfold maxLen at hm4
                      have R7 := Lib.hid ((hr4.alloc (Nat.le_refl _) (.cells #[.int .i64 y.f, .int .i64 y.t, .int .u8 y.k, .int .i64 y.g, .int .i64 y.s, .int .i64 y.b, .int .i64 y.p, .string V, .int .i64 y.i, .int .i64 y.tm] 25)).more (B' := (w5.alloc (.cells #[.int .i64 y.f, .int .i64 y.t, .int .u8 y.k, .int .i64 y.g, .int .i64 y.s, .int .i64 y.b, .int .i64 y.p, .string V, .int .i64 y.i, .int .i64 y.tm] 25)).heap.size) (by simp))
                      have NY := new_mail w5 y
                      rw [EY.out] at NY
                      have NYH := Lib.hid NY
                      have hgw : w.heap.size < w5.heap.size := K10b2.out.lt
                      have g0 := K10b2.out.cell 0
                      have g1 := K10b2.out.cell 1
                      have g2 := K10b2.out.cell 2
                      have g3 := K10b2.out.cell 3
                      have g4 := K10b2.out.cell 4
                      have g5 := K10b2.out.cell 5
                      have g6 := K10b2.out.cell 6
                      have g7 := K10b2.out.cell 7
                      have g8 := K10b2.out.cell 8
                      have g9 := K10b2.out.cell 9
                      have h0 := KYb.out.cell 0
                      have h1 := KYb.out.cell 1
                      have h2 := KYb.out.cell 2
                      have h3 := KYb.out.cell 3
                      have h4 := KYb.out.cell 4
                      have h5 := KYb.out.cell 5
                      have h6 := KYb.out.cell 6
                      have h7 := KYb.out.cell 7
                      have h8 := KYb.out.cell 8
                      have h9 := KYb.out.cell 9
                      clear hb hb3 ho hr4 NY
                      go_wp2_with fail
                      with_reducible refine (HMH.out _ _ NYH.out).mono ?_
                      rintro e w6 ⟨rfl, hb⟩
                      have KF10 := Lib.hid (K10c.out.below hb K10c.out.lt)
                      have KF9 := Lib.hid (then_ K9c.out hb)
                      have R8 := Lib.hid ((R7.out.below hb).more hb.size)
                      clear hb
                      go_wp2_with fail
                      go_meet
                      exact ⟨_, A3, n1 - 1, c3, rfl, by congr 1; have := HCS.out; omega, R8.out, hc4, by omega, by omega, okMails_sub k K7.out, mem_sub k K8.out, KF9.out, KF10.out⟩
                case rest =>
                  have HK3 := Lib.hid hcut
                  clear hcut HK2
                  obtain ⟨L, A1, n1, c1, rfl, rfl, k3, k4, k5, k6, k7, k8, k9, k10⟩ := HK3.out
                  have HX := nmany_any A1 n1 c1 L m _ k3 (by omega) _ rfl
                  rw [EA.out] at HX
                  have HXX := Lib.hid HX
                  have HCK := Lib.hid (fun W hr => ncheck_any A1 n1 c1 L W true k7 hr k8 (by omega))
                  have K3 := Lib.hid k3
                  have y0 := k10.cell 0
                  have y1 := k10.cell 1
                  have y2 := k10.cell 2
                  have y3 := k10.cell 3
                  have y4 := k10.cell 4
                  have y5 := k10.cell 5
                  have y6 := k10.cell 6
                  have y7 := k10.cell 7
                  have y8 := k10.cell 8
                  have y9 := k10.cell 9
                  clear HX k3 k7 k8 k9 k10
                  go_wp2_with fail
                  refine HXX.out.mono ?_
                  rintro e w6 ⟨rfl, hb⟩
                  have KE := Lib.hid (HK3.out.below hb)
                  have R6 := Lib.hid ((K3.out.below hb).more hb.size)
                  clear hb y0 y1 y2 y3 y4 y5 y6 y7 y8 y9
                  go_wp2_with fail
                  refine (HCK.out _ R6.out).mono ?_
                  rintro e w7 ⟨rfl, hb⟩
                  have KE2 := Lib.hid (KE.out.below hb)
                  clear hb
                  go_wp2_with fail
                  go_roundw
                  case rel => exact ⟨i + 1, by go_num, by omega, KE2.out⟩
                  case measure => simp [intOf]; omega
            · obtain ⟨L, A1, n1, c1, rfl, rfl, h1, h2, h3, h4, h5, h6, h7, h8⟩ := HK.out
              have HB := Lib.hid h7
              clear h1 h2 h3 h4 h5 h6 h7 h8
              go_wp2
              go_ret
              exact ⟨rfl, HB.out⟩
theorem netKeeps_walk (A : Option Addr) (n c : Nat) (l : List Wp.Mail) (Am : Option Addr) (nm cm' : Nat) (more : List Wp.Mail) (Aa : Option Addr) (na ca : Nat) (acts : List Int) (f t k g s b p : Int) (u : ByteArray) (i tm : Int) (w : World) (hi : IsMails w A n c l) (hi2 : IsMails w Am nm cm' more) (hi3 : IsInts w Aa na ca acts) (h : IsMail f t k g s b p u i tm) :
    Calls Try.prog 3 #[.slice A n c, .slice Am nm cm', .slice Aa na ca, .agg #[.int .i64 f, .int .i64 t, .int .u8 k, .int .i64 g, .int .i64 s, .int .i64 b, .int .i64 p, .string u, .int .i64 i, .int .i64 tm]] w fun e w' => e = .returned (.bool true) ∧ Below w.heap.size w w' := by
  have := netKeeps_walkM A Am n c nm cm' l more Aa na ca acts _ w hi hi2 hi3 h.2
  rw [show mA ⟨f, t, k, g, s, b, p, u.data.toList, i, tm⟩ = #[.int .i64 f, .int .i64 t, .int .u8 k, .int .i64 g, .int .i64 s, .int .i64 b, .int .i64 p, .string u, .int .i64 i, .int .i64 tm] from by simp only [mA, S_of]] at this
  exact this
end Go.Proofs.Ytmchnjnknnolmaa
