/-
  The walk of LogMembers.
-/
import Derived.Test.YtaoekfgeggopbaaLogPl
import Derived.Test.YtaoekfgeggopbaaQuiet
import Derived.Test.YtaoekfgeggopbaaHeld2
import Derived.Test.YtaoekfgeggopbaaOpen
import Derived.Deep.DeepCutAuto
namespace Go.Proofs.Ytaoekfgeggopbaa
open Go.RowKit Go.Sort Go.BigFrame
set_option maxHeartbeats 16000000
set_option maxRecDepth 100000
set_option linter.unusedVariables false
set_option linter.unusedSimpArgs false

def IsGroup (w : World) (A : Option Addr) (n c : Nat) (l : List Int) (A' : Option Addr) (n' c' : Nat) (m : List Int) : Prop := IsInts w A n c l ∧ IsInts w A' n' c' m
theorem cellsGroup : Try.prog.cellsOf 52 = 2 := by kernel_rfl
open Go.ChangeShapes Go.WideShapes Go.Joins in
theorem open_group {H : Type} {enc : TypeId × Value → H} {w : World} {base : Nat} {spare : Nat → Bool} {held : Bool} {r : Reach} {b0 : Nat} {v : Value} {d : DataW H} {ps : List MemPlace}
    (hv : Value.okWide Try.prog w r b0 52 v) (h : DataW.Trod enc Try.prog w base spare held 52 v d ps) : ∃ (A : Option Addr) (n c : Nat) (l : List Int) (A' : Option Addr) (n' c' : Nat) (m : List Int), v = .agg #[.slice A n c, .slice A' n' c'] ∧ IsGroup w A n c l A' n' c' m := by
  obtain ⟨c0, c1, y0, y1, k, rfl, _, _, hy0, hy1⟩ := open_agg2 Try.underlying52 (by kernel_rfl) cellsGroup hv h
  obtain ⟨A, n, c, l, rfl, h0⟩ := ints_trod Try.underlying22 Try.underlying3 (by kernel_rfl) hy0
  obtain ⟨A', n', c', m, rfl, h1⟩ := ints_trod Try.underlying22 Try.underlying3 (by kernel_rfl) hy1
  exact ⟨A, n, c, l, A', n', c', m, rfl, h0, h1⟩
section
variable {P : Program} {md : Region.Mode} {ops : Array Oper} {Q : Exit → Act → World → Prop} {S : World → Prop} {n : Nat} {L : Array Bool → Act → World → Prop}
theorem T_oneL {i : Nat} {oi : Oper} {ri : List Oper} {f : Nat} {listed : Array Bool} {a : Act} {w : World} (hi : ops.toList.drop i = oi :: ri) (hB : oneB md ops n i listed = true)
    (h : wpList P ops (Qn Q (fun a' w' => S w' ∧ wpAnyT P md ops Q S n L f (listed.setIfInBounds i true) a' w')) [oi] a w) : wpAnyT P md ops Q S n L (f + 1) listed a w := T_one (at_of_drop hi) hB h
end
theorem logMembers_walk (A : Option Addr) (n c : Nat) (l : List Int) (A' : Option Addr) (n' c' : Nat) (m : List Int) (LA : Option Addr) (Ln Lc : Nat) (ls : List ByteArray) (D : HC) (w : World) (hg : IsInts w A n c l ∧ IsInts w A' n' c' m) (hl : IsStrs w LA Ln Lc ls) (hD : CmdAt w w.heap.size D) :
    Calls Try.prog 9 #[.agg #[.slice A n c, .slice A' n' c'], .slice LA Ln Lc, .agg #[.int .u8 D.k, .int .i64 D.mi, .slice D.GA D.Gn D.Gc, .int .i64 D.mt, .string D.key, .string D.body, .int .i64 D.i, .int .i64 D.tm, .slice D.MA D.Mn D.Mc, .int .i64 D.tp, .int .i64 D.who, .int .i64 D.n]] w fun e w' => e = .returned (.bool true) ∧ Below w.heap.size w w' := by
  obtain ⟨⟨hr, hc, hm, -⟩, ⟨hr', hc', hm', -⟩⟩ := hg
  obtain ⟨hlr, hlc, hlm, hlz⟩ := hl
  unfold maxLen at hm hm' hlm
  have B2 : Hid (Below w.heap.size w ((w.alloc (.cells #[.slice A n c, .slice A' n' c'] 52)).alloc (.cells #[.int .u8 D.k, .int .i64 D.mi, .slice D.GA D.Gn D.Gc, .int .i64 D.mt, .string D.key, .string D.body, .int .i64 D.i, .int .i64 D.tm, .slice D.MA D.Mn D.Mc, .int .i64 D.tp, .int .i64 D.who, .int .i64 D.n] 26))) := ((Below.refl _ _).alloc (Nat.le_refl _) _).alloc (by simp) _
  have KG : Hid (Blk ((w.alloc (.cells #[.slice A n c, .slice A' n' c'] 52)).alloc (.cells #[.int .u8 D.k, .int .i64 D.mi, .slice D.GA D.Gn D.Gc, .int .i64 D.mt, .string D.key, .string D.body, .int .i64 D.i, .int .i64 D.tm, .slice D.MA D.Mn D.Mc, .int .i64 D.tp, .int .i64 D.who, .int .i64 D.n] 26)) w.heap.size 52 #[.slice A n c, .slice A' n' c']) := (Blk.new w _ _).alloc _
  have KC : Hid (Blk ((w.alloc (.cells #[.slice A n c, .slice A' n' c'] 52)).alloc (.cells #[.int .u8 D.k, .int .i64 D.mi, .slice D.GA D.Gn D.Gc, .int .i64 D.mt, .string D.key, .string D.body, .int .i64 D.i, .int .i64 D.tm, .slice D.MA D.Mn D.Mc, .int .i64 D.tp, .int .i64 D.who, .int .i64 D.n] 26)) (w.heap.size + 1) 26 #[.int .u8 D.k, .int .i64 D.mi, .slice D.GA D.Gn D.Gc, .int .i64 D.mt, .string D.key, .string D.body, .int .i64 D.i, .int .i64 D.tm, .slice D.MA D.Mn D.Mc, .int .i64 D.tp, .int .i64 D.who, .int .i64 D.n]) := by
    have := Blk.new (w.alloc (.cells #[.slice A n c, .slice A' n' c'] 52)) 26 #[.int .u8 D.k, .int .i64 D.mi, .slice D.GA D.Gn D.Gc, .int .i64 D.mt, .string D.key, .string D.body, .int .i64 D.i, .int .i64 D.tm, .slice D.MA D.Mn D.Mc, .int .i64 D.tp, .int .i64 D.who, .int .i64 D.n]
    rwa [World.size_alloc] at this
  have HR := Lib.hid hr
  have HR' := Lib.hid hr'
  have HL := Lib.hid hlr
  have HZ := Lib.hid hlz
  have HD := Lib.hid hD
  clear hr hr' hlr hlz hD
  go_enter Try.func9, Try.ntmps9
  go_wp2_with fail
  generalize (w.alloc (.cells #[.slice A n c, .slice A' n' c'] 52)).alloc (.cells #[.int .u8 D.k, .int .i64 D.mi, .slice D.GA D.Gn D.Gc, .int .i64 D.mt, .string D.key, .string D.body, .int .i64 D.i, .int .i64 D.tm, .slice D.MA D.Mn D.Mc, .int .i64 D.tp, .int .i64 D.who, .int .i64 D.n] 26) = w2 at *
  refine (alive13_any _).mono ?_
  rintro e w3 ⟨rfl, hb⟩
  have B3 := Lib.hid (B2.out.trans (hb.mono B2.out.size))
  have KG3 := Lib.hid (KG.out.below hb KG.out.lt)
  have KC3 := Lib.hid (KC.out.below hb KC.out.lt)
  clear hb B2 KG KC
  go_wp2_with fail
  refine (great_any LA Ln Lc w.heap.size ls w3 (HL.out.below B3.out) (by omega)).mono ?_
  rintro e w4 ⟨⟨r, rfl, hgr⟩, rfl⟩
  have c4 := KC3.out.cell 4
  have c5 := KC3.out.cell 5
  have c2 := KC3.out.cell 2
  have c8 := KC3.out.cell 8
  cases r with
  | true => go_wp2; go_ret; exact ⟨rfl, B3.out⟩
  | false =>
  have hLn1000 := hgr rfl
  clear hgr
  by_cases q1 : 199 < Ln
  · go_wp2; go_ret; exact ⟨rfl, B3.out⟩
  by_cases q2 : 100 < D.Mn
  · go_wp2; go_ret; exact ⟨rfl, B3.out⟩
  by_cases q3 : 100 < D.Gn
  · go_wp2; go_ret; exact ⟨rfl, B3.out⟩
  have q3' : D.Gn ≤ 100 := by omega
  have q2' : D.Mn ≤ 100 := by omega
  have q1' : Ln ≤ 199 := by omega
  have g0 := KG3.out.cell 0
  have g1 := KG3.out.cell 1
  go_wp2_with fail
  · go_ret; exact ⟨rfl, B3.out⟩
  -- PART 2
  refine (lmembers_any A n c l A' n' c' m LA Ln Lc ls w3 ((HR.out.below B3.out).more B3.out.size) ((HR'.out.below B3.out).more B3.out.size) ((HL.out.below B3.out).more B3.out.size) (by omega) (by omega) (by omega) HZ.out).mono ?_
  rintro e w4 ⟨⟨R, k, rc, r, x, rfl, ho, hmm⟩, hb⟩
  have B4 := Lib.hid (B3.out.trans (hb.mono B3.out.size))
  have KG4 := Lib.hid (KG3.out.below hb KG3.out.lt)
  have KC4 := Lib.hid (KC3.out.below hb KC3.out.lt)
  have HO4 := Lib.hid ho
  have HM := Lib.hid hmm
  clear ho hmm hb B3 KG3 KC3 c4 c5 c2 c8 g0 g1
  obtain ⟨b, hb0⟩ : ∃ b, Cp.mayC D.cmd = b := ⟨_, rfl⟩
  have HB := Lib.hid hb0
  obtain ⟨U, hU⟩ : ∃ U, (if b = true then S (Cp.bytesC D.cmd) else (⟨#[]⟩ : ByteArray)) = U := ⟨_, rfl⟩
  have HU := Lib.hid hU
  clear hb0 hU
  have c0 := KC4.out.cell 0
  have c1 := KC4.out.cell 1
  have c2 := KC4.out.cell 2
  have c3 := KC4.out.cell 3
  have c4 := KC4.out.cell 4
  have c5 := KC4.out.cell 5
  have c6 := KC4.out.cell 6
  have c7 := KC4.out.cell 7
  have c8 := KC4.out.cell 8
  have c9 := KC4.out.cell 9
  have c10 := KC4.out.cell 10
  have c11 := KC4.out.cell 11
  go_wp2_with fail
  clear c0 c1 c2 c3 c4 c5 c6 c7 c8 c9 c10 c11
  refine (cwrite_any D w4 ((HD.out.below B4.out).more B4.out.size) b HB.out U HU.out).mono ?_
  rintro e w5 ⟨rfl, hb⟩
  have B5 := Lib.hid (B4.out.trans (hb.mono B4.out.size))
  have KG5 := Lib.hid (KG4.out.below hb KG4.out.lt)
  have KC5 := Lib.hid (KC4.out.below hb KC4.out.lt)
  have HO5 := Lib.hid (own_kept HO4.out hb)
  clear hb B4 KG4 KC4 HO4
  by_cases hx0 : x ≠ 0
  · obtain rfl := Lg.members_nil HM.out hx0
    obtain rfl : 0 = k := by have := (own_readsC HO5.out).len_i; simpa using this
    have q0 : (x == 0) = false := beq_eq_false_iff_ne.2 hx0
    cases b with
    | true => rw [show errK true = 0 from rfl]; go_wp2; go_ret; exact ⟨by simp, B5.out⟩
    | false => rw [show errK false = 120 from rfl]; go_wp2; go_ret; exact ⟨by simp, B5.out⟩
  obtain rfl : x = 0 := Decidable.not_not.1 hx0
  cases b with
  | false => rw [show errK false = 120 from rfl]; go_wp2; go_ret; exact ⟨by simp, B5.out⟩
  | true =>
  rw [show errK true = 0 from rfl]
  have HMAY := Lib.hid (Lg.members_may HM.out)
  have hk6 : k ≤ 6 := by have h1 := (own_readsC HO5.out).len_i; have h2 := (check_zero HMAY.out.1).2; omega
  have HN := Lib.hid (Lg.members_snoc HM.out (by rw [tx_len, HL.out.len_t]; omega) HB.out)
  have HRM : Hid (Reads w5 w5.heap.size 1 R k (ci r)) := own_readsC HO5.out
  have e0 := KC5.out.cell 0
  go_wp2_with fail
  have HT : Hid (∀ i z, D.mem[i]? = some z → ((D.k == 3) && (D.mem.take (i + 1)).all fun z => decide (z ∈ l)) = (((D.k == 3) && (D.mem.take i).all fun z => decide (z ∈ l)) && decide (z ∈ l))) := by
    intro i z hz
    rw [List.take_add_one, hz, List.all_append, Bool.and_assoc]
    simp
  have HDL : Hid (D.mem.length = D.Mn) := HD.out.rm.len_i
  clear e0
  go_loopw [12, 13] (fun y i wr => ∃ (j : Nat) (q : Bool), i = .int .i64 (j : Int) ∧ y = .bool q ∧ j ≤ D.Mn ∧ ((D.k == 3) && (D.mem.take j).all fun z => decide (z ∈ l)) = q ∧ Below w5.heap.size w5 wr) (fun _ i _ => D.Mn - (intOf i).toNat)
  case atStart => exact ⟨0, D.k == 3, rfl, rfl, Nat.zero_le _, by simp, Below.refl _ _⟩
  case round =>
    obtain ⟨j, q, rfl, rfl, hj, hq, hbw⟩ := hrel
    have KCW := Lib.hid (KC5.out.below hbw KC5.out.lt)
    have KGW := Lib.hid (KG5.out.below hbw KG5.out.lt)
    have BW := Lib.hid (B5.out.trans (hbw.mono B5.out.size))
    have HQ := Lib.hid hq
    have HBW := Lib.hid hbw
    clear hq hbw
    have f8 := KCW.out.cell 8
    by_cases hlt : j < D.Mn
    · obtain ⟨ad, u, hA, hbl, hu, hcc⟩ := (HD.out.rm.below BW.out).at_ hlt
      have hjl : j < D.mem.length := by rw [HDL.out]; exact hlt
      obtain ⟨z, hz⟩ : ∃ z, D.mem[j]? = some z := ⟨_, List.getElem?_eq_getElem hjl⟩
      rw [ci_get, hz] at hu
      simp only [Option.map_some, Option.some.injEq] at hu
      subst hu
      have HZ1 := Lib.hid (HT.out j z hz)
      rw [HQ.out] at HZ1
      obtain ⟨hq2, hhq2⟩ : ∃ q2, decide (z ∈ l) = q2 := ⟨_, rfl⟩
      rw [hhq2] at HZ1
      have FH := Lib.hid (qb_same (W := wr) fun cur ht => by
        have := qhas_any A n c w.heap.size l z cur ((HR.out.below BW.out).below (ht.mono BW.out.size)) (by
          have h1 := HR.out.len_i
          have h2 := (check_zero (cgroup_zero (Lg.members_parts HM.out).1).1).2
          omega)
        rw [hhq2] at this
        exact this)
      rw [hA] at f8
      clear hA hz
      have k0 := KGW.out.cell 0
      cases q with
      | true =>
        go_wp2_with fail
        have k0 := cell_regrown (KGW.out.cell 0)
        have f8 := cell_regrown f8
        have hcc := cell_regrown hcc
        refine wp_region_quiet_below (by kernel_rfl) (by kernel_rfl) ?_
        repeat (go_big_quiet_step ((first | with_reducible exact FH.out _ _)))
        refine wpQuiet_nil ?_
        intro _ hw'
        obtain ⟨⟨dq, osq⟩, hw''⟩ := hw'
        subst hw''
        go_wp2
        go_roundw
        case rel => exact ⟨j + 1, hq2, by go_num, by simp, by omega, by rw [HZ1.out]; simp, HBW.out.trans ((below_regrown _ _ _).mono HBW.out.size)⟩
        case measure => simp [intOf]; omega
      | false =>
        go_wp2_with fail
        have k0 := cell_regrown (KGW.out.cell 0)
        have f8 := cell_regrown f8
        have hcc := cell_regrown hcc
        refine wp_region_quiet_below (by kernel_rfl) (by kernel_rfl) ?_
        repeat (go_big_quiet_step ((first | with_reducible exact FH.out _ _)))
        refine wpQuiet_nil ?_
        intro _ hw'
        obtain ⟨⟨dq, osq⟩, hw''⟩ := hw'
        subst hw''
        go_wp2
        go_roundw
        case rel => exact ⟨j + 1, false, by go_num, by simp, by omega, by rw [HZ1.out]; simp, HBW.out.trans ((below_regrown _ _ _).mono HBW.out.size)⟩
        case measure => simp [intOf]; omega
    · obtain rfl : j = D.Mn := by omega
      have HIN : Hid (Lg.good l D.cmd = q) := by
        have h1 := HQ.out
        rw [List.take_of_length_le (by have := HDL.out; omega)] at h1
        rw [Hid, ← h1]
        show (D.k == 3 && !(D.mem.any fun x => !decide (x ∈ l))) = _
        rw [List.not_any_eq_all_not]
        simp
      clear HT HQ
      go_wp2_with fail
      go_loopw [14] (fun i wr => ∃ j : Nat, i = .int .i64 (j : Int) ∧ j ≤ k ∧ Below w5.heap.size w5 wr) (fun i _ => k - (intOf i).toNat)
      case atStart => exact ⟨0, rfl, Nat.zero_le _, HBW.out⟩
      case round =>
        obtain ⟨i, rfl, hi, hbw⟩ := hrel
        have HB2 := Lib.hid hbw
        have KG2 := Lib.hid (KG5.out.below hbw KG5.out.lt)
        have KC2 := Lib.hid (KC5.out.below hbw KC5.out.lt)
        have BW2 := Lib.hid (B5.out.trans (hbw.mono B5.out.size))
        have RM2 := Lib.hid (HRM.out.below hbw)
        clear hbw KCW KGW BW HBW f8
        by_cases hlt2 : i < k
        · obtain ⟨ad, u, hA, hbl, hu, hcc⟩ := RM2.out.at_ hlt2
          have hjl : i < r.length := by rw [RM2.out.len_i]; exact hlt2
          obtain ⟨z, hz⟩ : ∃ z, r[i]? = some z := ⟨_, List.getElem?_eq_getElem hjl⟩
          rw [ci_get, hz] at hu
          simp only [Option.map_some, Option.some.injEq] at hu
          subst hu
          have hzl := HMAY.out.2 z (List.mem_of_getElem? hz)
          have FH := Lib.hid (qb_same (W := wr) fun cur ht => by
            have := qhas_any A n c w.heap.size l z cur ((HR.out.below BW2.out).below (ht.mono BW2.out.size)) (by
              have h1 := HR.out.len_i
              have h2 := (check_zero (cgroup_zero (Lg.members_parts HM.out).1).1).2
              omega)
            rw [decide_eq_true hzl] at this
            exact this)
          subst hA
          clear hz hzl
          have k0 := KG2.out.cell 0
          go_wp2_with fail
          have k0 := cell_regrown (KG2.out.cell 0)
          have hcc := cell_regrown hcc
          refine wp_region_quiet_below (by kernel_rfl) (by kernel_rfl) ?_
          repeat (go_big_quiet_step ((first | with_reducible exact FH.out _ _)))
          refine wpQuiet_nil ?_
          intro _ hw'
          obtain ⟨⟨dq, osq⟩, hw''⟩ := hw'
          subst hw''
          go_wp2
          go_roundw
          case rel => exact ⟨i + 1, by go_num, by omega, HB2.out.trans ((below_regrown _ _ _).mono HB2.out.size)⟩
          case measure => simp [intOf]; omega
        · have k0 := KG2.out.cell 0
          have k1 := KG2.out.cell 1
          go_wp2_with fail
          have HS : Hid (wr.drew.cell? ⟨w.heap.size, 0, none⟩ = some (.slice A n c) ∧ wr.drew.cell? ⟨w.heap.size, 1, none⟩ = some (.slice A' n' c')) := ⟨k0, k1⟩
          refine T_region 11 (fun w' => w'.cell? ⟨w.heap.size, 0, none⟩ = some (.slice A n c) ∧ w'.cell? ⟨w.heap.size, 1, none⟩ = some (.slice A' n' c')) (by kernel_rfl) (by kernel_rfl) ?_
          refine T_takeL (i := 0) (v := ?_) rfl (by kernel_rfl) (fun _ _ _ h => h) (Or.inl ⟨by rfl, ?_⟩) HS.out ?_
          rotate_left
          · ((intro w hSw; (try dsimp only at hSw); go_simp) <;> with_reducible rfl)
          try simp only [Act.put, List.setIfInBounds_toArray, List.set_cons_zero, List.set_cons_succ]
          refine T_takeL (i := 1) (v := ?_) rfl (by kernel_rfl) (fun _ _ _ h => h) (Or.inl ⟨by rfl, ?_⟩) HS.out ?_
          rotate_left
          · ((intro w hSw; (try dsimp only at hSw); go_simp) <;> with_reducible rfl)
          try simp only [Act.put, List.setIfInBounds_toArray, List.set_cons_zero, List.set_cons_succ]
          refine T_takeL (i := 3) (v := ?_) rfl (by kernel_rfl) (fun _ _ _ h => h) (Or.inl ⟨by rfl, ?_⟩) HS.out ?_
          rotate_left
          · ((intro w hSw; (try dsimp only at hSw); go_simp) <;> with_reducible rfl)
          try simp only [Act.put, List.setIfInBounds_toArray, List.set_cons_zero, List.set_cons_succ]
          replace KG2 := Lib.hid KG2.out.drew
          replace KC2 := Lib.hid KC2.out.drew
          replace HB2 := Lib.hid HB2.out.drew
          replace BW2 := Lib.hid BW2.out.drew
          generalize wr.drew = W at *
          clear HS k0 k1 RM2
          refine T_two (i := 2) (j := 4) rfl rfl (by kernel_rfl) ?_ ?_
          · -- the copy first
            go_wp2_with (at_builtin; refine app_tx rfl (.const (.slice none 0 0)) (.tmp 118) rfl W.heap.size (.slice none 0 0) 0 [] rfl (World.ownsRow_nil _ _ _ _) w.heap.size LA Ln Lc ls rfl (HL.out.below BW2.out) (by omega) (Nat.le_refl _) ?_)
            intro v9 w9 o9 g9
            have G9 := Lib.hid (g9.below (Nat.le_refl _) (by simp [Value.ownBlock]))
            have O9 : Hid (w9.ownsRow W.heap.size 9 1 v9 Ln (ct ls)) := by simpa [Hid] using o9
            clear o9 g9
            obtain ⟨A9, c9, rfl⟩ := own_shapeC O9.out
            have KG9 := Lib.hid (KG2.out.below G9.out KG2.out.lt)
            go_wp2_with fail
            simp only [Qn]
            refine ⟨⟨KG9.out.cell 0, KG9.out.cell 1⟩, ?_⟩
            refine T_oneL (i := 4) rfl (by kernel_rfl) ?_
            go_wp2_with fail
            simp only [Qn]
            refine ⟨⟨(KG9.out.alloc _).cell 0, (KG9.out.alloc _).cell 1⟩, ?_⟩
            have HS9 := Lib.hid ((newS w9 [U] #[.string U] rfl).more (B' := (w9.alloc (.cells #[.string U] 9)).heap.size) (by simp))
            have G10 := Lib.hid (G9.out.alloc G9.out.size (.cells #[.string U] 9))
            have O10 := Lib.hid (own_kept O9.out ((Below.refl w9.heap.size w9).alloc (Nat.le_refl _) (.cells #[.string U] 9)))
            obtain ⟨g10, hg10⟩ : ∃ g, w9.heap.size = g := ⟨_, rfl⟩
            rw [hg10] at HS9 ⊢
            generalize w9.alloc (.cells #[.string U] 9) = w10 at *
            clear KG9 G9 O9 hg10
            refine T_oneL (i := 5) rfl (by kernel_rfl) ?_
            go_wp2_with (at_builtin; refine app_tx rfl (.tmp 119) (.tmp 121) rfl W.heap.size (.slice A9 Ln c9) Ln ls rfl O10.out w10.heap.size (some ⟨g10, 0, none⟩) 1 1 [U] rfl HS9.out (by omega) G10.out.size ?_)
            intro v11 w11 o11 g11
            have G11 := Lib.hid (G10.out.trans (g11.below G10.out.size (fun q hq => (O10.out.lt q hq).1)))
            have O11 := Lib.hid o11
            clear o11 g11
            obtain ⟨A11, c11, rfl⟩ := own_shapeC O11.out
            have KG11 := Lib.hid (KG2.out.below G11.out KG2.out.lt)
            go_wp2_with fail
            simp only [Qn]
            refine ⟨⟨KG11.out.cell 0, KG11.out.cell 1⟩, ?_⟩
            refine T_oneL (i := 6) rfl (by kernel_rfl) ?_
            have BF := Lib.hid (BW2.out.trans (G11.out.mono BW2.out.size))
            have B5F := Lib.hid (HB2.out.trans (G11.out.mono HB2.out.size))
            have HTX : Hid (tx (ls ++ [U]) = tx ls ++ [Cp.bytesC D.cmd]) := by
              have h1 : S (Cp.bytesC D.cmd) = U := by simpa using HU.out
              rw [Hid, ← h1, tx, List.map_append]
              rfl
            have HZU : Hid (∀ s ∈ ls ++ [U], s.size ≤ maxLen) := by
              intro s hs
              rcases List.mem_append.1 hs with hs | hs
              · exact HZ.out s hs
              · obtain rfl := List.mem_singleton.1 hs
                have h1 : S (Cp.bytesC D.cmd) = s := by simpa using HU.out
                rw [← h1, S_size]
                have := (Cp.bytesC_len HB.out).2
                unfold maxLen; omega
            go_wp2_with fail
            refine (lmembers_any A n c l A' n' c' m A11 (Ln + 1) c11 (ls ++ [U]) w11 ((HR.out.below BF.out).more BF.out.size) ((HR'.out.below BF.out).more BF.out.size) (own_readsC O11.out) (by omega) (by omega) (by omega) HZU.out).mono ?_
            rintro e w12 ⟨⟨R2, k2, rc2, r2, x2, rfl, ho2, hm2⟩, hb⟩
            rw [HTX.out, HN.out] at hm2
            injection hm2 with hm3 hm4
            subst hm4
            have B12 := Lib.hid (BF.out.trans (hb.mono BF.out.size))
            have B512 := Lib.hid (B5F.out.trans (hb.mono B5F.out.size))
            have HO12 := Lib.hid (own_readsC ho2)
            have HR12 := Lib.hid (HRM.out.below B512.out)
            have KC12 := Lib.hid (KC5.out.below B512.out KC5.out.lt)
            have HM3 := Lib.hid hm3
            have hk2 : k2 ≤ 9223372036854775807 := by have := own_cap ho2; unfold maxLen at this; omega
            have HCK := Lib.hid (qcheck_any R k rc _ r w12 HR12.out (by omega))
            rw [HMAY.out.1] at HCK
            have f8 := KC12.out.cell 8
            clear ho2 hb hm3 O10 HS9 G10 O11 G11 BF B5F
            rw [HIN.out] at HM3
            have KG12 := Lib.hid (KG5.out.below B512.out KG5.out.lt)
            go_wp2_with fail
            simp only [Qn]
            refine ⟨⟨KG12.out.cell 0, KG12.out.cell 1⟩, ?_⟩
            have HS12 : Hid (w12.cell? ⟨w.heap.size, 0, none⟩ = some (.slice A n c) ∧ w12.cell? ⟨w.heap.size, 1, none⟩ = some (.slice A' n' c')) := ⟨KG12.out.cell 0, KG12.out.cell 1⟩
            refine T_takeL (i := 7) (v := ?_) rfl (by kernel_rfl) (fun _ _ _ h => h) (Or.inl ⟨by rfl, ?_⟩) HS12.out ?_
            rotate_left
            · ((intro w hSw; (try dsimp only at hSw); go_simp) <;> with_reducible rfl)
            try simp only [Act.put, List.setIfInBounds_toArray, List.set_cons_zero, List.set_cons_succ]
            refine T_takeL (i := 8) (v := ?_) rfl (by kernel_rfl) (fun _ _ _ h => h) (Or.inl ⟨by rfl, ?_⟩) HS12.out ?_
            rotate_left
            · ((intro w hSw; (try dsimp only at hSw); go_simp) <;> with_reducible rfl)
            try simp only [Act.put, List.setIfInBounds_toArray, List.set_cons_zero, List.set_cons_succ]
            refine T_takeL (i := 9) (v := ?_) rfl (by kernel_rfl) (fun _ _ _ h => h) (Or.inl ⟨by rfl, ?_⟩) HS12.out ?_
            rotate_left
            · ((intro w hSw; (try dsimp only at hSw); go_simp) <;> with_reducible rfl)
            try simp only [Act.put, List.setIfInBounds_toArray, List.set_cons_zero, List.set_cons_succ]
            refine T_takeL (i := 10) (v := ?_) rfl (by kernel_rfl) (fun _ _ _ h => h) (Or.inl ⟨by rfl, ?_⟩) HS12.out ?_
            rotate_left
            · ((intro w hSw; (try dsimp only at hSw); go_simp) <;> with_reducible rfl)
            try simp only [Act.put, List.setIfInBounds_toArray, List.set_cons_zero, List.set_cons_succ]
            refine T_end (by kernel_rfl) ?_
            cases q with
            | true =>
              have HEQ := Lib.hid (rsameInts_any R2 k2 rc2 D.MA D.Mn D.Mc _ _ r2 D.mem w12 HO12.out (HD.out.rm.below B12.out) hk2 (by omega) true (decide_eq_true (by have := HM3.out; rw [if_pos rfl] at this; exact this.symm)))
              go_wp2_with (first | (go_at_call 44; refine HCK.out.mono ?_; rintro e w' ⟨rfl, rfl⟩))
              refine HEQ.out.mono ?_
              rintro e w13 ⟨rfl, qq, rfl⟩
              go_wp2
              go_ret
              exact ⟨rfl, below_drewN B12.out qq⟩
            | false =>
              have HEQ := Lib.hid (rsameInts_any R2 k2 rc2 R k rc _ _ r2 r w12 HO12.out HR12.out hk2 (by omega) true (decide_eq_true (by have := HM3.out; rw [if_neg (by decide)] at this; exact this.symm)))
              go_wp2_with (first | (go_at_call 44; refine HCK.out.mono ?_; rintro e w' ⟨rfl, rfl⟩))
              refine HEQ.out.mono ?_
              rintro e w13 ⟨rfl, qq, rfl⟩
              go_wp2
              go_ret
              exact ⟨rfl, below_drewN B12.out qq⟩
          · go_wp2_with fail
            have HS9 := Lib.hid ((newS W [U] #[.string U] rfl).more (B' := (W.alloc (.cells #[.string U] 9)).heap.size) (by simp))
            have G8 := Lib.hid ((Below.refl W.heap.size W).alloc (Nat.le_refl _) (.cells #[.string U] 9))
            obtain ⟨g10, hg10⟩ : ∃ g, W.heap.size = g := ⟨_, rfl⟩
            simp only [Qn]
            have KG8 := Lib.hid (KG2.out.alloc (.cells #[.string U] 9))
            refine ⟨⟨KG8.out.cell 0, KG8.out.cell 1⟩, ?_⟩
            refine T_oneL (i := 2) rfl (by kernel_rfl) ?_
            generalize W.alloc (.cells #[.string U] 9) = w8 at *
            rw [hg10] at HS9 ⊢
            go_wp2_with (at_builtin; refine app_tx rfl (.const (.slice none 0 0)) (.tmp 118) rfl W.heap.size (.slice none 0 0) 0 [] rfl (World.ownsRow_nil _ _ _ _) w.heap.size LA Ln Lc ls rfl ((HL.out.below BW2.out).below (G8.out.mono BW2.out.size)) (by omega) G8.out.size ?_)
            intro v9 w10 o9 g9
            have GB := Lib.hid (g9.below (Nat.le_refl _) (by simp [Value.ownBlock]))
            have G10 := Lib.hid (G8.out.trans (GB.out.mono G8.out.size))
            have O10 : Hid (w10.ownsRow W.heap.size 9 1 v9 Ln (ct ls)) := by have h := o9; simp only [List.nil_append, Nat.zero_add, ← hg10] at h; first | exact h | (rw [hg10]; exact h) | simpa [hg10] using h
            clear o9 g9
            obtain ⟨A9, c9, rfl⟩ := own_shapeC O10.out
            have KG9 := Lib.hid (KG8.out.below GB.out KG8.out.lt)
            replace HS9 := Lib.hid ((HS9.out.below GB.out).more GB.out.size)
            go_wp2_with fail
            simp only [Qn]
            refine ⟨⟨KG9.out.cell 0, KG9.out.cell 1⟩, ?_⟩
            clear KG9 GB G8 KG8 hg10
            refine T_oneL (i := 5) rfl (by kernel_rfl) ?_
            go_wp2_with (at_builtin; refine app_tx rfl (.tmp 119) (.tmp 121) rfl W.heap.size (.slice A9 Ln c9) Ln ls rfl O10.out w10.heap.size (some ⟨g10, 0, none⟩) 1 1 [U] rfl HS9.out (by omega) G10.out.size ?_)
            intro v11 w11 o11 g11
            have G11 := Lib.hid (G10.out.trans (g11.below G10.out.size (fun q hq => (O10.out.lt q hq).1)))
            have O11 := Lib.hid o11
            clear o11 g11
            obtain ⟨A11, c11, rfl⟩ := own_shapeC O11.out
            have KG11 := Lib.hid (KG2.out.below G11.out KG2.out.lt)
            go_wp2_with fail
            simp only [Qn]
            refine ⟨⟨KG11.out.cell 0, KG11.out.cell 1⟩, ?_⟩
            refine T_oneL (i := 6) rfl (by kernel_rfl) ?_
            have BF := Lib.hid (BW2.out.trans (G11.out.mono BW2.out.size))
            have B5F := Lib.hid (HB2.out.trans (G11.out.mono HB2.out.size))
            have HTX : Hid (tx (ls ++ [U]) = tx ls ++ [Cp.bytesC D.cmd]) := by
              have h1 : S (Cp.bytesC D.cmd) = U := by simpa using HU.out
              rw [Hid, ← h1, tx, List.map_append]
              rfl
            have HZU : Hid (∀ s ∈ ls ++ [U], s.size ≤ maxLen) := by
              intro s hs
              rcases List.mem_append.1 hs with hs | hs
              · exact HZ.out s hs
              · obtain rfl := List.mem_singleton.1 hs
                have h1 : S (Cp.bytesC D.cmd) = s := by simpa using HU.out
                rw [← h1, S_size]
                have := (Cp.bytesC_len HB.out).2
                unfold maxLen; omega
            go_wp2_with fail
            refine (lmembers_any A n c l A' n' c' m A11 (Ln + 1) c11 (ls ++ [U]) w11 ((HR.out.below BF.out).more BF.out.size) ((HR'.out.below BF.out).more BF.out.size) (own_readsC O11.out) (by omega) (by omega) (by omega) HZU.out).mono ?_
            rintro e w12 ⟨⟨R2, k2, rc2, r2, x2, rfl, ho2, hm2⟩, hb⟩
            rw [HTX.out, HN.out] at hm2
            injection hm2 with hm3 hm4
            subst hm4
            have B12 := Lib.hid (BF.out.trans (hb.mono BF.out.size))
            have B512 := Lib.hid (B5F.out.trans (hb.mono B5F.out.size))
            have HO12 := Lib.hid (own_readsC ho2)
            have HR12 := Lib.hid (HRM.out.below B512.out)
            have KC12 := Lib.hid (KC5.out.below B512.out KC5.out.lt)
            have HM3 := Lib.hid hm3
            have hk2 : k2 ≤ 9223372036854775807 := by have := own_cap ho2; unfold maxLen at this; omega
            have HCK := Lib.hid (qcheck_any R k rc _ r w12 HR12.out (by omega))
            rw [HMAY.out.1] at HCK
            have f8 := KC12.out.cell 8
            clear ho2 hb hm3 O10 HS9 G10 O11 G11 BF B5F
            rw [HIN.out] at HM3
            have KG12 := Lib.hid (KG5.out.below B512.out KG5.out.lt)
            go_wp2_with fail
            simp only [Qn]
            refine ⟨⟨KG12.out.cell 0, KG12.out.cell 1⟩, ?_⟩
            have HS12 : Hid (w12.cell? ⟨w.heap.size, 0, none⟩ = some (.slice A n c) ∧ w12.cell? ⟨w.heap.size, 1, none⟩ = some (.slice A' n' c')) := ⟨KG12.out.cell 0, KG12.out.cell 1⟩
            refine T_takeL (i := 7) (v := ?_) rfl (by kernel_rfl) (fun _ _ _ h => h) (Or.inl ⟨by rfl, ?_⟩) HS12.out ?_
            rotate_left
            · ((intro w hSw; (try dsimp only at hSw); go_simp) <;> with_reducible rfl)
            try simp only [Act.put, List.setIfInBounds_toArray, List.set_cons_zero, List.set_cons_succ]
            refine T_takeL (i := 8) (v := ?_) rfl (by kernel_rfl) (fun _ _ _ h => h) (Or.inl ⟨by rfl, ?_⟩) HS12.out ?_
            rotate_left
            · ((intro w hSw; (try dsimp only at hSw); go_simp) <;> with_reducible rfl)
            try simp only [Act.put, List.setIfInBounds_toArray, List.set_cons_zero, List.set_cons_succ]
            refine T_takeL (i := 9) (v := ?_) rfl (by kernel_rfl) (fun _ _ _ h => h) (Or.inl ⟨by rfl, ?_⟩) HS12.out ?_
            rotate_left
            · ((intro w hSw; (try dsimp only at hSw); go_simp) <;> with_reducible rfl)
            try simp only [Act.put, List.setIfInBounds_toArray, List.set_cons_zero, List.set_cons_succ]
            refine T_takeL (i := 10) (v := ?_) rfl (by kernel_rfl) (fun _ _ _ h => h) (Or.inl ⟨by rfl, ?_⟩) HS12.out ?_
            rotate_left
            · ((intro w hSw; (try dsimp only at hSw); go_simp) <;> with_reducible rfl)
            try simp only [Act.put, List.setIfInBounds_toArray, List.set_cons_zero, List.set_cons_succ]
            refine T_end (by kernel_rfl) ?_
            cases q with
            | true =>
              have HEQ := Lib.hid (rsameInts_any R2 k2 rc2 D.MA D.Mn D.Mc _ _ r2 D.mem w12 HO12.out (HD.out.rm.below B12.out) hk2 (by omega) true (decide_eq_true (by have := HM3.out; rw [if_pos rfl] at this; exact this.symm)))
              go_wp2_with (first | (go_at_call 44; refine HCK.out.mono ?_; rintro e w' ⟨rfl, rfl⟩))
              refine HEQ.out.mono ?_
              rintro e w13 ⟨rfl, qq, rfl⟩
              go_wp2
              go_ret
              exact ⟨rfl, below_drewN B12.out qq⟩
            | false =>
              have HEQ := Lib.hid (rsameInts_any R2 k2 rc2 R k rc _ _ r2 r w12 HO12.out HR12.out hk2 (by omega) true (decide_eq_true (by have := HM3.out; rw [if_neg (by decide)] at this; exact this.symm)))
              go_wp2_with (first | (go_at_call 44; refine HCK.out.mono ?_; rintro e w' ⟨rfl, rfl⟩))
              refine HEQ.out.mono ?_
              rintro e w13 ⟨rfl, qq, rfl⟩
              go_wp2
              go_ret
              exact ⟨rfl, below_drewN B12.out qq⟩
end Go.Proofs.Ytaoekfgeggopbaa
