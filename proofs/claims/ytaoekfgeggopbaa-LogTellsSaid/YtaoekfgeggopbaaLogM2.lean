/-
  Several texts joined: LogRef, LogRefG, LogTells.
-/
import Derived.Test.YtaoekfgeggopbaaLogM1
import Derived.Test.YtaoekfgeggopbaaCmdM1
import Derived.Test.YtaoekfgeggopbaaQuiet
import Derived.Test.YtaoekfgeggopbaaQuorumRefG
import Derived.Test.YtaoekfgeggopbaaAppI
import Derived.Test.YtaoekfgeggopbaaHeld2
import Derived.Test.YtaoekfgeggopbaaOpen
namespace Go.Proofs.Ytaoekfgeggopbaa
open Go.RowKit Go.Sort Go.BigFrame
set_option maxHeartbeats 8000000
set_option maxRecDepth 100000
set_option linter.unusedVariables false
set_option linter.unusedSimpArgs false

theorem rcheck13_any (A : Option Addr) (n c B : Nat) (ls : List ByteArray) (w : World) (hr : Reads w B 1 A n (ct ls)) (hB : B ≤ w.heap.size) (hn : n ≤ 9223372036854775807) (hz : ∀ s ∈ ls, s.size ≤ maxLen) (x : Int) (hx : (Lg.cmdsX (tx ls)).2 = x) :
    Calls Try.prog 39 #[.slice A n c] w fun e w' => e = .returned (.int .i64 x) ∧ Below w.heap.size w w' := by
  have hl := hr.len_t
  obtain ⟨L, hL⟩ : ∃ L, tx ls = L := ⟨_, rfl⟩
  have hLl : L.length = n := by rw [← hL, tx_len, hl]
  rw [hL] at hx
  have HLL := Lib.hid hLl
  have HL := Lib.hid hL
  have HR := Lib.hid hr
  have HZ := Lib.hid hz
  have Hl := Lib.hid hl
  have HX := Lib.hid hx
  clear hr hl hz hL hLl hx
  by_cases hbig : (200 : Int) < (n : Int)
  · have h4 := HX.out
    rw [Lg.cmdsX_long (ls := L) (by have := HLL.out; omega)] at h4
    obtain rfl : 4 = x := h4
    go_enter Try.func39, Try.ntmps39
    go_wp2
    go_ret
    exact ⟨rfl, Below.refl _ _⟩
  go_enter Try.func39, Try.ntmps39
  go_wp2_with fail
  go_loopw [3] (fun y wr => ∃ (k : Nat) (q : List Cp.Cmd), y = .int .i64 (k : Int) ∧ k ≤ n ∧ Below w.heap.size w wr ∧ Lg.all L = (Lg.all (L.drop k)).map (q ++ ·)) (fun y _ => n - (intOf y).toNat)
  case atStart => exact ⟨0, [], rfl, Nat.zero_le _, Below.refl _ _, by simp⟩
  case round =>
    obtain ⟨k, q, rfl, hk, hb, he⟩ := hrel
    have HB := Lib.hid hb
    have HE := Lib.hid he
    clear hb he
    by_cases hlt : k < n
    · obtain ⟨ad, u, rfl, hbl, hu, hc⟩ := HR.out.at_ hlt
      have hkl : k < ls.length := by rw [Hl.out]; exact hlt
      have hg : ls[k]? = some (ls[k]'hkl) := List.getElem?_eq_getElem hkl
      obtain ⟨s, hs⟩ : ∃ s, ls[k]'hkl = s := ⟨_, rfl⟩
      rw [hs] at hg
      rw [ct_get, hg] at hu
      simp only [Option.map_some, Option.some.injEq] at hu
      subst hu
      have hcw := (HB.out.cell (p := ad.add k) (by rw [block_of_add]; omega)).trans hc
      have HSZ := Lib.hid (HZ.out s (List.mem_of_getElem? hg))
      have HGL : Hid (L.drop k = s.data.toList :: L.drop (k + 1)) := by
        have hkL : k < L.length := by rw [HLL.out]; exact hlt
        rw [Hid, List.drop_eq_getElem_cons hkL]
        have : L[k] = s.data.toList := by
          have h1 : L[k]? = some (s.data.toList) := by rw [← HL.out, tx, List.getElem?_map, hg]; rfl
          rw [List.getElem?_eq_getElem hkL] at h1
          injection h1
        rw [this]
      clear hg hs hc hkl
      go_wp2_with fail
      refine (rread12_any s s.data.toList wr HSZ.out rfl).mono ?_
      rintro e w1 ⟨D, x1, rfl, hx, hoD, hb⟩
      have HX1 := Lib.hid hx
      have HB1 := Lib.hid ((HB.out.trans (hb.mono HB.out.size)).alloc (by have := HB.out.size; have := hb.size; omega) (.cells #[.int .u8 D.k, .int .i64 D.mi, .slice D.GA D.Gn D.Gc, .int .i64 D.mt, .string D.key, .string D.body, .int .i64 D.i, .int .i64 D.tm, .slice D.MA D.Mn D.Mc, .int .i64 D.tp, .int .i64 D.who, .int .i64 D.n] 26))
      clear hx hoD hb hcw HB
      by_cases hx0 : x1 = 0
      · subst hx0
        have HE4 : Hid (Lg.all L = (Lg.all (L.drop (k + 1))).map ((q ++ [D.cmd]) ++ ·)) := by
          have hx := HX1.out
          rw [Hid, HE.out, HGL.out, Lg.all_cons_ok (by rw [← hx]), ← hx]
          cases Lg.all (L.drop (k + 1)) with
          | none => rfl
          | some q => simp
        go_wp2
        go_roundw
        case rel => exact ⟨k + 1, q ++ [D.cmd], by go_num, by omega, HB1.out, HE4.out⟩
        case measure => simp [intOf]; omega
      · have HX2 : Hid (8 = x) := by
          have hx := HX1.out
          have h := HX.out
          rw [Lg.cmdsX_none (by have := HLL.out; omega) (by rw [HE.out, HGL.out, Lg.all_cons_bad (by rw [← hx]; exact hx0)]; rfl)] at h
          exact h
        have q0 : (x1 == 0) = false := beq_eq_false_iff_ne.2 hx0
        go_wp2
        go_ret
        rw [← HX2.out]
        exact ⟨rfl, HB1.out⟩
    · have HK : Hid (0 = x) := by
        have h1 := HE.out
        rw [List.drop_eq_nil_of_le (by have := HLL.out; omega)] at h1
        have h := HX.out
        rw [Lg.cmdsX_some (l := q) (by have := HLL.out; omega) (by rw [h1]; simp [Lg.all])] at h
        exact h
      go_wp2
      go_ret
      rw [← HK.out]
      exact ⟨rfl, HB.out⟩

theorem rall13_any (A : Option Addr) (n c B : Nat) (ls : List ByteArray) (w : World) (hr : Reads w B 1 A n (ct ls)) (hB : B ≤ w.heap.size) (hn : n ≤ 9223372036854775807) (hz : ∀ s ∈ ls, s.size ≤ maxLen) (cs : List Cp.Cmd) (hx : Lg.cmdsX (tx ls) = (cs, 0)) :
    Calls Try.prog 57 #[.slice A n c] w fun e w' => ∃ (ds : List HC) (R : Option Addr) (rc : Nat), e = .returned (.slice R ds.length rc) ∧ w'.ownsRow w.heap.size 26 12 (.slice R ds.length rc) ds.length (cc ds) ∧ (∀ D ∈ ds, OwnC w' w.heap.size D) ∧ ds.map HC.cmd = cs ∧ Below w.heap.size w w' := by
  have hl := hr.len_t
  obtain ⟨L, hL⟩ : ∃ L, tx ls = L := ⟨_, rfl⟩
  have hLl : L.length = n := by rw [← hL, tx_len, hl]
  rw [hL] at hx
  have hok := Lg.cmdsX_ok hx
  have hcl := Lg.all_len hok.2
  have hn2 : n ≤ 200 := by omega
  have HLL := Lib.hid hLl
  have HL := Lib.hid hL
  have HR := Lib.hid hr
  have HZ := Lib.hid hz
  have Hl := Lib.hid hl
  have HA := Lib.hid hok.2
  clear hr hl hz hL hLl hx hok hcl
  go_enter Try.func57, Try.ntmps57
  go_wp2_with fail
  go_loopw [3, 4] (fun x y wr => ∃ (k : Nat) (ds : List HC), y = .int .i64 (k : Int) ∧ k ≤ n ∧ ds.length = k ∧ wr.ownsRow w.heap.size 26 12 x k (cc ds) ∧ (∀ D ∈ ds, OwnC wr w.heap.size D) ∧ Below w.heap.size w wr ∧ Lg.all L = (Lg.all (L.drop k)).map (ds.map HC.cmd ++ ·)) (fun _ y _ => n - (intOf y).toNat)
  case atStart => exact ⟨0, [], rfl, Nat.zero_le _, rfl, World.ownsRow_nil _ _ _ _, by simp, Below.refl _ _, by simp⟩
  case round =>
    obtain ⟨k, ds, rfl, hk, hdl, ho, hd, hb, he⟩ := hrel
    have HO := Lib.hid ho
    have HD := Lib.hid hd
    have HB := Lib.hid hb
    have HE := Lib.hid he
    have HDL := Lib.hid hdl
    obtain ⟨A2, c2, rfl⟩ := own_shapeC ho
    clear ho hd hb he hdl
    by_cases hlt : k < n
    · obtain ⟨ad, u, rfl, hbl, hu, hc⟩ := HR.out.at_ hlt
      have hkl : k < ls.length := by rw [Hl.out]; exact hlt
      have hg : ls[k]? = some (ls[k]'hkl) := List.getElem?_eq_getElem hkl
      obtain ⟨s, hs⟩ : ∃ s, ls[k]'hkl = s := ⟨_, rfl⟩
      rw [hs] at hg
      rw [ct_get, hg] at hu
      simp only [Option.map_some, Option.some.injEq] at hu
      subst hu
      have hcw := (HB.out.cell (p := ad.add k) (by rw [block_of_add]; omega)).trans hc
      have HSZ := Lib.hid (HZ.out s (List.mem_of_getElem? hg))
      have HGL : Hid (L.drop k = s.data.toList :: L.drop (k + 1)) := by
        have hkL : k < L.length := by rw [HLL.out]; exact hlt
        rw [Hid, List.drop_eq_getElem_cons hkL]
        have : L[k] = s.data.toList := by
          have h1 : L[k]? = some (s.data.toList) := by rw [← HL.out, tx, List.getElem?_map, hg]; rfl
          rw [List.getElem?_eq_getElem hkL] at h1
          injection h1
        rw [this]
      clear hg hs hc hkl
      go_wp2_with fail
      refine (rread12_any s s.data.toList wr HSZ.out rfl).mono ?_
      rintro e w1 ⟨D, x, rfl, hx, hoD, hb⟩
      have HX0 : Hid (x = 0 ∧ Lg.all (L.drop k) = (Lg.all (L.drop (k + 1))).map (D.cmd :: ·)) := by
        by_cases hx0 : x = 0
        · subst hx0
          refine ⟨rfl, ?_⟩
          rw [HGL.out, Lg.all_cons_ok (by rw [← hx]), ← hx]
        · have h := HE.out
          rw [HA.out, HGL.out, Lg.all_cons_bad (by rw [← hx]; exact hx0)] at h
          cases h
      obtain ⟨hx00, hx01⟩ := HX0.out
      subst hx00
      have HX1 := Lib.hid hx01
      clear HX0 hx01 hx
      have HOD := Lib.hid ((hoD.mono HB.out.size).below ((Below.refl w1.heap.size w1).alloc (Nat.le_refl _) (.cells #[.int .u8 D.k, .int .i64 D.mi, .slice D.GA D.Gn D.Gc, .int .i64 D.mt, .string D.key, .string D.body, .int .i64 D.i, .int .i64 D.tm, .slice D.MA D.Mn D.Mc, .int .i64 D.tp, .int .i64 D.who, .int .i64 D.n] 26)))
      have HO1 := Lib.hid (own_kept (own_kept HO.out hb) ((Below.refl w1.heap.size w1).alloc (Nat.le_refl _) (.cells #[.int .u8 D.k, .int .i64 D.mi, .slice D.GA D.Gn D.Gc, .int .i64 D.mt, .string D.key, .string D.body, .int .i64 D.i, .int .i64 D.tm, .slice D.MA D.Mn D.Mc, .int .i64 D.tp, .int .i64 D.who, .int .i64 D.n] 26)))
      have HD1 : Hid (∀ E ∈ ds, OwnC (w1.alloc (.cells #[.int .u8 D.k, .int .i64 D.mi, .slice D.GA D.Gn D.Gc, .int .i64 D.mt, .string D.key, .string D.body, .int .i64 D.i, .int .i64 D.tm, .slice D.MA D.Mn D.Mc, .int .i64 D.tp, .int .i64 D.who, .int .i64 D.n] 26)) w.heap.size E) := fun E hE => ((HD.out E hE).below hb).below ((Below.refl w1.heap.size w1).alloc (Nat.le_refl _) (.cells #[.int .u8 D.k, .int .i64 D.mi, .slice D.GA D.Gn D.Gc, .int .i64 D.mt, .string D.key, .string D.body, .int .i64 D.i, .int .i64 D.tm, .slice D.MA D.Mn D.Mc, .int .i64 D.tp, .int .i64 D.who, .int .i64 D.n] 26))
      have HB1 := Lib.hid ((HB.out.trans (hb.mono HB.out.size)).alloc (by have := HB.out.size; have := hb.size; omega) (.cells #[.int .u8 D.k, .int .i64 D.mi, .slice D.GA D.Gn D.Gc, .int .i64 D.mt, .string D.key, .string D.body, .int .i64 D.i, .int .i64 D.tm, .slice D.MA D.Mn D.Mc, .int .i64 D.tp, .int .i64 D.who, .int .i64 D.n] 26))
      have KD := Lib.hid (Blk.new w1 26 #[.int .u8 D.k, .int .i64 D.mi, .slice D.GA D.Gn D.Gc, .int .i64 D.mt, .string D.key, .string D.body, .int .i64 D.i, .int .i64 D.tm, .slice D.MA D.Mn D.Mc, .int .i64 D.tp, .int .i64 D.who, .int .i64 D.n])
      clear hoD hb hcw HO HD HB
      have c0 := KD.out.cell 0
      have c1 := KD.out.cell 1
      have c2' := KD.out.cell 2
      have c3 := KD.out.cell 3
      have c4 := KD.out.cell 4
      have c5 := KD.out.cell 5
      have c6 := KD.out.cell 6
      have c7 := KD.out.cell 7
      have c8 := KD.out.cell 8
      have c9 := KD.out.cell 9
      have c10 := KD.out.cell 10
      have c11 := KD.out.cell 11
      go_upto_region 6 with fail
      generalize w1.alloc (.cells #[.int .u8 D.k, .int .i64 D.mi, .slice D.GA D.Gn D.Gc, .int .i64 D.mt, .string D.key, .string D.body, .int .i64 D.i, .int .i64 D.tm, .slice D.MA D.Mn D.Mc, .int .i64 D.tp, .int .i64 D.who, .int .i64 D.n] 26) = w2 at *
      have HO2 := Lib.hid (own_kept HO1.out ((Below.refl w2.heap.size w2).alloc (Nat.le_refl _) (.cells #[.int .u8 D.k, .int .i64 D.mi, .slice D.GA D.Gn D.Gc, .int .i64 D.mt, .string D.key, .string D.body, .int .i64 D.i, .int .i64 D.tm, .slice D.MA D.Mn D.Mc, .int .i64 D.tp, .int .i64 D.who, .int .i64 D.n] 26)))
      have HD2 : Hid (∀ E ∈ ds, OwnC (w2.alloc (.cells #[.int .u8 D.k, .int .i64 D.mi, .slice D.GA D.Gn D.Gc, .int .i64 D.mt, .string D.key, .string D.body, .int .i64 D.i, .int .i64 D.tm, .slice D.MA D.Mn D.Mc, .int .i64 D.tp, .int .i64 D.who, .int .i64 D.n] 26)) w.heap.size E) := fun E hE => (HD1.out E hE).below ((Below.refl w2.heap.size w2).alloc (Nat.le_refl _) (.cells #[.int .u8 D.k, .int .i64 D.mi, .slice D.GA D.Gn D.Gc, .int .i64 D.mt, .string D.key, .string D.body, .int .i64 D.i, .int .i64 D.tm, .slice D.MA D.Mn D.Mc, .int .i64 D.tp, .int .i64 D.who, .int .i64 D.n] 26))
      have HOD2 := Lib.hid (HOD.out.below ((Below.refl w2.heap.size w2).alloc (Nat.le_refl _) (.cells #[.int .u8 D.k, .int .i64 D.mi, .slice D.GA D.Gn D.Gc, .int .i64 D.mt, .string D.key, .string D.body, .int .i64 D.i, .int .i64 D.tm, .slice D.MA D.Mn D.Mc, .int .i64 D.tp, .int .i64 D.who, .int .i64 D.n] 26)))
      have HB2 := Lib.hid (HB1.out.alloc HB1.out.size (.cells #[.int .u8 D.k, .int .i64 D.mi, .slice D.GA D.Gn D.Gc, .int .i64 D.mt, .string D.key, .string D.body, .int .i64 D.i, .int .i64 D.tm, .slice D.MA D.Mn D.Mc, .int .i64 D.tp, .int .i64 D.who, .int .i64 D.n] 26))
      have NC := Lib.hid (new_c w2 D)
      go_wp2_with (at_builtin; refine app_c rfl (.tmp 21) (.tmp 23) rfl w.heap.size (.slice A2 k c2) k ds rfl HO2.out _ (some ⟨w2.heap.size, 0, none⟩) 1 D rfl NC.out ?d1 ?d2 ?_)
      case d1 => omega
      case d2 => exact HB2.out.size
      intro v' w4 ho4 hg4
      have HO4 := Lib.hid ho4
      have HB4 := Lib.hid (HB2.out.trans (hg4.below HB2.out.size (fun k hk => (HO2.out.lt k hk).1)))
      have HD4 : Hid (∀ E ∈ ds ++ [D], OwnC w4 w.heap.size E) := by
        intro E hE
        rcases List.mem_append.1 hE with hE | hE
        · exact (HD2.out E hE).grew HO2.out hg4
        · obtain rfl := List.mem_singleton.1 hE
          exact HOD2.out.grew HO2.out hg4
      have HE4 : Hid (Lg.all L = (Lg.all (L.drop (k + 1))).map ((ds ++ [D]).map HC.cmd ++ ·)) := by
        rw [Hid, HE.out, HX1.out]
        cases Lg.all (L.drop (k + 1)) with
        | none => rfl
        | some q => simp
      clear ho4 hg4 NC
      go_wp2
      go_roundw
      case rel => exact ⟨k + 1, ds ++ [D], by go_num, by omega, by have := HDL.out; simp; omega, HO4.out, HD4.out, HB4.out, HE4.out⟩
      case measure => simp [intOf]; omega
    · have HK : Hid (ds.map HC.cmd = cs) := by
        have h1 := HE.out
        rw [List.drop_eq_nil_of_le (by have := HLL.out; omega), HA.out] at h1
        rw [Hid]
        simpa [Lg.all] using h1.symm
      obtain rfl : n = k := by omega
      go_wp2
      go_ret
      refine ⟨ds, A2, c2, ?_, ?_, HD.out, HK.out, HB.out⟩
      · rw [HDL.out]; rfl
      · rw [HDL.out]; exact HO.out

theorem rcommands13_any (A : Option Addr) (n c B : Nat) (ls : List ByteArray) (w : World) (hr : Reads w B 1 A n (ct ls)) (hB : B ≤ w.heap.size) (hn : n ≤ 9223372036854775807) (hz : ∀ s ∈ ls, s.size ≤ maxLen) :
    Calls Try.prog 32 #[.slice A n c] w fun e w' => CmdsP (tx ls) w.heap.size e w' ∧ Below w.heap.size w w' := by
  obtain ⟨x, hx⟩ : ∃ x, (Lg.cmdsX (tx ls)).2 = x := ⟨_, rfl⟩
  have H1 := Lib.hid (rcheck13_any A n c B ls w hr hB hn hz x hx)
  have HR := Lib.hid hr
  have HZ := Lib.hid hz
  have HX := Lib.hid hx
  clear hr hz hx
  go_enter Try.func32, Try.ntmps32
  go_wp2_with fail
  refine H1.out.mono ?_
  rintro e w1 ⟨rfl, hb⟩
  have B1 := Lib.hid hb
  clear hb
  by_cases hx0 : x = 0
  · subst hx0
    have HC2 : Hid (Lg.cmdsX (tx ls) = ((Lg.cmdsX (tx ls)).1, 0)) := by rw [Hid, ← HX.out]
    go_wp2_with fail
    refine (rall13_any A n c B ls w1 (HR.out.below (B1.out.mono hB)) (by have := B1.out.size; omega) hn HZ.out _ HC2.out).mono ?_
    rintro e w2 ⟨ds, R, rc, rfl, ho, hd, hm, hb⟩
    have B2 := Lib.hid (B1.out.trans (hb.mono B1.out.size))
    have HO := Lib.hid (own_mono ho B1.out.size)
    have HD : Hid (∀ D ∈ ds, OwnC w2 w.heap.size D) := fun D hD => (hd D hD).mono B1.out.size
    have HM : Hid ((ds.map HC.cmd, (0 : Int)) = Lg.cmdsX (tx ls)) := by rw [Hid, hm]; exact HC2.out.symm
    clear ho hd hm hb
    go_wp2
    go_ret2
    exact ⟨⟨ds, 0, R, rc, rfl, HO.out, HD.out, HM.out⟩, B2.out⟩
  · have q0 : (x == 0) = false := beq_eq_false_iff_ne.2 hx0
    have HN : Hid (Lg.cmdsX (tx ls) = ([], x)) := by
      have h1 : Lg.cmdsX (tx ls) = ((Lg.cmdsX (tx ls)).1, x) := by rw [← HX.out]
      rw [Lg.cmdsX_bad h1 hx0] at h1
      exact h1
    go_wp2
    go_ret2
    exact ⟨cmdsP_nil HN.out, B1.out⟩

theorem rplace13_any (A : Option Addr) (n c B : Nat) (ls : List ByteArray) (v : ByteArray) (w : World) (hr : Reads w B 1 A n (ct ls)) (hn : n ≤ 1000000) (x : Int) (hx : Lg.place v 0 ls = x) :
    Calls Try.prog 66 #[.slice A n c, .string v] w fun e w' => e = .returned (.int .i64 (x + 1)) ∧ w = w' := by
  have Hl := Lib.hid hr.len_t
  have HR := Lib.hid hr
  have HX := Lib.hid hx
  clear hr hx
  go_enter Try.func66, Try.ntmps66
  go_wp2_with fail
  go_loopw [5] (fun y wr => (∃ k : Nat, y = .int .i64 (k : Int) ∧ k ≤ n ∧ Lg.place v k (ls.drop k) = x) ∧ wr = w) (fun y _ => n - (intOf y).toNat)
  case atStart => exact ⟨⟨0, rfl, Nat.zero_le _, HX.out⟩, rfl⟩
  case round =>
    obtain ⟨⟨k, rfl, hk, he⟩, rfl⟩ := hrel
    have HE := Lib.hid he
    clear he
    by_cases hlt : k < n
    · obtain ⟨ad, u, rfl, hbl, hu, hc⟩ := HR.out.at_ hlt
      have hkl : k < ls.length := by rw [Hl.out]; exact hlt
      have hg : ls[k]? = some (ls[k]'hkl) := List.getElem?_eq_getElem hkl
      obtain ⟨s, hs⟩ : ∃ s, ls[k]'hkl = s := ⟨_, rfl⟩
      rw [hs] at hg
      rw [ct_get, hg] at hu
      simp only [Option.map_some, Option.some.injEq] at hu
      subst hu
      have HE2 := Lib.hid HE.out
      rw [List.drop_eq_getElem_cons hkl, hs, Lg.place] at HE2
      clear hg hs hkl HE
      by_cases hv : s = v
      · subst hv
        have hxk : Hid (x = (k : Int)) := by rw [Hid, ← HE2.out, if_pos rfl]
        go_wp2
        go_ret
        rw [hxk.out]
        exact ⟨by go_num, by trivial⟩
      · have HE3 : Hid (Lg.place v (k + 1) (ls.drop (k + 1)) = x) := by rw [Hid, ← HE2.out, if_neg hv]
        have hq : (v.toList == s.toList) = false := beq_eq_false_iff_ne.2 fun e => hv (data_inj (by rw [← toList_of, ← toList_of]; exact e.symm))
        have hq2 : (s.toList == v.toList) = false := beq_eq_false_iff_ne.2 fun e => hv (data_inj (by rw [← toList_of, ← toList_of]; exact e))
        clear HE2 hv
        go_wp2
        go_roundw
        case rel => exact ⟨⟨k + 1, by go_num, by omega, HE3.out⟩, by trivial⟩
        case measure => simp [intOf]; omega
    · have HE2 := Lib.hid HE.out
      rw [List.drop_eq_nil_of_le (by have := Hl.out; omega), Lg.place] at HE2
      have hx1 : Hid (x = -1) := HE2.out.symm
      go_wp2
      go_ret
      rw [hx1.out]
      exact ⟨rfl, by trivial⟩
theorem rfind13_bad (A : Option Addr) (n c B : Nat) (ls : List ByteArray) (v : ByteArray) (w : World) (hr : Reads w B 1 A n (ct ls)) (hB : B ≤ w.heap.size) (hn : n ≤ 9223372036854775807) (hz : ∀ s ∈ ls, s.size ≤ maxLen) (x : Int) (hx : (Lg.cmdsX (tx ls)).2 = x) (hx0 : x ≠ 0) :
    Calls Try.prog 36 #[.slice A n c, .string v] w fun e w' => e = .returned (.tuple #[.int .i64 0, .bool false, .int .i64 x]) ∧ Below w.heap.size w w' := by
  have H := Lib.hid (rcheck13_any A n c B ls w hr hB hn hz x hx)
  have q0 : (x == 0) = false := beq_eq_false_iff_ne.2 hx0
  clear hr hz hx
  go_enter Try.func36, Try.ntmps36
  go_wp2_with fail
  refine H.out.mono ?_
  rintro e w1 ⟨rfl, hb⟩
  have B1 := Lib.hid hb
  clear hb
  go_wp2
  go_ret3
  exact ⟨rfl, B1.out⟩
theorem rfind13_ok (A : Option Addr) (n c B : Nat) (ls : List ByteArray) (v : ByteArray) (w : World) (hr : Reads w B 1 A n (ct ls)) (hB : B ≤ w.heap.size) (hn : n ≤ 1000000) (hz : ∀ s ∈ ls, s.size ≤ maxLen) (p : Int) (hx : (Lg.cmdsX (tx ls)).2 = 0) (hp : Lg.place v 0 ls = p) (b : Bool) (hb : decide (0 ≤ p) = b) :
    Calls Try.prog 36 #[.slice A n c, .string v] w fun e w' => e = .returned (.tuple #[.int .i64 (p + 1), .bool b, .int .i64 0]) ∧ Below w.heap.size w w' := by
  have H := Lib.hid (rcheck13_any A n c B ls w hr hB (by omega) hz 0 hx)
  have HR := Lib.hid hr
  have HP := Lib.hid hp
  have HBB := Lib.hid hb
  clear hr hz hx hp hb
  go_enter Try.func36, Try.ntmps36
  go_wp2_with fail
  refine H.out.mono ?_
  rintro e w1 ⟨rfl, hb⟩
  have B1 := Lib.hid hb
  clear hb
  go_wp2_with fail
  refine (rplace13_any A n c B ls v w1 (HR.out.below (B1.out.mono hB)) hn p HP.out).mono ?_
  rintro e w2 ⟨rfl, rfl⟩
  have hq : decide ((0 : Int) < p + 1) = b := by rw [← HBB.out]; exact decide_eq_decide.2 (by omega)
  go_wp2
  go_ret3
  first
  | exact ⟨rfl, B1.out⟩
  | exact ⟨by simp [hq], B1.out⟩
end Go.Proofs.Ytaoekfgeggopbaa

namespace Go.Proofs.Ytaoekfgeggopbaa
open Go.RowKit Go.Sort Go.BigFrame
set_option maxHeartbeats 8000000
set_option maxRecDepth 100000
set_option linter.unusedVariables false
set_option linter.unusedSimpArgs false

section
variable {P : Program} {md : Region.Mode} {ops : Array Oper} {Q : Exit → Act → World → Prop} {S : World → Prop} {n : Nat} {L : Array Bool → Act → World → Prop}
theorem T_oneL {i : Nat} {oi : Oper} {ri : List Oper} {f : Nat} {listed : Array Bool} {a : Act} {w : World} (hi : ops.toList.drop i = oi :: ri) (hB : oneB md ops n i listed = true)
    (h : wpList P ops (Qn Q (fun a' w' => S w' ∧ wpAnyT P md ops Q S n L f (listed.setIfInBounds i true) a' w')) [oi] a w) : wpAnyT P md ops Q S n L (f + 1) listed a w := T_one (at_of_drop hi) hB h
end
theorem rsame06_any (A : Option Addr) (n c : Nat) (A' : Option Addr) (n' c' B B' : Nat) (l l' : List Int) (w : World) (hr : Reads w B 1 A n (ci l)) (hr' : Reads w B' 1 A' n' (ci l')) (hn : n ≤ 9223372036854775807) (hn' : n' ≤ 9223372036854775807) (b : Bool) (hb : decide (l = l') = b) :
    Calls Try.prog 67 #[.slice A n c, .slice A' n' c'] w fun e w' => e = .returned (.bool b) ∧ ∃ q, w' = w.drewN q := by
  have hl := hr.len_i
  have hl' := hr'.len_i
  by_cases hnn : n = n'
  rotate_left
  · obtain rfl : b = false := by rw [← hb]; exact decide_eq_false (fun h => hnn (by rw [← hl, ← hl', h]))
    have hne : decide ((n : Int) = (n' : Int)) = false := decide_eq_false (by omega)
    clear hr hr' hl hl' hb
    go_enter Try.func67, Try.ntmps67
    go_wp2
    go_ret
    exact ⟨rfl, 0, rfl⟩
  subst hnn
  have HB := Lib.hid hb
  have HL := Lib.hid hl
  have HL' := Lib.hid hl'
  clear hl' hb hl
  go_enter Try.func67, Try.ntmps67
  go_wp2
  go_loopw [5] (fun y wr => ∃ k : Nat, y = .int .i64 (k : Int) ∧ k ≤ n ∧ l.take k = l'.take k ∧ ∃ q, wr = w.drewN q) (fun y _ => n - (intOf y).toNat)
  case atStart => exact ⟨0, rfl, by omega, rfl, 0, rfl⟩
  case round =>
    obtain ⟨k, rfl, hk, hpre, q, rfl⟩ := hrel
    have HP := Lib.hid hpre
    clear hpre
    by_cases hlt : k < n
    · obtain ⟨ad, u, rfl, hbl, hu, hc⟩ := hr.at_ hlt
      obtain ⟨ad', u', rfl, hbl', hu', hc'⟩ := hr'.at_ hlt
      have hg : l[k]? = some (l[k]'(by have := HL.out; omega)) := List.getElem?_eq_getElem _
      have hg' : l'[k]? = some (l'[k]'(by have := HL'.out; omega)) := List.getElem?_eq_getElem _
      rw [ci_get, hg] at hu
      rw [ci_get, hg'] at hu'
      simp only [Option.map_some, Option.some.injEq] at hu hu'
      subst hu
      subst hu'
      have HG := Lib.hid hg
      have HG' := Lib.hid hg'
      clear hg hg' hr hr'
      obtain ⟨z, hz⟩ : ∃ z, l[k]'(by have := HL.out; omega) = z := ⟨_, rfl⟩
      obtain ⟨z', hz'⟩ : ∃ z, l'[k]'(by have := HL'.out; omega) = z := ⟨_, rfl⟩
      rw [hz] at hc HG
      rw [hz'] at hc' HG'
      clear hz hz'
      by_cases he : z = z'
      · subst he
        go_wp2_with fail
        go_quiet (fail)
        go_wp2
        go_roundw
        case rel => exact ⟨k + 1, by go_num, by omega, by rw [List.take_add_one, List.take_add_one, HP.out, HG.out, HG'.out], _, rfl⟩
        case measure => simp [intOf]; omega
      · have hzz := Lib.hid he
        have hf : Hid (b = false) := by
          rw [Hid, ← HB.out]
          refine decide_eq_false fun h => hzz.out ?_
          have h1 := HG.out
          rw [h, HG'.out] at h1
          injection h1 with h1
          exact h1.symm
        go_wp2_with fail
        go_quiet (fail)
        go_wp2
        go_ret
        rw [hf.out]
        exact ⟨rfl, _, World.drewN_drewN _ _ _⟩
    · have hf : Hid (b = true) := by
        rw [Hid, ← HB.out]
        refine decide_eq_true ?_
        have h1 := HP.out
        have h2 := HL.out
        have h3 := HL'.out
        rwa [List.take_of_length_le (by omega), List.take_of_length_le (by omega)] at h1
      clear hr hr'
      go_wp2
      go_ret
      rw [hf.out]
      exact ⟨rfl, q, rfl⟩

theorem rsameGroup_any (A : Option Addr) (n c : Nat) (l : List Int) (A' : Option Addr) (n' c' : Nat) (m : List Int) (R : Option Addr) (rn rc : Nat) (R' : Option Addr) (rn' rc' : Nat) (w : World) (hr : Reads w w.heap.size 1 A n (ci l)) (hr' : Reads w w.heap.size 1 A' n' (ci m)) (kr : Reads w w.heap.size 1 R rn (ci l)) (kr' : Reads w w.heap.size 1 R' rn' (ci m))
    (hn : n ≤ 1000000) (hn' : n' ≤ 1000000) :
    Calls Try.prog 41 #[.agg #[.slice A n c, .slice A' n' c'], .agg #[.slice R rn rc, .slice R' rn' rc']] w fun e w' => e = .returned (.bool true) ∧ Below w.heap.size w w' := by
  have h1 := hr.len_i
  have h2 := hr'.len_i
  have h3 := kr.len_i
  have h4 := kr'.len_i
  have B2 : Hid (Below w.heap.size w ((w.alloc (.cells #[.slice A n c, .slice A' n' c'] 52)).alloc (.cells #[.slice R rn rc, .slice R' rn' rc'] 52))) := Lib.hid (((Below.refl _ _).alloc (Nat.le_refl _) _).alloc (by simp) _)
  have F1 := Lib.hid fun (w' : World) (hb : Below w.heap.size w w') => rsame06_any A n c R rn rc _ _ l l w' (hr.below hb) (kr.below hb) (by omega) (by omega) true (by simp)
  have F2 := Lib.hid fun (w' : World) (hb : Below w.heap.size w w') => rsame06_any A' n' c' R' rn' rc' _ _ m m w' (hr'.below hb) (kr'.below hb) (by omega) (by omega) true (by simp)
  clear hr hr' kr kr' h1 h2 h3 h4
  go_enter Try.func41, Try.ntmps41
  go_wp2_with fail
  have K1 : Hid (Blk ((w.alloc (.cells #[.slice A n c, .slice A' n' c'] 52)).alloc (.cells #[.slice R rn rc, .slice R' rn' rc'] 52)) w.heap.size 52 #[.slice A n c, .slice A' n' c']) := Lib.hid ((Blk.new _ _ _).alloc _)
  have K2 : Hid (Blk ((w.alloc (.cells #[.slice A n c, .slice A' n' c'] 52)).alloc (.cells #[.slice R rn rc, .slice R' rn' rc'] 52)) (w.heap.size + 1) 52 #[.slice R rn rc, .slice R' rn' rc']) := Lib.hid (by have h := Blk.new (w.alloc (.cells #[.slice A n c, .slice A' n' c'] 52)) 52 #[.slice R rn rc, .slice R' rn' rc']; simpa using h)
  generalize (w.alloc (.cells #[.slice A n c, .slice A' n' c'] 52)).alloc (.cells #[.slice R rn rc, .slice R' rn' rc'] 52) = W at *
  refine (F1.out W B2.out).mono ?_
  rintro e w1 ⟨rfl, q, rfl⟩
  have k1 := (K1.out.drewN q).cell 1
  have k2 := (K2.out.drewN q).cell 1
  go_wp2_with fail
  refine (F2.out _ (below_drewN B2.out q)).mono ?_
  rintro e w2 ⟨rfl, q', rfl⟩
  rw [World.drewN_drewN]
  go_wp2
  go_ret
  exact ⟨rfl, below_drewN B2.out _⟩

theorem rtwinGroup_any (A : Option Addr) (n c : Nat) (l : List Int) (A' : Option Addr) (n' c' : Nat) (m : List Int) (w : World) (hr : Reads w w.heap.size 1 A n (ci l)) (hr' : Reads w w.heap.size 1 A' n' (ci m)) (hn : n ≤ 1000000) (hn' : n' ≤ 1000000) :
    Calls Try.prog 30 #[.agg #[.slice A n c, .slice A' n' c']] w fun e w' => ∃ (R : Option Addr) (rc : Nat) (R' : Option Addr) (rc' : Nat), e = .returned (.agg #[.slice R n rc, .slice R' n' rc']) ∧ Reads w' w'.heap.size 1 R n (ci l) ∧ Reads w' w'.heap.size 1 R' n' (ci m) ∧ Below w.heap.size w w' := by
  have HR := Lib.hid hr
  have HR' := Lib.hid hr'
  clear hr hr'
  go_enter Try.func30, Try.ntmps30
  go_wp2_with fail
  have KG : Hid (Blk ((w.alloc (.cells #[.slice A n c, .slice A' n' c'] 52)).alloc (.cells #[.slice none 0 0, .slice none 0 0] 52)) w.heap.size 52 #[.slice A n c, .slice A' n' c']) := Lib.hid ((Blk.new _ _ _).alloc _)
  have KN : Hid (Blk ((w.alloc (.cells #[.slice A n c, .slice A' n' c'] 52)).alloc (.cells #[.slice none 0 0, .slice none 0 0] 52)) (w.heap.size + 1) 52 #[.slice none 0 0, .slice none 0 0]) := Lib.hid (by have h := Blk.new (w.alloc (.cells #[.slice A n c, .slice A' n' c'] 52)) 52 #[.slice none 0 0, .slice none 0 0]; simpa using h)
  have BW : Hid (Below w.heap.size w ((w.alloc (.cells #[.slice A n c, .slice A' n' c'] 52)).alloc (.cells #[.slice none 0 0, .slice none 0 0] 52))) := Lib.hid (((Below.refl _ _).alloc (Nat.le_refl _) _).alloc (by simp) _)
  generalize (w.alloc (.cells #[.slice A n c, .slice A' n' c'] 52)).alloc (.cells #[.slice none 0 0, .slice none 0 0] 52) = w0 at *
  have HS : Hid (w0.drew.cell? ⟨w.heap.size, 0, none⟩ = some (.slice A n c) ∧ w0.drew.cell? ⟨w.heap.size, 1, none⟩ = some (.slice A' n' c')) := ⟨KG.out.cell 0, KG.out.cell 1⟩
  refine T_region 6 (fun w' => w'.cell? ⟨w.heap.size, 0, none⟩ = some (.slice A n c) ∧ w'.cell? ⟨w.heap.size, 1, none⟩ = some (.slice A' n' c')) (by kernel_rfl) (by kernel_rfl) ?_
  refine T_takeL (i := 0) (v := ?_) rfl (by kernel_rfl) (fun _ _ _ h => h) (Or.inl ⟨by rfl, ?_⟩) HS.out ?_
  rotate_left
  · ((intro w hSw; (try dsimp only at hSw); go_simp) <;> with_reducible rfl)
  try simp only [Act.put, List.setIfInBounds_toArray, List.set_cons_zero, List.set_cons_succ]
  refine T_takeL (i := 1) (v := ?_) rfl (by kernel_rfl) (fun _ _ _ h => h) (Or.inl ⟨by rfl, ?_⟩) HS.out ?_
  rotate_left
  · ((intro w hSw; (try dsimp only at hSw); go_simp) <;> with_reducible rfl)
  try simp only [Act.put, List.setIfInBounds_toArray, List.set_cons_zero, List.set_cons_succ]
  refine T_takeL (i := 3) (v := ?_) rfl (by kernel_rfl) (fun _ _ _ h => h) (Or.inl ⟨by rfl, ?_⟩) HS.out ?_
  rotate_left
  · ((intro w hSw; (try dsimp only at hSw); go_simp) <;> with_reducible rfl)
  try simp only [Act.put, List.setIfInBounds_toArray, List.set_cons_zero, List.set_cons_succ]
  refine T_takeL (i := 4) (v := ?_) rfl (by kernel_rfl) (fun _ _ _ h => h) (Or.inl ⟨by rfl, ?_⟩) HS.out ?_
  rotate_left
  · ((intro w hSw; (try dsimp only at hSw); go_simp) <;> with_reducible rfl)
  try simp only [Act.put, List.setIfInBounds_toArray, List.set_cons_zero, List.set_cons_succ]
  replace KG := Lib.hid KG.out.drew
  replace KN := Lib.hid KN.out.drew
  replace BW := Lib.hid BW.out.drew
  generalize w0.drew = W at *
  clear HS
  refine T_oneL (i := 2) rfl (by kernel_rfl) ?_
  go_wp2_with (at_builtin; refine app_is rfl (.const (.slice none 0 0)) (.tmp 4) rfl W.heap.size (.slice none 0 0) 0 [] rfl (World.ownsRow_nil _ _ _ _) w.heap.size A n c l rfl (HR.out.below BW.out) (by omega) (Nat.le_refl _) ?_)
  intro v5 w5 o5 g5
  have G5 := Lib.hid (g5.below (Nat.le_refl _) (by simp [Value.ownBlock]))
  have O5 : Hid (w5.ownsRow W.heap.size 3 1 v5 n (ci l)) := by simpa [Hid] using o5
  clear o5 g5
  obtain ⟨A5, c5, rfl⟩ := own_shapeC O5.out
  have KG5 := Lib.hid (KG.out.below G5.out KG.out.lt)
  have KN5 := Lib.hid (KN.out.below G5.out KN.out.lt)
  go_wp2_with fail
  simp only [Qn]
  refine ⟨⟨KG5.out.cell 0, KG5.out.cell 1⟩, ?_⟩
  refine T_oneL (i := 5) rfl (by kernel_rfl) ?_
  have BW5 := Lib.hid (BW.out.trans (G5.out.mono BW.out.size))
  go_wp2_with (at_builtin; refine app_is rfl (.const (.slice none 0 0)) (.tmp 7) rfl w5.heap.size (.slice none 0 0) 0 [] rfl (World.ownsRow_nil _ _ _ _) w.heap.size A' n' c' m rfl (HR'.out.below BW5.out) (by omega) (Nat.le_refl _) ?_)
  intro v6 w6 o6 g6
  have G6 := Lib.hid (g6.below (Nat.le_refl _) (by simp [Value.ownBlock]))
  have O6 : Hid (w6.ownsRow w5.heap.size 3 1 v6 n' (ci m)) := by simpa [Hid] using o6
  clear o6 g6
  obtain ⟨A6, c6, rfl⟩ := own_shapeC O6.out
  have KG6 := Lib.hid (KG5.out.below G6.out KG5.out.lt)
  have KN6 := Lib.hid (KN5.out.below G6.out KN5.out.lt)
  have R6 := Lib.hid (own_readsC (own_kept O5.out G6.out))
  have R7 := Lib.hid (own_readsC O6.out)
  have B6 := Lib.hid (BW5.out.trans (G6.out.mono BW5.out.size))
  go_wp2_with fail
  simp only [Qn]
  refine ⟨⟨KG6.out.cell 0, KG6.out.cell 1⟩, ?_⟩
  refine T_end (by kernel_rfl) ?_
  have u0 := KN6.out.cell 0
  have u1 := KN6.out.cell 1
  have f0 := KN6.out.frozen 0
  have f1 := KN6.out.frozen 1
  go_wp2
  have K8 := KN6.out.set_ 0 (.slice A5 n c5)
  have K9 := K8.set_ 1 (.slice A6 n' c6)
  have P5 := own_setC (own_setC (own_kept O5.out G6.out) KN6.out (by decide) 0 (.slice A5 n c5)) K8 (by decide) 1 (.slice A6 n' c6)
  have P6 := own_setC (own_setC O6.out KN6.out (by decide) 0 (.slice A5 n c5)) K8 (by decide) 1 (.slice A6 n' c6)
  have BE : Below w.heap.size w ((w6.setCell ⟨w.heap.size + 1, 0, none⟩ (.slice A5 n c5)).setCell ⟨w.heap.size + 1, 1, none⟩ (.slice A6 n' c6)) := (B6.out.setCell (Nat.le_succ _) _).setCell (Nat.le_succ _) _
  have r0 := K9.cell 0
  have r1 := K9.cell 1
  generalize (w6.setCell ⟨w.heap.size + 1, 0, none⟩ (.slice A5 n c5)).setCell ⟨w.heap.size + 1, 1, none⟩ (.slice A6 n' c6) = w9 at *
  clear K8 K9 u0 u1 f0 f1
  refine bodyPost_ret (v := .agg #[.slice A5 n c5, .slice A6 n' c6]) (by simp [results, Try.results30, go_sem, r0, r1]) rfl ⟨A5, c5, A6, c6, rfl, own_readsC P5, own_readsC P6, BE⟩

theorem good_within {rost : List Int} {c : Cp.Cmd} : Lg.good rost c = (c.k == 3 && within c.mem rost) := by
  unfold Lg.good within
  rw [List.not_any_eq_all_not]
  simp

theorem rnext13_any (A : Option Addr) (n c : Nat) (l : List Int) (A' : Option Addr) (n' c' : Nat) (m : List Int) (LA : Option Addr) (Ln Lc : Nat) (ls : List ByteArray) (w : World) (hr : Reads w w.heap.size 1 A n (ci l)) (hr' : Reads w w.heap.size 1 A' n' (ci m)) (hl : Reads w w.heap.size 1 LA Ln (ct ls))
    (hn : n ≤ 1000000) (hn' : n' ≤ 1000000) (hLn : Ln ≤ 1000000000) (hz : ∀ s ∈ ls, s.size ≤ maxLen) (cs : List Cp.Cmd) (hx : Lg.cmdsX (tx ls) = (cs, 0)) :
    Calls Try.prog 64 #[.agg #[.slice A n c, .slice A' n' c'], .slice LA Ln Lc] w fun e w' => ∃ (R : Option Addr) (k rc : Nat), e = .returned (.slice R k rc) ∧ w'.ownsRow w.heap.size 3 1 (.slice R k rc) k (ci (Lg.memX l m cs)) ∧ Below w.heap.size w w' := by
  have HR := Lib.hid hr
  have HR' := Lib.hid hr'
  have HL := Lib.hid hl
  have HZ := Lib.hid hz
  have HX := Lib.hid hx
  have KG : Hid (Blk (w.alloc (.cells #[.slice A n c, .slice A' n' c'] 52)) w.heap.size 52 #[.slice A n c, .slice A' n' c']) := Lib.hid (Blk.new _ _ _)
  have B0 : Hid (Below w.heap.size w (w.alloc (.cells #[.slice A n c, .slice A' n' c'] 52))) := Lib.hid ((Below.refl _ _).alloc (Nat.le_refl _) _)
  clear hr hr' hl hz hx
  go_enter Try.func64, Try.ntmps64
  go_upto_region 1 with fail
  generalize w.alloc (.cells #[.slice A n c, .slice A' n' c'] 52) = w0 at *
  have k0 := KG.out.cell 0
  have k1 := KG.out.cell 1
  go_wp2_with (at_builtin; refine app_is rfl (.const (.slice none 0 0)) (.tmp 9) rfl w0.heap.size (.slice none 0 0) 0 [] rfl (World.ownsRow_nil _ _ _ _) w.heap.size A' n' c' m rfl (HR'.out.below B0.out) (by omega) (Nat.le_refl _) ?_)
  intro v5 w5 o5 g5
  have B5 := Lib.hid (B0.out.trans ((g5.below (Nat.le_refl _) (by simp [Value.ownBlock])).mono B0.out.size))
  have KG5 := Lib.hid (KG.out.below (g5.below (Nat.le_refl _) (by simp [Value.ownBlock])) KG.out.lt)
  have O5 : Hid (w5.ownsRow w.heap.size 3 1 v5 n' (ci m)) := Lib.hid (by have h := own_mono o5 B0.out.size; simpa using h)
  clear o5 g5 k0 k1 KG B0
  obtain ⟨A5, c5, rfl⟩ := own_shapeC O5.out
  go_wp2_with fail
  refine (rall13_any LA Ln Lc w.heap.size ls w5 (HL.out.below B5.out) B5.out.size (by omega) HZ.out cs HX.out).mono ?_
  rintro e w6 ⟨ds, D6, c6, rfl, ho, hd, hm, hb⟩
  have B6 := Lib.hid (B5.out.trans (hb.mono B5.out.size))
  have KG6 := Lib.hid (KG5.out.below hb KG5.out.lt)
  have O6 := Lib.hid (own_kept O5.out hb)
  have HO := Lib.hid (own_readsC ho)
  have HD := Lib.hid hd
  have HM := Lib.hid hm
  have S5 := B5.out.size
  have HMAY : Hid (∀ c ∈ cs, Cp.mayC c = true) := Lib.hid (Lg.all_may (Lg.cmdsX_ok HX.out).2)
  have hdn : ds.length ≤ 200 := by
    have h1 := Lg.cmdsX_ok HX.out
    have h2 := Lg.all_len h1.2
    have h3 : ds.length = cs.length := by rw [← hm, List.length_map]
    omega
  clear ho hd hm hb B5 KG5 O5 HX HL
  go_wp2_with fail
  go_loopw [5, 7] (fun x y wr => ∃ (k j : Nat), y = .int .i64 (k : Int) ∧ k ≤ ds.length ∧ wr.ownsRow w.heap.size 3 1 x j (ci (Lg.memX l m (cs.take k))) ∧ Below w6.heap.size w6 wr) (fun _ y _ => ds.length - (intOf y).toNat)
  case atStart => exact ⟨0, n', rfl, Nat.zero_le _, O6.out, Below.refl _ _⟩
  case round =>
    obtain ⟨k, j, rfl, hk, ho, hb⟩ := hrel
    have HB := Lib.hid hb
    have HW := Lib.hid ho
    obtain ⟨X, xc, rfl⟩ := own_shapeC ho
    clear ho hb
    by_cases hlt : k < ds.length
    · obtain ⟨bb, off, D, hA, hbl, hDi, hcc⟩ := (HO.out.below HB.out).cmd (k := k) hlt
      subst hA
      have hoc := (HD.out D (List.mem_of_getElem? hDi)).below HB.out
      have hcs : cs[k]? = some D.cmd := by rw [← HM.out, List.getElem?_map, hDi]; rfl
      have HS : Hid (Lg.memX l m (cs.take (k + 1)) = if Lg.good l D.cmd = true then D.mem else Lg.memX l m (cs.take k)) := by
        rw [Hid, List.take_add_one, hcs, Option.toList_some, Lg.memX_snoc]
        rfl
      have hmay := HMAY.out D.cmd (List.mem_of_getElem? hcs)
      have c0 : wr.cell? ⟨bb, off + k * 12, none⟩ = some (.int .u8 D.k) := hcc 0 _ rfl
      have c8 : wr.cell? ⟨bb, off + k * 12 + 8, none⟩ = some (.slice D.MA D.Mn D.Mc) := hcc 8 _ rfl
      have KW := Lib.hid (KG6.out.below HB.out KG6.out.lt)
      have RM := Lib.hid hoc.at_.rm
      have BW := Lib.hid (B6.out.trans (HB.out.mono B6.out.size))
      clear hcc hDi hcs hoc
      by_cases hk3 : D.k = 3
      · have hMn : D.Mn ≤ 6 := by
          have h1 := (check_zero (Lg.mayC_mem hmay hk3)).2
          have h2 : D.mem.length = D.Mn := RM.out.len_i
          have h3 : D.cmd.mem = D.mem := rfl
          rw [h3] at h1
          omega
        obtain ⟨q, hq⟩ : ∃ q, within D.mem l = q := ⟨_, rfl⟩
        have HG : Hid (Lg.good l D.cmd = q) := by
          rw [Hid, good_within, ← hq]
          show (D.k == 3 && within D.mem l) = _
          rw [hk3]; rfl
        rw [hk3] at c0
        have FW := Lib.hid (qb_same (W := wr) fun cur ht => by
          have := rwithin_any D.MA D.Mn D.Mc _ D.mem A n c _ l cur (RM.out.below ht) ((HR.out.below BW.out).below (ht.mono BW.out.size)) (by omega) hn
          rw [hq] at this
          exact this)
        clear hq hmay hk3
        go_wp2_with fail
        have k0 := cell_regrown (KW.out.cell 0)
        have c0 := cell_regrown c0
        have c8 := cell_regrown c8
        refine wp_region_quiet_below (by kernel_rfl) (by kernel_rfl) ?_
        repeat (go_big_quiet_step ((first | with_reducible exact FW.out _ _)))
        refine wpQuiet_nil ?_
        intro _ hw'
        obtain ⟨⟨dq, osq⟩, hw''⟩ := hw'
        subst hw''
        have BR := Lib.hid (HB.out.trans ((below_regrown wr dq osq).mono HB.out.size))
        have BD := Lib.hid (below_regrown wr dq osq)
        have c8' := c8 dq osq
        clear c8 c0 k0 FW
        generalize grow (redrawn wr dq) osq = W2 at *
        cases q with
        | false =>
          have HS2 : Hid (Lg.memX l m (cs.take (k + 1)) = Lg.memX l m (cs.take k)) := by rw [Hid, HS.out, HG.out]; rfl
          go_wp2
          go_roundw
          case rel => exact ⟨k + 1, j, by go_num, by omega, by rw [HS2.out]; exact own_kept HW.out BD.out, BR.out⟩
          case measure => simp [intOf]; omega
        | true =>
          have HS2 : Hid (Lg.memX l m (cs.take (k + 1)) = D.mem) := by rw [Hid, HS.out, HG.out]; rfl
          have RM2 := Lib.hid (RM.out.below BD.out)
          go_wp2_with (at_builtin; refine app_is rfl (.const (.slice none 0 0)) (.tmp 39) rfl W2.heap.size (.slice none 0 0) 0 [] rfl (World.ownsRow_nil _ _ _ _) _ D.MA D.Mn D.Mc D.mem rfl RM2.out (by omega) (Nat.le_refl _) ?_)
          intro v9 w9 o9 g9
          have G9 := Lib.hid (g9.below (Nat.le_refl _) (by simp [Value.ownBlock]))
          have O9 : Hid (w9.ownsRow w.heap.size 3 1 v9 D.Mn (ci (Lg.memX l m (cs.take (k + 1))))) := Lib.hid (by rw [HS2.out]; have h := own_mono o9 (Nat.le_trans BW.out.size BD.out.size); simpa using h)
          clear o9 g9
          go_wp2
          go_roundw
          case rel => exact ⟨k + 1, D.Mn, by go_num, by omega, O9.out, BR.out.trans (G9.out.mono BR.out.size)⟩
          case measure => simp [intOf]; omega
      · have q0 : (D.k == 3) = false := beq_eq_false_iff_ne.2 hk3
        have HS2 : Hid (Lg.memX l m (cs.take (k + 1)) = Lg.memX l m (cs.take k)) := by
          rw [Hid, HS.out, good_within]
          show (if (D.k == 3 && within D.mem l) = true then _ else _) = _
          rw [q0]; rfl
        clear hmay hk3
        go_wp2_with fail
        have k0 := cell_regrown (KW.out.cell 0)
        have c0 := cell_regrown c0
        have c8 := cell_regrown c8
        refine wp_region_quiet_below (by kernel_rfl) (by kernel_rfl) ?_
        repeat (go_big_quiet_step ((fail)))
        refine wpQuiet_nil ?_
        intro _ hw'
        obtain ⟨⟨dq, osq⟩, hw''⟩ := hw'
        subst hw''
        have BR := Lib.hid (HB.out.trans ((below_regrown wr dq osq).mono HB.out.size))
        have BD := Lib.hid (below_regrown wr dq osq)
        clear c8 c0 k0
        generalize grow (redrawn wr dq) osq = W2 at *
        go_wp2
        go_roundw
        case rel => exact ⟨k + 1, j, by go_num, by omega, by rw [HS2.out]; exact own_kept HW.out BD.out, BR.out⟩
        case measure => simp [intOf]; omega
    · have HK : Hid (cs.take k = cs) := by
        have h1 : cs.length = ds.length := by rw [← HM.out, List.length_map]
        exact List.take_of_length_le (by omega)
      rw [HK.out] at HW
      go_wp2
      go_ret
      exact ⟨X, j, xc, rfl, HW.out, B6.out.trans (HB.out.mono B6.out.size)⟩

theorem rmembers13_any (A : Option Addr) (n c : Nat) (l : List Int) (A' : Option Addr) (n' c' : Nat) (m : List Int) (LA : Option Addr) (Ln Lc : Nat) (ls : List ByteArray) (w : World) (hr : Reads w w.heap.size 1 A n (ci l)) (hr' : Reads w w.heap.size 1 A' n' (ci m)) (hl : Reads w w.heap.size 1 LA Ln (ct ls))
    (hn : n ≤ 1000000) (hn' : n' ≤ 1000000) (hLn : Ln ≤ 1000000000) (hz : ∀ s ∈ ls, s.size ≤ maxLen) :
    Calls Try.prog 34 #[.agg #[.slice A n c, .slice A' n' c'], .slice LA Ln Lc] w fun e w' => MemP l m (tx ls) w.heap.size e w' ∧ Below w.heap.size w w' := by
  obtain ⟨g, hg⟩ : ∃ x, cgroup l m = x := ⟨_, rfl⟩
  obtain ⟨x, hx⟩ : ∃ x, (Lg.cmdsX (tx ls)).2 = x := ⟨_, rfl⟩
  have HR := Lib.hid hr
  have HR' := Lib.hid hr'
  have HL := Lib.hid hl
  have HZ := Lib.hid hz
  have HX := Lib.hid hx
  have HG := Lib.hid hg
  have KG : Hid (Blk (w.alloc (.cells #[.slice A n c, .slice A' n' c'] 52)) w.heap.size 52 #[.slice A n c, .slice A' n' c']) := Lib.hid (Blk.new _ _ _)
  have B0 : Hid (Below w.heap.size w (w.alloc (.cells #[.slice A n c, .slice A' n' c'] 52))) := Lib.hid ((Below.refl _ _).alloc (Nat.le_refl _) _)
  clear hr hr' hl hz hx hg
  go_enter Try.func34, Try.ntmps34
  go_upto_region 1 with fail
  generalize w.alloc (.cells #[.slice A n c, .slice A' n' c'] 52) = w0 at *
  have k0 := KG.out.cell 0
  have k1 := KG.out.cell 1
  go_wp2_with fail
  refine (rgroup_any A n c l A' n' c' m w0 ((HR.out.below B0.out).more B0.out.size) ((HR'.out.below B0.out).more B0.out.size) (by omega) (by omega)).mono ?_
  rw [HG.out]
  rintro e w1 ⟨rfl, hb⟩
  have B1 := Lib.hid (B0.out.trans (hb.mono B0.out.size))
  have KG1 := Lib.hid (KG.out.below hb KG.out.lt)
  clear hb k0 k1 KG B0
  by_cases hg0 : g = 0
  · subst hg0
    go_wp2_with fail
    refine (rcheck13_any LA Ln Lc w.heap.size ls w1 (HL.out.below B1.out) B1.out.size (by omega) HZ.out x HX.out).mono ?_
    rintro e w2 ⟨rfl, hb⟩
    have B2 := Lib.hid (B1.out.trans (hb.mono B1.out.size))
    have KG2 := Lib.hid (KG1.out.below hb KG1.out.lt)
    clear hb KG1 B1
    by_cases hx0 : x = 0
    · subst hx0
      have HC2 : Hid (Lg.cmdsX (tx ls) = ((Lg.cmdsX (tx ls)).1, 0)) := by rw [Hid, ← HX.out]
      have k0 := KG2.out.cell 0
      have k1 := KG2.out.cell 1
      go_wp2_with fail
      refine (rnext13_any A n c l A' n' c' m LA Ln Lc ls w2 ((HR.out.below B2.out).more B2.out.size) ((HR'.out.below B2.out).more B2.out.size) ((HL.out.below B2.out).more B2.out.size) hn hn' hLn HZ.out _ HC2.out).mono ?_
      rintro e w3 ⟨R, k, rc, rfl, ho, hb⟩
      have B3 := Lib.hid (B2.out.trans (hb.mono B2.out.size))
      have HO := Lib.hid (own_mono ho B2.out.size)
      have HM := Lib.hid (Lg.members_ok HG.out HC2.out)
      clear ho hb
      go_wp2
      go_ret2
      exact ⟨⟨R, k, rc, _, 0, rfl, HO.out, HM.out⟩, B3.out⟩
    · have q0 : (x == 0) = false := beq_eq_false_iff_ne.2 hx0
      have HM := Lib.hid (Lg.members_bad2 HG.out HX.out hx0)
      go_wp2
      go_ret2
      exact ⟨memP_bad HM.out, B2.out⟩
  · have q0 : (g == 0) = false := beq_eq_false_iff_ne.2 hg0
    have HM : Hid (Lg.members l m (tx ls) = ([], g)) := Lib.hid (Lg.members_bad HG.out hg0)
    go_wp2
    go_ret2
    exact ⟨memP_bad HM.out, B1.out⟩
end Go.Proofs.Ytaoekfgeggopbaa

namespace Go.Proofs.Ytaoekfgeggopbaa
open Go.RowKit Go.Sort Go.BigFrame
set_option maxHeartbeats 16000000
set_option maxRecDepth 100000
set_option linter.unusedVariables false
set_option linter.unusedSimpArgs false

theorem sameC_refl (c : Cp.Cmd) : Cp.sameC c c = true := by simp [Cp.sameC, Cp.sameM]

theorem cmdsX_le (ls : List (List UInt8)) : (Lg.cmdsX ls).1.length ≤ ls.length := by
  by_cases h : 200 < ls.length
  · rw [Lg.cmdsX_long h]; simp
  · cases ha : Lg.all ls with
    | none => rw [Lg.cmdsX_none h ha]; simp
    | some q => rw [Lg.cmdsX_some h ha]; exact Nat.le_of_eq (Lg.all_len ha)
theorem find_tri (n : Nat) (ls : List ByteArray) (v : ByteArray) (hn : n ≤ 1000000) (hz : ∀ s ∈ ls, s.size ≤ maxLen) (x : Int) (hx : (Lg.cmdsX (tx ls)).2 = x) : ∃ (p : Int) (b : Bool),
    (∀ A c B w, Reads w B 1 A n (ct ls) → B ≤ w.heap.size → Calls Try.prog 35 #[.slice A n c, .string v] w fun e w' => e = .returned (.tuple #[.int .i64 p, .bool b, .int .i64 x]) ∧ Below w.heap.size w w') ∧
    ∀ A c B w, Reads w B 1 A n (ct ls) → B ≤ w.heap.size → Calls Try.prog 36 #[.slice A n c, .string v] w fun e w' => e = .returned (.tuple #[.int .i64 p, .bool b, .int .i64 x]) ∧ Below w.heap.size w w' := by
  by_cases h : x = 0
  · subst h
    exact ⟨_, _, fun A c B w hr hB => lfind_ok A n c B ls v w hr hB hn hz _ hx rfl _ rfl, fun A c B w hr hB => rfind13_ok A n c B ls v w hr hB hn hz _ hx rfl _ rfl⟩
  · exact ⟨_, _, fun A c B w hr hB => lfind_bad A n c B ls v w hr hB (by omega) hz x hx h, fun A c B w hr hB => rfind13_bad A n c B ls v w hr hB (by omega) hz x hx h⟩

theorem logTells_walk (LA : Option Addr) (Ln Lc : Nat) (ls : List ByteArray) (A : Option Addr) (n c : Nat) (l : List Int) (A' : Option Addr) (n' c' : Nat) (m : List Int) (v : ByteArray) (w : World) (hl : IsStrs w LA Ln Lc ls) (hg : IsGroup w A n c l A' n' c' m) (hv : v.size ≤ maxLen) :
    Calls Try.prog 8 #[.slice LA Ln Lc, .agg #[.slice A n c, .slice A' n' c'], .string v] w fun e w' => e = .returned (.bool true) ∧ Below w.heap.size w w' := by
  obtain ⟨hlr, hlc, hlm, hlz⟩ := hl
  obtain ⟨⟨hr, hc, hm, -⟩, ⟨hr', hc', hm', -⟩⟩ := hg
  unfold maxLen at hlm hm hm'
  have HL := Lib.hid hlr
  have HZ := Lib.hid hlz
  have HR := Lib.hid hr
  have HR' := Lib.hid hr'
  have K0 : Hid (Blk (w.alloc (.cells #[.slice A n c, .slice A' n' c'] 52)) w.heap.size 52 #[.slice A n c, .slice A' n' c']) := Lib.hid (Blk.new _ _ _)
  have B0 : Hid (Below w.heap.size w (w.alloc (.cells #[.slice A n c, .slice A' n' c'] 52))) := Lib.hid ((Below.refl _ _).alloc (Nat.le_refl _) _)
  clear hlr hlz hr hr'
  go_enter Try.func8, Try.ntmps8
  go_upto_region 1 with fail
  generalize w.alloc (.cells #[.slice A n c, .slice A' n' c'] 52) = w0 at *
  have k0 := K0.out.cell 0
  have k1 := K0.out.cell 1
  go_wp2_with fail
  refine (great_any LA Ln Lc w.heap.size ls w0 (HL.out.below B0.out) (by omega)).mono ?_
  rintro e w1 ⟨⟨r, rfl, hgr⟩, rfl⟩
  cases r with
  | true => go_wp2; go_ret; exact ⟨rfl, B0.out⟩
  | false =>
  have hLn := hgr rfl
  clear hgr
  by_cases q1 : (300 : Int) < (Ln : Int)
  · go_wp2; go_ret; exact ⟨rfl, B0.out⟩
  by_cases q2 : (5000 : Int) < (v.size : Int)
  · go_wp2; go_ret; exact ⟨rfl, B0.out⟩
  by_cases q3 : (1000 : Int) < (n : Int)
  · go_wp2; go_ret; exact ⟨rfl, B0.out⟩
  by_cases q4 : (1000 : Int) < (n' : Int)
  · go_wp2; go_ret; exact ⟨rfl, B0.out⟩
  go_wp2_with (at_builtin; refine app_tx rfl (.const (.slice none 0 0)) (.tmp 49) rfl w0.heap.size (.slice none 0 0) 0 [] rfl (World.ownsRow_nil _ _ _ _) w.heap.size LA Ln Lc ls rfl (HL.out.below B0.out) (by omega) (Nat.le_refl _) ?_)
  intro v1 w1 o1 g1
  have G1 := Lib.hid (g1.below (Nat.le_refl _) (by simp [Value.ownBlock]))
  have O1 : Hid (w1.ownsRow w0.heap.size 9 1 v1 Ln (ct ls)) := by simpa [Hid] using o1
  clear o1 g1
  obtain ⟨A1, c1, rfl⟩ := own_shapeC O1.out
  have B1 := Lib.hid (B0.out.trans (G1.out.mono B0.out.size))
  have K1 := Lib.hid (K0.out.below G1.out K0.out.lt)
  have RO1 := Lib.hid (own_readsC O1.out)
  clear k0 k1 K0 O1 G1 B0
  have k0 := K1.out.cell 0
  have k1 := K1.out.cell 1
  go_wp2_with fail
  refine (rtwinGroup_any A n c l A' n' c' m w1 ((HR.out.below B1.out).more B1.out.size) ((HR'.out.below B1.out).more B1.out.size) (by omega) (by omega)).mono ?_
  rintro e w2 ⟨T, tc, T', tc', rfl, ht, ht', hb⟩
  have B2 := Lib.hid (B1.out.trans (hb.mono B1.out.size))
  have K2 := Lib.hid (K1.out.below hb K1.out.lt)
  have RT := Lib.hid ht
  have RT' := Lib.hid ht'
  clear ht ht' k0 k1 K1 B1
  have K3 := Lib.hid (K2.out.alloc (.cells #[.slice T n tc, .slice T' n' tc'] 52))
  have N3 : Hid (Blk (w2.alloc (.cells #[.slice T n tc, .slice T' n' tc'] 52)) w2.heap.size 52 #[.slice T n tc, .slice T' n' tc']) := Lib.hid (Blk.new _ _ _)
  have B3 := Lib.hid (B2.out.alloc B2.out.size (.cells #[.slice T n tc, .slice T' n' tc'] 52))
  have X3 : Hid (Below w2.heap.size w2 (w2.alloc (.cells #[.slice T n tc, .slice T' n' tc'] 52))) := Lib.hid ((Below.refl _ _).alloc (Nat.le_refl _) _)
  have RO3 := Lib.hid ((RO1.out.below (hb.trans (X3.out.mono hb.size))).more (Nat.le_trans hb.size X3.out.size))
  have RT3 := Lib.hid ((RT.out.below X3.out).more X3.out.size)
  have RT3' := Lib.hid ((RT'.out.below X3.out).more X3.out.size)
  clear hb RO1 RT RT' X3 B2 K2
  go_upto_region 5 with fail
  obtain ⟨g3, hg3⟩ : ∃ g, w2.heap.size = g := ⟨_, rfl⟩
  rw [hg3] at N3 ⊢
  generalize w2.alloc (.cells #[.slice T n tc, .slice T' n' tc'] 52) = w3 at *
  clear hg3
  obtain ⟨x, hx⟩ : ∃ x, (Lg.cmdsX (tx ls)).2 = x := ⟨_, rfl⟩
  have HX := Lib.hid hx
  clear hx
  obtain ⟨p, b, hf, hf'⟩ := find_tri Ln ls v (by omega) HZ.out x HX.out
  have HF := Lib.hid hf
  have HF' := Lib.hid hf'
  clear hf hf'
  go_wp2_with fail
  refine (lcommands_any A1 Ln c1 _ ls w3 RO3.out (Nat.le_refl _) (by omega) HZ.out).mono ?_
  rintro e w4 ⟨⟨ds, x1, DA, dc, rfl, ho, hd, he⟩, hb⟩
  obtain rfl : x = x1 := by have h := congrArg Prod.snd he; rw [HX.out] at h; exact h.symm
  have hdn : ds.length ≤ 1000 := by
    have h := congrArg (fun p => p.1.length) he
    have h2 := cmdsX_le (tx ls)
    rw [tx_len, HL.out.len_t] at h2
    simp only [List.length_map] at h
    omega
  have HO4 := Lib.hid (own_readsC ho)
  have HD4 := Lib.hid hd
  have HE := Lib.hid he
  have B4 := Lib.hid (B3.out.trans (hb.mono B3.out.size))
  have X4 := Lib.hid hb
  clear ho hd he hb B3
  go_wp2_with fail
  refine (rcommands13_any LA Ln Lc w.heap.size ls w4 (HL.out.below B4.out) B4.out.size (by omega) HZ.out).mono ?_
  rintro e w5 ⟨⟨ds2, x2, DA2, dc2, rfl, ho, hd, he⟩, hb⟩
  obtain rfl : x = x2 := by have h := congrArg Prod.snd he; rw [HX.out] at h; exact h.symm
  have HEE : Hid (ds.map HC.cmd = ds2.map HC.cmd) := Lib.hid (congrArg Prod.fst (HE.out.trans he.symm))
  have hlen : ds2.length = ds.length := by have := congrArg List.length HEE.out; simpa using this.symm
  have HO5 := Lib.hid (own_readsC ho)
  have HD5 := Lib.hid hd
  have HO45 := Lib.hid ((HO4.out.below hb).more hb.size)
  have HD45 : Hid (∀ D ∈ ds, OwnC w5 w3.heap.size D) := Lib.hid fun D hD => (HD4.out D hD).below hb
  have X5 := Lib.hid (X4.out.trans (hb.mono X4.out.size))
  have B5 := Lib.hid (B4.out.trans (hb.mono B4.out.size))
  rw [hlen] at HO5 ⊢
  clear ho hd he hb B4 X4 hlen HO4 HD4 HE
  have n0 := (N3.out.below X5.out N3.out.lt).cell 0
  have n1 := (N3.out.below X5.out N3.out.lt).cell 1
  go_wp2_with fail
  clear n0 n1
  refine (lmembers_any T n tc l T' n' tc' m A1 Ln c1 ls w5 ((RT3.out.below X5.out).more X5.out.size) ((RT3'.out.below X5.out).more X5.out.size) ((RO3.out.below X5.out).more X5.out.size) (by omega) (by omega) (by omega) HZ.out).mono ?_
  rintro e w6 ⟨⟨R, k, rc, r, y, rfl, ho, hm⟩, hb⟩
  have HM := Lib.hid hm
  have OM := Lib.hid ho
  have Y6 := Lib.hid hb
  have B6 := Lib.hid (B5.out.trans (hb.mono B5.out.size))
  have X6 := Lib.hid (X5.out.trans (hb.mono X5.out.size))
  clear hm ho hb
  have k0 := (K3.out.below X6.out K3.out.lt).cell 0
  have k1 := (K3.out.below X6.out K3.out.lt).cell 1
  go_wp2_with fail
  clear k0 k1
  refine (rmembers13_any A n c l A' n' c' m LA Ln Lc ls w6 ((HR.out.below B6.out).more B6.out.size) ((HR'.out.below B6.out).more B6.out.size) ((HL.out.below B6.out).more B6.out.size) (by omega) (by omega) (by omega) HZ.out).mono ?_
  rintro e w7 ⟨⟨R2, k2, rc2, r2, y2, rfl, ho, hm⟩, hb⟩
  obtain ⟨rfl, rfl⟩ : r = r2 ∧ y = y2 := by have h := HM.out.symm.trans hm; injection h with h1 h2; exact ⟨h1, h2⟩
  have OM7 := Lib.hid (own_kept OM.out hb)
  obtain rfl : k = k2 := by have h1 := (own_readsC ho).len_i; have h2 := (own_readsC OM7.out).len_i; omega
  have RM7 := Lib.hid (own_readsC ho)
  have hk9 : k ≤ 9223372036854775807 := by have := own_cap ho; unfold maxLen at this; omega
  have Y7 := Lib.hid (Y6.out.trans (hb.mono Y6.out.size))
  have B7 := Lib.hid (B6.out.trans (hb.mono B6.out.size))
  have X7 := Lib.hid (X6.out.trans (hb.mono X6.out.size))
  clear hm ho hb Y6 B6 X6 OM HM
  go_wp2_with fail
  refine (HF.out A1 c1 _ w7 (RO3.out.below X7.out) X7.out.size).mono ?_
  rintro e w8 ⟨rfl, hb⟩
  have OM8 := Lib.hid (own_kept OM7.out hb)
  have RM8 := Lib.hid ((RM7.out.below hb).more hb.size)
  have Y8 := Lib.hid (Y7.out.trans (hb.mono Y7.out.size))
  have B8 := Lib.hid (B7.out.trans (hb.mono B7.out.size))
  have X8 := Lib.hid (X7.out.trans (hb.mono X7.out.size))
  clear hb Y7 B7 X7 OM7 RM7
  go_wp2_with fail
  refine (HF'.out LA Lc _ w8 (HL.out.below B8.out) B8.out.size).mono ?_
  rintro e w9 ⟨rfl, hb⟩
  have OM9 := Lib.hid (own_kept OM8.out hb)
  have RM9 := Lib.hid ((RM8.out.below hb).more hb.size)
  have Y9 := Lib.hid (Y8.out.trans (hb.mono Y8.out.size))
  have B9 := Lib.hid (B8.out.trans (hb.mono B8.out.size))
  have X9 := Lib.hid (X8.out.trans (hb.mono X8.out.size))
  clear hb Y8 B8 X8 OM8 RM8
  go_wp2_with fail
  refine (rsameInts_any R k rc R2 k rc2 _ _ r r w9 (own_readsC OM9.out) RM9.out hk9 hk9 true (by simp)).mono ?_
  rintro e w10 ⟨rfl, q, rfl⟩
  replace OM9 := Lib.hid (own_kept OM9.out (below_drewN (Below.refl _ _) q))
  replace Y9 := Lib.hid (below_drewN Y9.out q)
  replace B9 := Lib.hid (below_drewN B9.out q)
  replace X9 := Lib.hid (below_drewN X9.out q)
  clear RM9
  generalize w9.drewN q = w10 at *
  go_wp2_with fail
  refine (lcheck_any A1 Ln c1 _ ls w10 (RO3.out.below X9.out) X9.out.size (by omega) HZ.out x HX.out).mono ?_
  rintro e w11 ⟨rfl, hb⟩
  have OM11 := Lib.hid (own_kept OM9.out hb)
  have Y11 := Lib.hid (Y9.out.trans (hb.mono Y9.out.size))
  have B11 := Lib.hid (B9.out.trans (hb.mono B9.out.size))
  have X11 := Lib.hid (X9.out.trans (hb.mono X9.out.size))
  clear hb Y9 B9 X9 OM9
  go_wp2_with fail
  refine (rcheck13_any LA Ln Lc _ ls w11 (HL.out.below B11.out) B11.out.size (by omega) HZ.out x HX.out).mono ?_
  rintro e w12 ⟨rfl, hb⟩
  have OM12 := Lib.hid (own_kept OM11.out hb)
  have Y12 := Lib.hid (Y11.out.trans (hb.mono Y11.out.size))
  have B12 := Lib.hid (B11.out.trans (hb.mono B11.out.size))
  have X12 := Lib.hid (X11.out.trans (hb.mono X11.out.size))
  clear hb Y11 B11 X11 OM11
  go_wp2_with fail
  have HO45' := Lib.hid (HO45.out.below Y12.out)
  have HO5' := Lib.hid (HO5.out.below Y12.out)
  have HD45' : Hid (∀ D ∈ ds, OwnC w12 w3.heap.size D) := Lib.hid fun D hD => (HD45.out D hD).below Y12.out
  have HD5' : Hid (∀ D ∈ ds2, OwnC w12 w4.heap.size D) := Lib.hid fun D hD => (HD5.out D hD).below Y12.out
  have Y512 := Y12.out.size
  clear HO45 HO5 HD45 HD5
  go_loopw [23] (fun z wr => ∃ j : Nat, z = .int .i64 (j : Int) ∧ j ≤ ds.length ∧ Below w12.heap.size w12 wr) (fun z _ => ds.length - (intOf z).toNat)
  case atStart => exact ⟨0, rfl, Nat.zero_le _, Below.refl _ _⟩
  case round =>
    obtain ⟨z, rfl, hz, hb⟩ := hrel
    have HB := Lib.hid hb
    clear hb
    by_cases hlt : z < ds.length
    · obtain ⟨bb, off, D, hA, hbl, hDi, hcc⟩ := ((HO45'.out.more Y512).below HB.out).cmd (k := z) hlt
      obtain ⟨bb2, off2, E, hA2, hbl2, hEi, hcc2⟩ := ((HO5'.out.more Y512).below HB.out).cmd (k := z) hlt
      subst hA
      subst hA2
      have hoD := (HD45'.out D (List.mem_of_getElem? hDi)).below HB.out
      have hoE := (HD5'.out E (List.mem_of_getElem? hEi)).below HB.out
      have hsame : D.cmd = E.cmd := by
        have h := congrArg (·[z]?) HEE.out
        simp only [List.getElem?_map, hDi, hEi, Option.map_some, Option.some.injEq] at h
        exact h
      have FSM := Lib.hid (qb (W := wr) fun cur ht => rsame12_any D E cur ((hoD.below ht).at_) ((hoE.below ht).at_) true (by rw [hsame]; exact sameC_refl _))
      have c0 : wr.cell? ⟨bb, off + z * 12, none⟩ = some (.int .u8 D.k) := hcc 0 _ rfl
      have c1 : wr.cell? ⟨bb, off + z * 12 + 1, none⟩ = some (.int .i64 D.mi) := hcc 1 _ rfl
      have c2 : wr.cell? ⟨bb, off + z * 12 + 2, none⟩ = some (.slice D.GA D.Gn D.Gc) := hcc 2 _ rfl
      have c3 : wr.cell? ⟨bb, off + z * 12 + 3, none⟩ = some (.int .i64 D.mt) := hcc 3 _ rfl
      have c4 : wr.cell? ⟨bb, off + z * 12 + 4, none⟩ = some (.string D.key) := hcc 4 _ rfl
      have c5 : wr.cell? ⟨bb, off + z * 12 + 5, none⟩ = some (.string D.body) := hcc 5 _ rfl
      have c6 : wr.cell? ⟨bb, off + z * 12 + 6, none⟩ = some (.int .i64 D.i) := hcc 6 _ rfl
      have c7 : wr.cell? ⟨bb, off + z * 12 + 7, none⟩ = some (.int .i64 D.tm) := hcc 7 _ rfl
      have c8 : wr.cell? ⟨bb, off + z * 12 + 8, none⟩ = some (.slice D.MA D.Mn D.Mc) := hcc 8 _ rfl
      have c9 : wr.cell? ⟨bb, off + z * 12 + 9, none⟩ = some (.int .i64 D.tp) := hcc 9 _ rfl
      have c10 : wr.cell? ⟨bb, off + z * 12 + 10, none⟩ = some (.int .i64 D.who) := hcc 10 _ rfl
      have c11 : wr.cell? ⟨bb, off + z * 12 + 11, none⟩ = some (.int .i64 D.n) := hcc 11 _ rfl
      have e0 : wr.cell? ⟨bb2, off2 + z * 12, none⟩ = some (.int .u8 E.k) := hcc2 0 _ rfl
      have e1 : wr.cell? ⟨bb2, off2 + z * 12 + 1, none⟩ = some (.int .i64 E.mi) := hcc2 1 _ rfl
      have e2 : wr.cell? ⟨bb2, off2 + z * 12 + 2, none⟩ = some (.slice E.GA E.Gn E.Gc) := hcc2 2 _ rfl
      have e3 : wr.cell? ⟨bb2, off2 + z * 12 + 3, none⟩ = some (.int .i64 E.mt) := hcc2 3 _ rfl
      have e4 : wr.cell? ⟨bb2, off2 + z * 12 + 4, none⟩ = some (.string E.key) := hcc2 4 _ rfl
      have e5 : wr.cell? ⟨bb2, off2 + z * 12 + 5, none⟩ = some (.string E.body) := hcc2 5 _ rfl
      have e6 : wr.cell? ⟨bb2, off2 + z * 12 + 6, none⟩ = some (.int .i64 E.i) := hcc2 6 _ rfl
      have e7 : wr.cell? ⟨bb2, off2 + z * 12 + 7, none⟩ = some (.int .i64 E.tm) := hcc2 7 _ rfl
      have e8 : wr.cell? ⟨bb2, off2 + z * 12 + 8, none⟩ = some (.slice E.MA E.Mn E.Mc) := hcc2 8 _ rfl
      have e9 : wr.cell? ⟨bb2, off2 + z * 12 + 9, none⟩ = some (.int .i64 E.tp) := hcc2 9 _ rfl
      have e10 : wr.cell? ⟨bb2, off2 + z * 12 + 10, none⟩ = some (.int .i64 E.who) := hcc2 10 _ rfl
      have e11 : wr.cell? ⟨bb2, off2 + z * 12 + 11, none⟩ = some (.int .i64 E.n) := hcc2 11 _ rfl
      clear hcc hcc2 hDi hEi hoD hoE hsame
      go_wp2_with fail
      have c0 := cell_regrown c0
      have c1 := cell_regrown c1
      have c2 := cell_regrown c2
      have c3 := cell_regrown c3
      have c4 := cell_regrown c4
      have c5 := cell_regrown c5
      have c6 := cell_regrown c6
      have c7 := cell_regrown c7
      have c8 := cell_regrown c8
      have c9 := cell_regrown c9
      have c10 := cell_regrown c10
      have c11 := cell_regrown c11
      have e0 := cell_regrown e0
      have e1 := cell_regrown e1
      have e2 := cell_regrown e2
      have e3 := cell_regrown e3
      have e4 := cell_regrown e4
      have e5 := cell_regrown e5
      have e6 := cell_regrown e6
      have e7 := cell_regrown e7
      have e8 := cell_regrown e8
      have e9 := cell_regrown e9
      have e10 := cell_regrown e10
      have e11 := cell_regrown e11
      refine wp_region_quiet_below (by kernel_rfl) (by kernel_rfl) ?_
      repeat (go_big_quiet_step ((first | with_reducible exact FSM.out _ _)))
      refine wpQuiet_nil ?_
      intro _ hw'
      obtain ⟨⟨dq, osq⟩, hw''⟩ := hw'
      subst hw''
      go_wp2
      go_roundw
      case rel => exact ⟨z + 1, by go_num, by omega, HB.out.trans ((below_regrown _ _ _).mono HB.out.size)⟩
      case measure => simp [intOf]; omega
    · obtain rfl : z = ds.length := by omega
      clear HO45' HO5' HD45' HD5' HEE hz hlt
      have BW := Lib.hid (B12.out.trans (HB.out.mono B12.out.size))
      have XW := Lib.hid (X12.out.trans (HB.out.mono X12.out.size))
      have OW := Lib.hid (own_kept OM12.out HB.out)
      have YW := Lib.hid (Y12.out.trans (HB.out.mono Y12.out.size))
      have Y5 := X5.out.size
      obtain ⟨g, hg⟩ : ∃ g, (0 < k → R = some ⟨g, 0, none⟩ ∧ w5.heap.size ≤ g ∧ ∃ cs : Array Value, Blk wr g 3 cs ∧ k ≤ cs.size) := by
        rcases OW.out.2 with ⟨_, h0⟩ | ⟨g, cap, cur, hv, hg, hh, h1, h2, h3, h4⟩
        · exact ⟨0, fun h => by omega⟩
        · injection hv with hv1 hv2 hv3
          exact ⟨g, fun _ => ⟨hv1, hg, cur, hh, by omega⟩⟩
      have HGG := Lib.hid hg
      clear hg
      go_wp2_with fail
      go_loopw [24] (fun y wq => ∃ j : Nat, y = .int .i64 (j : Int) ∧ j ≤ k ∧ Below w5.heap.size wr wq ∧ (0 < k → ∃ cs : Array Value, Blk wq g 3 cs ∧ k ≤ cs.size)) (fun y _ => k - (intOf y).toNat)
      case atStart => exact ⟨0, rfl, Nat.zero_le _, Below.refl _ _, fun h => (HGG.out h).2.2⟩
      case round =>
        obtain ⟨j, rfl, hj, hb, hc⟩ := hrel
        have HB2 := Lib.hid hb
        have HC2 := Lib.hid hc
        clear hb hc
        by_cases hlt2 : j < k
        · obtain ⟨hR, hg, -⟩ := HGG.out (by omega)
          obtain ⟨cs, hK, hcs⟩ := HC2.out (by omega)
          subst hR
          have u0 := hK.cell j
          rw [Array.getElem?_eq_getElem (by omega)] at u0
          have f0 := hK.frozen j
          have HK3 := Lib.hid (hK.set_ j (.int .i64 77))
          have HG2 := Lib.hid hg
          clear hK
          go_wp2_with fail
          go_roundw
          case rel => exact ⟨j + 1, by go_num, by omega, HB2.out.setCell HG2.out _, fun _ => ⟨_, HK3.out, by simpa using hcs⟩⟩
          case measure => simp [intOf]; omega
        · obtain rfl : j = k := by omega
          have XQ := Lib.hid (XW.out.trans (HB2.out.mono (by have := X5.out.size; omega)))
          have BQ := Lib.hid (BW.out.trans (HB2.out.mono B5.out.size))
          go_wp2_with fail
          refine (sameTexts_yes A1 Ln c1 LA Ln Lc _ _ ls ls wr (RO3.out.below XQ.out) (HL.out.below BQ.out) (by omega) rfl).mono ?_
          rintro e w13 ⟨rfl, q, rfl⟩
          have XF := Lib.hid (below_drewN XQ.out q)
          have BF := Lib.hid (below_drewN BQ.out q)
          generalize wr.drewN q = w14 at *
          have n0 := (N3.out.below XF.out N3.out.lt).cell 0
          have n1 := (N3.out.below XF.out N3.out.lt).cell 1
          have k0 := (K3.out.below XF.out K3.out.lt).cell 0
          have k1 := (K3.out.below XF.out K3.out.lt).cell 1
          go_wp2_with fail
          refine (rsameGroup_any T n tc l T' n' tc' m A n c A' n' c' w14 ((RT3.out.below XF.out).more XF.out.size) ((RT3'.out.below XF.out).more XF.out.size) ((HR.out.below BF.out).more BF.out.size) ((HR'.out.below BF.out).more BF.out.size) (by omega) (by omega)).mono ?_
          rintro e w15 ⟨rfl, hb⟩
          have BZ := Lib.hid (BF.out.trans (hb.mono BF.out.size))
          clear hb
          go_wp2
          go_ret
          exact ⟨rfl, BZ.out⟩
open Go.ChangeShapes Go.WideShapes Go.Joins in
theorem open_group {H : Type} {enc : TypeId × Value → H} {w : World} {base : Nat} {spare : Nat → Bool} {held : Bool} {r : Reach} {b0 : Nat} {v : Value} {d : DataW H} {ps : List MemPlace}
    (hv : Value.okWide Try.prog w r b0 52 v) (h : DataW.Trod enc Try.prog w base spare held 52 v d ps) : ∃ (A : Option Addr) (n c : Nat) (l : List Int) (A' : Option Addr) (n' c' : Nat) (m : List Int), v = .agg #[.slice A n c, .slice A' n' c'] ∧ IsGroup w A n c l A' n' c' m := by
  obtain ⟨c0, c1, y0, y1, k, rfl, _, _, hy0, hy1⟩ := open_agg2 Try.underlying52 (by kernel_rfl) cellsGroup hv h
  obtain ⟨A, n, c, l, rfl, h0⟩ := ints_trod Try.underlying22 Try.underlying3 (by kernel_rfl) hy0
  obtain ⟨A', n', c', m, rfl, h1⟩ := ints_trod Try.underlying22 Try.underlying3 (by kernel_rfl) hy1
  exact ⟨A, n, c, l, A', n', c', m, rfl, h0, h1⟩
end Go.Proofs.Ytaoekfgeggopbaa
