/-
  log.Commands, Check.
-/
import Derived.Test.YtaoekfgeggopbaaLogMem
import Derived.Test.YtaoekfgeggopbaaQuorumMeets
namespace Go.Proofs.Ytaoekfgeggopbaa
open Go.RowKit
set_option maxHeartbeats 8000000
set_option maxRecDepth 100000
set_option linter.unusedVariables false
set_option linter.unusedSimpArgs false

def tx (l : List ByteArray) : List (List UInt8) := l.map fun s => s.data.toList
theorem tx_len (l : List ByteArray) : (tx l).length = l.length := by simp [tx]
/-- What Commands leaves. -/
def CmdsP (l : List (List UInt8)) (base : Nat) (e : Ending) (w' : World) : Prop := ∃ (ds : List HC) (x : Int) (A : Option Addr) (c : Nat), e = .returned (.tuple #[.slice A ds.length c, .int .i64 x]) ∧ w'.ownsRow base 26 12 (.slice A ds.length c) ds.length (cc ds) ∧
  (∀ D ∈ ds, OwnC w' base D) ∧ (ds.map HC.cmd, x) = Lg.cmdsX l
def CmdsR (l : List (List UInt8)) (w0 : World) (n : Nat) (x2 x13 : Value) (wr : World) : Prop := ∃ (k : Nat) (ds : List HC), x13 = .int .i64 (k : Int) ∧ k ≤ n ∧ ds.length = k ∧ wr.ownsRow w0.heap.size 26 12 x2 k (cc ds) ∧ (∀ D ∈ ds, OwnC wr w0.heap.size D) ∧ Below w0.heap.size w0 wr ∧
  Lg.all l = (Lg.all (l.drop k)).map (ds.map HC.cmd ++ ·)
theorem cmdsP_nil {l : List (List UInt8)} {base : Nat} {x : Int} {w' : World} (h : Lg.cmdsX l = ([], x)) : CmdsP l base (.returned (.tuple #[.slice none 0 0, .int .i64 x])) w' :=
  ⟨[], x, none, 0, rfl, World.ownsRow_nil _ _ _ _, by simp, h.symm⟩

theorem lcommands_any (A : Option Addr) (n c B : Nat) (ls : List ByteArray) (w : World) (hr : Reads w B 1 A n (ct ls)) (hB : B ≤ w.heap.size) (hn : n ≤ 9223372036854775807) (hz : ∀ s ∈ ls, s.size ≤ maxLen) :
    Calls Try.prog 31 #[.slice A n c] w fun e w' => CmdsP (tx ls) w.heap.size e w' ∧ Below w.heap.size w w' := by
  have hl := hr.len_t
  obtain ⟨L, hL⟩ : ∃ L, tx ls = L := ⟨_, rfl⟩
  have hLl : L.length = n := by rw [← hL, tx_len, hl]
  have HLL := Lib.hid hLl
  have HL := Lib.hid hL
  have HR := Lib.hid hr
  have HZ := Lib.hid hz
  have Hl := Lib.hid hl
  rw [hL]
  clear hr hl hz hL hLl
  by_cases hbig : (200 : Int) < (n : Int)
  · have HX := Lib.hid (Lg.cmdsX_long (ls := L) (by have := HLL.out; omega))
    go_enter Try.func31, Try.ntmps31
    go_wp2
    go_ret2
    exact ⟨cmdsP_nil HX.out, Below.refl _ _⟩
  go_enter Try.func31, Try.ntmps31
  go_wp2_with fail
  go_loopw [2, 13] (fun x2 x13 wr => CmdsR L w n x2 x13 wr) (fun _ y _ => n - (intOf y).toNat)
  case atStart => exact ⟨0, [], rfl, Nat.zero_le _, rfl, World.ownsRow_nil _ _ _ _, by simp, Below.refl _ _, by simp⟩
  case round =>
    obtain ⟨k, ds, rfl, hk, hdl, ho, hd, hb, he⟩ := hrel
    have HO := Lib.hid ho
    have HD := Lib.hid hd
    have HB := Lib.hid hb
    have HE := Lib.hid he
    have HDL := Lib.hid hdl
    obtain ⟨A2, c2, rfl⟩ := own_shapeC ho
    clear ho hd hb he hdl
    by_cases hlt : k < n
    · obtain ⟨ad, u, rfl, hbl, hu, hc⟩ := HR.out.at_ hlt
      have hkl : k < ls.length := by rw [Hl.out]; exact hlt
      have hg : ls[k]? = some (ls[k]'hkl) := List.getElem?_eq_getElem hkl
      obtain ⟨s, hs⟩ : ∃ s, ls[k]'hkl = s := ⟨_, rfl⟩
      rw [hs] at hg
      rw [ct_get, hg] at hu
      simp only [Option.map_some, Option.some.injEq] at hu
      subst hu
      have hcw := (HB.out.cell (p := ad.add k) (by rw [block_of_add]; omega)).trans hc
      have HSZ := Lib.hid (HZ.out s (List.mem_of_getElem? hg))
      have HGL : Hid (L.drop k = s.data.toList :: L.drop (k + 1)) := by
        have hkL : k < L.length := by rw [HLL.out]; exact hlt
        rw [Hid, List.drop_eq_getElem_cons hkL]
        have : L[k] = s.data.toList := by
          have h1 : L[k]? = some (s.data.toList) := by rw [← HL.out, tx, List.getElem?_map, hg]; rfl
          rw [List.getElem?_eq_getElem hkL] at h1
          injection h1
        rw [this]
      clear hg hs hc hkl
      go_wp2_with fail
      refine (cread_any s s.data.toList wr HSZ.out rfl).mono ?_
      rintro e w1 ⟨D, x, rfl, hx, hoD, hb⟩
      have HX := Lib.hid hx
      have HOD := Lib.hid ((hoD.mono HB.out.size).below ((Below.refl w1.heap.size w1).alloc (Nat.le_refl _) (.cells #[.int .u8 D.k, .int .i64 D.mi, .slice D.GA D.Gn D.Gc, .int .i64 D.mt, .string D.key, .string D.body, .int .i64 D.i, .int .i64 D.tm, .slice D.MA D.Mn D.Mc, .int .i64 D.tp, .int .i64 D.who, .int .i64 D.n] 26)))
      have HO1 := Lib.hid (own_kept (own_kept HO.out hb) ((Below.refl w1.heap.size w1).alloc (Nat.le_refl _) (.cells #[.int .u8 D.k, .int .i64 D.mi, .slice D.GA D.Gn D.Gc, .int .i64 D.mt, .string D.key, .string D.body, .int .i64 D.i, .int .i64 D.tm, .slice D.MA D.Mn D.Mc, .int .i64 D.tp, .int .i64 D.who, .int .i64 D.n] 26)))
      have HD1 : Hid (∀ E ∈ ds, OwnC (w1.alloc (.cells #[.int .u8 D.k, .int .i64 D.mi, .slice D.GA D.Gn D.Gc, .int .i64 D.mt, .string D.key, .string D.body, .int .i64 D.i, .int .i64 D.tm, .slice D.MA D.Mn D.Mc, .int .i64 D.tp, .int .i64 D.who, .int .i64 D.n] 26)) w.heap.size E) := fun E hE => ((HD.out E hE).below hb).below ((Below.refl w1.heap.size w1).alloc (Nat.le_refl _) (.cells #[.int .u8 D.k, .int .i64 D.mi, .slice D.GA D.Gn D.Gc, .int .i64 D.mt, .string D.key, .string D.body, .int .i64 D.i, .int .i64 D.tm, .slice D.MA D.Mn D.Mc, .int .i64 D.tp, .int .i64 D.who, .int .i64 D.n] 26))
      have HB1 := Lib.hid ((HB.out.trans (hb.mono HB.out.size)).alloc (by have := HB.out.size; have := hb.size; omega) (.cells #[.int .u8 D.k, .int .i64 D.mi, .slice D.GA D.Gn D.Gc, .int .i64 D.mt, .string D.key, .string D.body, .int .i64 D.i, .int .i64 D.tm, .slice D.MA D.Mn D.Mc, .int .i64 D.tp, .int .i64 D.who, .int .i64 D.n] 26))
      have KD := Lib.hid (Blk.new w1 26 #[.int .u8 D.k, .int .i64 D.mi, .slice D.GA D.Gn D.Gc, .int .i64 D.mt, .string D.key, .string D.body, .int .i64 D.i, .int .i64 D.tm, .slice D.MA D.Mn D.Mc, .int .i64 D.tp, .int .i64 D.who, .int .i64 D.n])
      clear hx hoD hb hcw HO HD HB
      by_cases hx0 : x = 0
      · subst hx0
        have c0 := KD.out.cell 0
        have c1 := KD.out.cell 1
        have c2' := KD.out.cell 2
        have c3 := KD.out.cell 3
        have c4 := KD.out.cell 4
        have c5 := KD.out.cell 5
        have c6 := KD.out.cell 6
        have c7 := KD.out.cell 7
        have c8 := KD.out.cell 8
        have c9 := KD.out.cell 9
        have c10 := KD.out.cell 10
        have c11 := KD.out.cell 11
        go_upto_region 9 with fail
        generalize w1.alloc (.cells #[.int .u8 D.k, .int .i64 D.mi, .slice D.GA D.Gn D.Gc, .int .i64 D.mt, .string D.key, .string D.body, .int .i64 D.i, .int .i64 D.tm, .slice D.MA D.Mn D.Mc, .int .i64 D.tp, .int .i64 D.who, .int .i64 D.n] 26) = w2 at *
        have HO2 := Lib.hid (own_kept HO1.out ((Below.refl w2.heap.size w2).alloc (Nat.le_refl _) (.cells #[.int .u8 D.k, .int .i64 D.mi, .slice D.GA D.Gn D.Gc, .int .i64 D.mt, .string D.key, .string D.body, .int .i64 D.i, .int .i64 D.tm, .slice D.MA D.Mn D.Mc, .int .i64 D.tp, .int .i64 D.who, .int .i64 D.n] 26)))
        have HD2 : Hid (∀ E ∈ ds, OwnC (w2.alloc (.cells #[.int .u8 D.k, .int .i64 D.mi, .slice D.GA D.Gn D.Gc, .int .i64 D.mt, .string D.key, .string D.body, .int .i64 D.i, .int .i64 D.tm, .slice D.MA D.Mn D.Mc, .int .i64 D.tp, .int .i64 D.who, .int .i64 D.n] 26)) w.heap.size E) := fun E hE => (HD1.out E hE).below ((Below.refl w2.heap.size w2).alloc (Nat.le_refl _) (.cells #[.int .u8 D.k, .int .i64 D.mi, .slice D.GA D.Gn D.Gc, .int .i64 D.mt, .string D.key, .string D.body, .int .i64 D.i, .int .i64 D.tm, .slice D.MA D.Mn D.Mc, .int .i64 D.tp, .int .i64 D.who, .int .i64 D.n] 26))
        have HOD2 := Lib.hid (HOD.out.below ((Below.refl w2.heap.size w2).alloc (Nat.le_refl _) (.cells #[.int .u8 D.k, .int .i64 D.mi, .slice D.GA D.Gn D.Gc, .int .i64 D.mt, .string D.key, .string D.body, .int .i64 D.i, .int .i64 D.tm, .slice D.MA D.Mn D.Mc, .int .i64 D.tp, .int .i64 D.who, .int .i64 D.n] 26)))
        have HB2 := Lib.hid (HB1.out.alloc HB1.out.size (.cells #[.int .u8 D.k, .int .i64 D.mi, .slice D.GA D.Gn D.Gc, .int .i64 D.mt, .string D.key, .string D.body, .int .i64 D.i, .int .i64 D.tm, .slice D.MA D.Mn D.Mc, .int .i64 D.tp, .int .i64 D.who, .int .i64 D.n] 26))
        have NC := Lib.hid (new_c w2 D)
        go_wp2_with (at_builtin; refine app_c rfl (.tmp 24) (.tmp 26) rfl w.heap.size (.slice A2 k c2) k ds rfl HO2.out _ (some ⟨w2.heap.size, 0, none⟩) 1 D rfl NC.out ?d1 ?d2 ?_)
        case d1 => omega
        case d2 => exact HB2.out.size
        intro v' w4 ho4 hg4
        have HO4 := Lib.hid ho4
        have HB4 := Lib.hid (HB2.out.trans (hg4.below HB2.out.size (fun k hk => (HO2.out.lt k hk).1)))
        have HD4 : Hid (∀ E ∈ ds ++ [D], OwnC w4 w.heap.size E) := by
          intro E hE
          rcases List.mem_append.1 hE with hE | hE
          · exact (HD2.out E hE).grew HO2.out hg4
          · obtain rfl := List.mem_singleton.1 hE
            exact HOD2.out.grew HO2.out hg4
        have HE4 : Hid (Lg.all L = (Lg.all (L.drop (k + 1))).map ((ds ++ [D]).map HC.cmd ++ ·)) := by
          have hx := HX.out
          rw [Hid, HE.out, HGL.out, Lg.all_cons_ok (by rw [← hx]), ← hx]
          cases Lg.all (L.drop (k + 1)) with
          | none => rfl
          | some q => simp
        clear ho4 hg4 NC
        go_wp2
        go_roundw
        case rel => exact ⟨k + 1, ds ++ [D], by go_num, by omega, by have := HDL.out; simp; omega, HO4.out, HD4.out, HB4.out, HE4.out⟩
        case measure => simp [intOf]; omega
      · have HX2 : Hid (Lg.cmdsX L = ([], 8)) := by
          have hx := HX.out
          refine Lg.cmdsX_none (by have := HLL.out; omega) ?_
          rw [HE.out, HGL.out, Lg.all_cons_bad (by rw [← hx]; exact hx0)]
          rfl
        have q0 : (x == 0) = false := beq_eq_false_iff_ne.2 hx0
        go_wp2
        go_ret2
        exact ⟨cmdsP_nil HX2.out, HB1.out⟩
    · have HK : Hid (Lg.all L = some (ds.map HC.cmd)) := by
        have h1 := HE.out
        rw [List.drop_eq_nil_of_le (by have := HLL.out; omega)] at h1
        rw [Hid]
        simpa [Lg.all] using h1
      obtain rfl : n = k := by omega
      go_wp2
      go_ret2
      refine ⟨⟨ds, 0, A2, c2, ?_, ?_, HD.out, ?_⟩, HB.out⟩
      · rw [HDL.out]; rfl
      · rw [HDL.out]; exact HO.out
      · exact (Lg.cmdsX_some (by have := HLL.out; omega) HK.out).symm

theorem lcheck_any (A : Option Addr) (n c B : Nat) (ls : List ByteArray) (w : World) (hr : Reads w B 1 A n (ct ls)) (hB : B ≤ w.heap.size) (hn : n ≤ 9223372036854775807) (hz : ∀ s ∈ ls, s.size ≤ maxLen) (x : Int) (hx : (Lg.cmdsX (tx ls)).2 = x) :
    Calls Try.prog 38 #[.slice A n c] w fun e w' => e = .returned (.int .i64 x) ∧ Below w.heap.size w w' := by
  have H := Lib.hid (lcommands_any A n c B ls w hr hB hn hz)
  have HX := Lib.hid hx
  clear hr hz hx
  go_enter Try.func38, Try.ntmps38
  go_wp2_with fail
  refine H.out.mono ?_
  rintro e w1 ⟨⟨ds, y, A1, c1, rfl, ho, hd, he⟩, hb⟩
  have hy : y = x := by rw [← HX.out, ← he]
  subst hy
  have HB := Lib.hid hb
  clear ho hd he hb H HX
  go_wp2
  go_ret
  exact ⟨rfl, HB.out⟩

/-- slices.Index at texts: the first place of a value, or -1. -/
def Lg.place (v : ByteArray) : Nat → List ByteArray → Int
  | _, [] => -1
  | k, s :: r => if s = v then (k : Int) else Lg.place v (k + 1) r
theorem lindex_any (A : Option Addr) (n c B : Nat) (ls : List ByteArray) (v : ByteArray) (w : World) (hr : Reads w B 1 A n (ct ls)) (hn : n ≤ 9223372036854775807) (x : Int) (hx : Lg.place v 0 ls = x) :
    Calls Try.prog 65 #[.slice A n c, .string v] w fun e w' => e = .returned (.int .i64 x) ∧ w = w' := by
  have Hl := Lib.hid hr.len_t
  have HR := Lib.hid hr
  have HX := Lib.hid hx
  clear hr hx
  go_enter Try.func65, Try.ntmps65
  go_wp2_with fail
  go_loopw [8] (fun y wr => (∃ k : Nat, y = .int .i64 (k : Int) ∧ k ≤ n ∧ Lg.place v k (ls.drop k) = x) ∧ wr = w) (fun y _ => n - (intOf y).toNat)
  case atStart => exact ⟨⟨0, rfl, Nat.zero_le _, HX.out⟩, rfl⟩
  case round =>
    obtain ⟨⟨k, rfl, hk, he⟩, rfl⟩ := hrel
    have HE := Lib.hid he
    clear he
    by_cases hlt : k < n
    · obtain ⟨ad, u, rfl, hbl, hu, hc⟩ := HR.out.at_ hlt
      have hkl : k < ls.length := by rw [Hl.out]; exact hlt
      have hg : ls[k]? = some (ls[k]'hkl) := List.getElem?_eq_getElem hkl
      obtain ⟨s, hs⟩ : ∃ s, ls[k]'hkl = s := ⟨_, rfl⟩
      rw [hs] at hg
      rw [ct_get, hg] at hu
      simp only [Option.map_some, Option.some.injEq] at hu
      subst hu
      have HE2 := Lib.hid HE.out
      rw [List.drop_eq_getElem_cons hkl, hs, Lg.place] at HE2
      clear hg hs hkl HE
      by_cases hv : s = v
      · subst hv
        have hxk : Hid (x = (k : Int)) := by rw [Hid, ← HE2.out, if_pos rfl]
        go_wp2
        go_ret
        rw [hxk.out]
        exact ⟨rfl, by trivial⟩
      · have HE3 : Hid (Lg.place v (k + 1) (ls.drop (k + 1)) = x) := by rw [Hid, ← HE2.out, if_neg hv]
        have hq : (v.toList == s.toList) = false := beq_eq_false_iff_ne.2 fun e => hv (data_inj (by rw [← toList_of, ← toList_of]; exact e.symm))
        have hq2 : (s.toList == v.toList) = false := beq_eq_false_iff_ne.2 fun e => hv (data_inj (by rw [← toList_of, ← toList_of]; exact e))
        clear HE2 hv
        go_wp2
        go_roundw
        case rel => exact ⟨⟨k + 1, by go_num, by omega, HE3.out⟩, by trivial⟩
        case measure => simp [intOf]; omega
    · have HE2 := Lib.hid HE.out
      rw [List.drop_eq_nil_of_le (by have := Hl.out; omega), Lg.place] at HE2
      have hx1 : Hid (x = -1) := HE2.out.symm
      go_wp2
      go_ret
      rw [hx1.out]
      exact ⟨rfl, by trivial⟩

theorem Lg.place_in (v : ByteArray) : ∀ (ls : List ByteArray) (k : Nat), Lg.place v k ls = -1 ∨ ((k : Int) ≤ Lg.place v k ls ∧ Lg.place v k ls < (k : Int) + ls.length)
  | [], k => Or.inl rfl
  | s :: r, k => by
    rw [Lg.place]
    split
    · right; simp only [List.length_cons]; omega
    · rcases Lg.place_in v r (k + 1) with h | h
      · exact Or.inl h
      · right; simp only [List.length_cons]; omega
theorem lfind_bad (A : Option Addr) (n c B : Nat) (ls : List ByteArray) (v : ByteArray) (w : World) (hr : Reads w B 1 A n (ct ls)) (hB : B ≤ w.heap.size) (hn : n ≤ 9223372036854775807) (hz : ∀ s ∈ ls, s.size ≤ maxLen) (x : Int) (hx : (Lg.cmdsX (tx ls)).2 = x) (hx0 : x ≠ 0) :
    Calls Try.prog 35 #[.slice A n c, .string v] w fun e w' => e = .returned (.tuple #[.int .i64 0, .bool false, .int .i64 x]) ∧ Below w.heap.size w w' := by
  have H := Lib.hid (lcheck_any A n c B ls w hr hB hn hz x hx)
  have q0 : (x == 0) = false := beq_eq_false_iff_ne.2 hx0
  clear hr hz hx
  go_enter Try.func35, Try.ntmps35
  go_wp2_with fail
  refine H.out.mono ?_
  rintro e w1 ⟨rfl, hb⟩
  have HB := Lib.hid hb
  clear hb H
  go_wp2
  go_ret3
  exact ⟨rfl, HB.out⟩
theorem lfind_ok (A : Option Addr) (n c B : Nat) (ls : List ByteArray) (v : ByteArray) (w : World) (hr : Reads w B 1 A n (ct ls)) (hB : B ≤ w.heap.size) (hn : n ≤ 1000000) (hz : ∀ s ∈ ls, s.size ≤ maxLen) (p : Int) (hx : (Lg.cmdsX (tx ls)).2 = 0) (hp : Lg.place v 0 ls = p) (b : Bool) (hb : decide (0 ≤ p) = b) :
    Calls Try.prog 35 #[.slice A n c, .string v] w fun e w' => e = .returned (.tuple #[.int .i64 (p + 1), .bool b, .int .i64 0]) ∧ Below w.heap.size w w' := by
  have H := Lib.hid (lcheck_any A n c B ls w hr hB (by omega) hz 0 hx)
  have hin := Lg.place_in v ls 0
  rw [hp, hr.len_t] at hin
  have hp0 : -1 ≤ p := by omega
  have hp1 : p ≤ 1000000 := by omega
  have HR := Lib.hid hr
  have HP := Lib.hid hp
  have HBB := Lib.hid hb
  clear hr hz hx hin hp
  go_enter Try.func35, Try.ntmps35
  go_wp2_with fail
  refine H.out.mono ?_
  rintro e w1 ⟨rfl, hb⟩
  have HB := Lib.hid hb
  have HR1 := Lib.hid (HR.out.below (hb.mono hB))
  clear hb H
  go_wp2_with fail
  refine (lindex_any A n c B ls v w1 HR1.out (by omega) p HP.out).mono ?_
  rintro e w' ⟨rfl, rfl⟩
  go_wp2
  go_ret3
  exact ⟨rfl, HB.out⟩
end Go.Proofs.Ytaoekfgeggopbaa
