/-
  log.Members.
-/
import Derived.Test.YtaoekfgeggopbaaLogBack
import Derived.Test.YtaoekfgeggopbaaQuorumGroup
namespace Go.Proofs.Ytaoekfgeggopbaa
open Go.RowKit Go.Shelf
set_option maxHeartbeats 8000000
set_option maxRecDepth 100000
set_option linter.unusedVariables false
set_option linter.unusedSimpArgs false

namespace Lg
open Cp
def good (rost : List Int) (c : Cmd) : Bool := c.k == 3 && !(c.mem.any fun x => !decide (x ∈ rost))
def memX (rost mem : List Int) (l : List Cmd) : List Int := match l.reverse.find? (good rost) with
  | some c => c.mem
  | none => mem
def members (rost mem : List Int) (ls : List (List UInt8)) : List Int × Int :=
  if cgroup rost mem = 0 then (if (cmdsX ls).2 = 0 then (memX rost mem (cmdsX ls).1, 0) else ([], (cmdsX ls).2)) else ([], cgroup rost mem)
theorem members_bad {rost mem : List Int} {ls : List (List UInt8)} {x : Int} (h : cgroup rost mem = x) (hx : x ≠ 0) : members rost mem ls = ([], x) := by
  unfold members; rw [h, if_neg hx]
theorem members_bad2 {rost mem : List Int} {ls : List (List UInt8)} {x : Int} (h : cgroup rost mem = 0) (h2 : (cmdsX ls).2 = x) (hx : x ≠ 0) : members rost mem ls = ([], x) := by
  unfold members; rw [if_pos h, h2, if_neg hx]
theorem members_ok {rost mem : List Int} {ls : List (List UInt8)} {l : List Cmd} (h : cgroup rost mem = 0) (h2 : cmdsX ls = (l, 0)) : members rost mem ls = (memX rost mem l, 0) := by
  unfold members; rw [if_pos h, h2, if_pos rfl]
end Lg
theorem Lg.cmdsX_len {ls : List (List UInt8)} {l : List Cp.Cmd} (h : Lg.cmdsX ls = (l, 0)) : l.length = ls.length := by
  by_cases hb : 200 < ls.length
  · rw [Lg.cmdsX_long hb] at h; cases h
  · cases ha : Lg.all ls with
    | none => rw [Lg.cmdsX_none hb ha] at h; cases h
    | some q =>
      rw [Lg.cmdsX_some hb ha] at h
      injection h with h
      subst h
      exact Lg.all_len ha
theorem down_none {cs : List HC} {rost : List Int} {ys : List (IX cs)} (h : Down cs.length ys) (hl : ys.length = cs.length) (hb : ∀ x ∈ ys, Lg.good rost x.1.2.cmd = false) : (cs.map HC.cmd).reverse.find? (Lg.good rost) = none := by
  rw [List.find?_eq_none]
  intro c hc
  rw [List.mem_reverse, List.mem_map] at hc
  obtain ⟨D, hD, rfl⟩ := hc
  obtain ⟨k, hk, hkD⟩ := List.mem_iff_getElem.1 hD
  have hi : cs.length - 1 - k < ys.length := by omega
  have hx := List.getElem?_eq_getElem hi
  obtain ⟨x, hxe⟩ : ∃ x, ys[cs.length - 1 - k]'hi = x := ⟨_, rfl⟩
  rw [hxe] at hx
  have h1 := h _ _ hx
  have h2 := x.2
  rw [show x.1.1 = k by omega, List.getElem?_eq_getElem hk, hkD] at h2
  injection h2 with h2
  rw [h2, hb x (List.mem_of_getElem? hx)]
  simp
theorem down_last {cs : List HC} {rost : List Int} {ini : List (IX cs)} {last : IX cs} (h : Down cs.length (ini ++ [last])) (hb : ∀ x ∈ ini, Lg.good rost x.1.2.cmd = false) (hg : Lg.good rost last.1.2.cmd = true) : (cs.map HC.cmd).reverse.find? (Lg.good rost) = some last.1.2.cmd := by
  have h0 := h ini.length last (by simp)
  obtain ⟨k, hk⟩ : ∃ k, last.1.1 = k := ⟨_, rfl⟩
  rw [hk] at h0
  have hl := last.2
  rw [hk] at hl
  have hkl : k < cs.length := by omega
  rw [List.find?_eq_some_iff_append]
  refine ⟨hg, ((cs.drop (k + 1)).map HC.cmd).reverse, ((cs.take k).map HC.cmd).reverse, ?_, ?_⟩
  · have e : cs = cs.take k ++ last.1.2 :: cs.drop (k + 1) := by
      have h1 := List.getElem?_eq_getElem hkl
      rw [hl] at h1
      injection h1 with h1
      rw [h1, ← List.drop_eq_getElem_cons hkl, List.take_append_drop]
    rw [show (cs.map HC.cmd).reverse = ((cs.take k ++ last.1.2 :: cs.drop (k + 1)).map HC.cmd).reverse by rw [← e]]
    simp
  · intro c hc
    rw [List.mem_reverse, List.mem_map] at hc
    obtain ⟨D, hD, rfl⟩ := hc
    obtain ⟨i, hi, hiD⟩ := List.mem_iff_getElem.1 hD
    rw [List.length_drop] at hi
    rw [List.getElem_drop] at hiD
    have hj : cs.length - 1 - (k + 1 + i) < ini.length := by omega
    have hx := List.getElem?_eq_getElem hj
    obtain ⟨x, hxe⟩ : ∃ x, ini[cs.length - 1 - (k + 1 + i)]'hj = x := ⟨_, rfl⟩
    rw [hxe] at hx
    have h1 := h (cs.length - 1 - (k + 1 + i)) x (by rw [List.getElem?_append_left hj]; exact hx)
    have h2 := x.2
    rw [show x.1.1 = k + 1 + i by omega, List.getElem?_eq_getElem (by omega), hiD] at h2
    injection h2 with h2
    rw [h2, hb x (List.mem_of_getElem? hx)]
    rfl

/-- What Members leaves. -/
def MemP (l m : List Int) (ls : List (List UInt8)) (base : Nat) (e : Ending) (w' : World) : Prop := ∃ (R : Option Addr) (k c : Nat) (r : List Int) (x : Int), e = .returned (.tuple #[.slice R k c, .int .i64 x]) ∧ w'.ownsRow base 3 1 (.slice R k c) k (ci r) ∧ Lg.members l m ls = (r, x)
theorem memP_bad {l m : List Int} {ls : List (List UInt8)} {base : Nat} {x : Int} {w' : World} (h : Lg.members l m ls = ([], x)) : MemP l m ls base (.returned (.tuple #[.slice none 0 0, .int .i64 x])) w' :=
  ⟨none, 0, 0, [], x, rfl, World.ownsRow_nil _ _ _ _, h⟩

/-- The result's cells, the row they name, and what lay before. -/
def Got (w : World) (v : Value) (x : Int) (k : Nat) (r : List Int) (W : World) : Prop :=
  W.cell? ⟨w.heap.size + 1, 0, none⟩ = some v ∧ W.cell? ⟨w.heap.size + 1 + 1, 0, none⟩ = some (.int .i64 x) ∧ W.ownsRow w.heap.size 3 1 v k (ci r) ∧ Below w.heap.size w W
theorem Got.kept {w W W' : World} {v : Value} {x : Int} {k : Nat} {r : List Int} {row : Option Nat} (h : Got w v x k r W) (hg : W.grownBy W' row) (hr : ∀ q, row = some q → w.heap.size ≤ q ∧ ∃ o : Obj, W.heap[q]? = some o ∧ o.isCells = false) : Got w v x k r W' := by
  obtain ⟨h1, h2, h3, h4⟩ := h
  refine ⟨cell_kept h1 hg (fun q e => (hr q e).2), cell_kept h2 hg (fun q e => (hr q e).2), own_keepC h3 fun g hgb => ?_, h4.grown hg h4.size fun q e => (hr q e).1⟩
  obtain ⟨cs, hc⟩ := own_typeC h3 hgb
  refine hg.block g (Array.getElem?_eq_some_iff.1 hc).1 fun e => ?_
  obtain ⟨o, ho, hn⟩ := (hr g e.symm).2
  rw [hc] at ho
  injection ho with ho
  subst ho
  cases hn
theorem Got.stored {w W : World} {v0 u0 : Value} {v : Value} {x : Int} {k : Nat} {r : List Int} (k4 : Blk W (w.heap.size + 1) 22 #[v0]) (k5 : Blk W (w.heap.size + 1 + 1) 29 #[u0]) (ho : W.ownsRow w.heap.size 3 1 v k (ci r)) (hb : Below w.heap.size w W) :
    Got w v x k r ((W.setCell ⟨w.heap.size + 1, 0, none⟩ v).setCell ⟨w.heap.size + 1 + 1, 0, none⟩ (.int .i64 x)) := by
  have q4 : Blk (W.setCell ⟨w.heap.size + 1, 0, none⟩ v) (w.heap.size + 1) 22 #[v] := by simpa using k4.set_ 0 v
  have q5 : Blk (W.setCell ⟨w.heap.size + 1, 0, none⟩ v) (w.heap.size + 1 + 1) 29 #[u0] := k5.far (by simp) v
  have r4 : Blk ((W.setCell ⟨w.heap.size + 1, 0, none⟩ v).setCell ⟨w.heap.size + 1 + 1, 0, none⟩ (.int .i64 x)) (w.heap.size + 1) 22 #[v] := q4.far (by simp) _
  have r5 : Blk ((W.setCell ⟨w.heap.size + 1, 0, none⟩ v).setCell ⟨w.heap.size + 1 + 1, 0, none⟩ (.int .i64 x)) (w.heap.size + 1 + 1) 29 #[.int .i64 x] := by simpa using q5.set_ 0 (.int .i64 x)
  refine ⟨r4.cell 0, r5.cell 0, ?_, (hb.setCell (p := ⟨w.heap.size + 1, 0, none⟩) (by simp) _).setCell (p := ⟨w.heap.size + 1 + 1, 0, none⟩) (by simp; omega) _⟩
  have o1 := ownsRow_setCell_other ho (a := ⟨w.heap.size + 1, 0, none⟩) (own_blk_ne ho k4 (by decide)) v
  exact ownsRow_setCell_other o1 (a := ⟨w.heap.size + 1 + 1, 0, none⟩) (own_blk_ne o1 q5 (by decide)) _
/-- The mark is taken over: the call ends. -/
theorem Got.leave {w W : World} {R : Option Addr} {c : Nat} {x : Int} {k : Nat} {r : List Int} (h : Got w (.slice R k c) x k r W) {l m : List Int} {ls : List (List UInt8)} (hm : Lg.members l m ls = (r, x)) {D : Nat} (hK : W.heap[D]? = some (.deferred (some []))) (hD : w.heap.size ≤ D) (tmps : Array Value)
    (h4 : tmps[4]? = some (.pointer (some ⟨w.heap.size + 1, 0, none⟩))) (h5 : tmps[5]? = some (.pointer (some ⟨w.heap.size + 1 + 1, 0, none⟩))) :
    bodyPostM Fence.wide 10 Try.prog Try.f33 (fun e w' => MemP l m ls w.heap.size e w' ∧ Below w.heap.size w w') .ret { tmps := tmps, defers := [{ target := .collected D, args := #[] }] } W := by
  refine ⟨by simp, .inl ⟨_, _, rfl, run_takeDeferred hK, ?_⟩⟩
  have h2 := h.kept (grownBy_putObj' W D (.deferred none)) (fun q e => by cases e; exact ⟨hD, _, hK, rfl⟩)
  obtain ⟨c4, c5, ho, hb⟩ := h2
  refine ⟨.tuple #[.slice R k c, .int .i64 x], ?_, ⟨R, k, c, r, x, rfl, ho, hm⟩, hb⟩
  simp [results, Try.f33, go_sem, h4, h5, c4, c5]
theorem Got.leave0 {w W : World} {R : Option Addr} {c : Nat} {x : Int} {k : Nat} {r : List Int} (h : Got w (.slice R k c) x k r W) {l m : List Int} {ls : List (List UInt8)} (hm : Lg.members l m ls = (r, x)) (tmps : Array Value)
    (h4 : tmps[4]? = some (.pointer (some ⟨w.heap.size + 1, 0, none⟩))) (h5 : tmps[5]? = some (.pointer (some ⟨w.heap.size + 1 + 1, 0, none⟩))) :
    bodyPostM Fence.wide 10 Try.prog Try.f33 (fun e w' => MemP l m ls w.heap.size e w' ∧ Below w.heap.size w w') .ret { tmps := tmps, defers := [] } W := by
  obtain ⟨c4, c5, ho, hb⟩ := h
  refine ⟨.tuple #[.slice R k c, .int .i64 x], ?_, ⟨R, k, c, r, x, rfl, ho, hm⟩, hb⟩
  simp [results, Try.f33, go_sem, h4, h5, c4, c5]

attribute [local go_sem] Oper.semAt_some
theorem lmembers_any (A : Option Addr) (n c : Nat) (l : List Int) (A' : Option Addr) (n' c' : Nat) (m : List Int) (LA : Option Addr) (Ln Lc : Nat) (ls : List ByteArray) (w : World) (hr : Reads w w.heap.size 1 A n (ci l)) (hr' : Reads w w.heap.size 1 A' n' (ci m)) (hl : Reads w w.heap.size 1 LA Ln (ct ls))
    (hn : n ≤ 9223372036854775807) (hn' : n' ≤ 9223372036854775807) (hLn : Ln ≤ 1000000000) (hz : ∀ s ∈ ls, s.size ≤ maxLen) :
    Calls Try.prog 33 #[.agg #[.slice A n c, .slice A' n' c'], .slice LA Ln Lc] w fun e w' => MemP l m (tx ls) w.heap.size e w' ∧ Below w.heap.size w w' := by
  obtain ⟨cg, hcg⟩ : ∃ x, cgroup l m = x := ⟨_, rfl⟩
  have HCG := Lib.hid hcg
  have B3 : Hid (Below w.heap.size w (((w.alloc (.cells #[.slice A n c, .slice A' n' c'] 52)).alloc (.cells #[.slice none 0 0] 22)).alloc (.cells #[.int .i64 0] 29))) := by
    exact (((Below.refl _ _).alloc (Nat.le_refl _) _).alloc (by simp) _).alloc (by simp; omega) _
  have KG : Hid (Blk (((w.alloc (.cells #[.slice A n c, .slice A' n' c'] 52)).alloc (.cells #[.slice none 0 0] 22)).alloc (.cells #[.int .i64 0] 29)) w.heap.size 52 #[.slice A n c, .slice A' n' c']) := ((Blk.new w _ _).alloc _).alloc _
  have KR : Hid (Blk (((w.alloc (.cells #[.slice A n c, .slice A' n' c'] 52)).alloc (.cells #[.slice none 0 0] 22)).alloc (.cells #[.int .i64 0] 29)) (w.heap.size + 1) 22 #[.slice none 0 0]) := by
    have := (Blk.new (w.alloc (.cells #[.slice A n c, .slice A' n' c'] 52)) 22 #[.slice none 0 0]).alloc (.cells #[.int .i64 0] 29)
    rwa [World.size_alloc] at this
  have KE : Hid (Blk (((w.alloc (.cells #[.slice A n c, .slice A' n' c'] 52)).alloc (.cells #[.slice none 0 0] 22)).alloc (.cells #[.int .i64 0] 29)) (w.heap.size + 1 + 1) 29 #[.int .i64 0]) := by
    have := (Blk.new ((w.alloc (.cells #[.slice A n c, .slice A' n' c'] 52)).alloc (.cells #[.slice none 0 0] 22)) 29 #[.int .i64 0])
    rwa [World.size_alloc, World.size_alloc] at this
  generalize hw3 : ((w.alloc (.cells #[.slice A n c, .slice A' n' c'] 52)).alloc (.cells #[.slice none 0 0] 22)).alloc (.cells #[.int .i64 0] 29) = w3 at *
  have HW3 := Lib.hid hw3
  have s3 : Hid (w3.heap.size = w.heap.size + 1 + 1 + 1) := by rw [Hid, ← hw3]; simp
  have HR := Lib.hid hr
  have HR' := Lib.hid hr'
  have HL := Lib.hid hl
  have HZ := Lib.hid hz
  have HG := Lib.hid (qgroup_any A n c l A' n' c' m w3 ((hr.below B3.out).more B3.out.size) ((hr'.below B3.out).more B3.out.size) (by omega) (by omega))
  have HC := Lib.hid fun w1 (hb : Below w3.heap.size w3 w1) => lcommands_any LA Ln Lc w.heap.size ls w1 ((hl.below B3.out).below (hb.mono B3.out.size)) (by have := hb.size; have := B3.out.size; omega) (by omega) hz
  rw [hcg] at HG
  clear hr hr' hl hz hcg
  refine (callsIn_wide (n := 10)).1 ?_
  refine callsIn_of_wp_marks Try.func33 rfl trivial ?_ rfl
  simp only [Try.ntmps33, List.size_toArray, List.length_cons, List.length_nil, Nat.reduceAdd, Nat.reduceSub, Array.replicate_succ, Array.replicate_zero, List.push_toArray, List.append_toArray, List.nil_append, List.cons_append]
  refine wpIn_wide.2 ?_
  go_upto_region 1 with fail
  clear hw3
  have c0 := KG.out.cell 0
  have c1 := KG.out.cell 1
  go_wp2_with fail
  refine HG.out.mono ?_
  rintro e w1 ⟨rfl, hb⟩
  have HB1 := Lib.hid hb
  have HC1 := Lib.hid (HC.out w1 hb)
  have KG1 := Lib.hid (KG.out.below hb KG.out.lt)
  have KR1 := Lib.hid (KR.out.below hb KR.out.lt)
  have KE1 := Lib.hid (KE.out.below hb KE.out.lt)
  have s1 := hb.size
  clear hb HC HG KG KR KE c0 c1
  by_cases hcg0 : cg = 0
  · subst hcg0
    obtain ⟨hck1, hck2, _⟩ := cgroup_zero HCG.out
    have hq1 := (check_zero hck1).2
    have hq2 := (check_zero hck2).2
    have hq3 := HR.out.len_i
    have hq4 := HR'.out.len_i
    have hn6 : n ≤ 6 := by omega
    have hn7 : n' ≤ 6 := by omega
    clear hck1 hck2 hq1 hq2 hq3 hq4
    go_wp2_with fail
    refine HC1.out.mono ?_
    rintro e w2 ⟨⟨ds, x, DA, dc, rfl, ho, hd, he⟩, hb⟩
    have HB2 := Lib.hid hb
    have KG2 := Lib.hid (KG1.out.below hb KG1.out.lt)
    have KR2 := Lib.hid (KR1.out.below hb KR1.out.lt)
    have KE2 := Lib.hid (KE1.out.below hb KE1.out.lt)
    have HO := Lib.hid ho
    have HD := Lib.hid hd
    have HE := Lib.hid he
    have s2 := hb.size
    clear ho hd he hb HC1 KG1 KR1 KE1
    by_cases hx0 : x = 0
    · subst hx0
      have HX : Hid (Lg.cmdsX (tx ls) = (ds.map HC.cmd, 0)) := HE.out.symm
      have HM := Lib.hid (Lg.members_ok HCG.out HX.out)
      go_wp2_with fail
      refine (back_any DA ds.length dc w2).mono ?_
      rintro e W0 ⟨rfl, hW0⟩
      have hbk : Below w2.heap.size w2 W0 := by rw [hW0]; exact (Below.refl _ _).alloc (Nat.le_refl _) _
      have HBK := Lib.hid (hbk)
      have KS : Hid (Blk W0 w2.heap.size 55 #[.slice DA ds.length dc]) := by rw [hW0]; exact Blk.new _ _ _
      have s0 : W0.heap.size = w2.heap.size + 1 := by rw [hW0]; simp
      have KG0 := Lib.hid (KG2.out.below hbk KG2.out.lt)
      have KR0 := Lib.hid (KR2.out.below hbk KR2.out.lt)
      have KE0 := Lib.hid (KE2.out.below hbk KE2.out.lt)
      have HO0 := Lib.hid (own_kept HO.out hbk)
      have HD0 : Hid (∀ D ∈ ds, OwnC W0 w1.heap.size D) := fun D hD => (HD.out D hD).below hbk
      have HW0 : Hid (Below w.heap.size w W0) := B3.out.trans ((HB1.out.mono B3.out.size).trans ((HB2.out.mono (by have := s3.out; omega)).trans (hbk.mono (by have := s3.out; omega))))
      have hdl : ds.length ≤ 1000000000 := by
        have h1 := Lg.cmdsX_len HX.out
        rw [List.length_map, tx_len, HL.out.len_t] at h1
        omega
      clear hW0 hbk HO HD KG2 KR2 KE2 HE
      have hsz : w.heap.size + 3 ≤ w1.heap.size := by have := s3.out; omega
      go_wp2_with fail
      refine (wpIn_wide (n := 10)).1 ?_
      refine wpIn_rangeFunc_ownH (F := Fence.wide) (n := 10) rfl (by omega) (gf := 88) (lb := #[.pointer (some ⟨w2.heap.size, 0, none⟩)]) rfl trivial (enters_of Try.func88 (by kernel_rfl) rfl)
        (back_stops Fence.wide 9 trivial rfl (by omega) w2.heap.size W0.heap.size DA ds.length dc ds hdl W0 (by omega) (Nat.le_refl _) (KS.out.cell 0) (own_readsC HO0.out)) belowK_t (belowK_b (Nat.le_refl _)) (Below.refl _ _) (fun _ => rfl)
        (fun pre W => (∀ x ∈ pre, Lg.good l x.1.2.cmd = false) ∧ Below W0.heap.size W0 W)
        (fun cd pre W => (cd = .ret ∧ ∃ ini last, pre = ini ++ [last] ∧ (∀ x ∈ ini, Lg.good l x.1.2.cmd = false) ∧ Lg.good l last.1.2.cmd = true ∧ Got w (.slice last.1.2.MA last.1.2.Mn last.1.2.Mc) 0 last.1.2.Mn last.1.2.mem W))
        (OwnFrom.and (ownFrom_pure _ _) (ownFrom_below (Nat.le_refl _) (Nat.le_refl _)))
        ?ix
        ⟨by simp, Below.refl _ _⟩
        (fun x a' W => ∃ Bx, W0.heap.size ≤ Bx ∧ Blk W Bx 26 #[.int .u8 x.1.2.k, .int .i64 x.1.2.mi, .slice x.1.2.GA x.1.2.Gn x.1.2.Gc, .int .i64 x.1.2.mt, .string x.1.2.key, .string x.1.2.body, .int .i64 x.1.2.i, .int .i64 x.1.2.tm, .slice x.1.2.MA x.1.2.Mn x.1.2.Mc, .int .i64 x.1.2.tp, .int .i64 x.1.2.who, .int .i64 x.1.2.n] ∧ a' = { tmps := #[.agg #[.slice A n c, .slice A' n' c'], .slice LA Ln Lc, .pointer (some ⟨w.heap.size, 0, none⟩), undef, .pointer (some ⟨w.heap.size + 1, 0, none⟩), .pointer (some ⟨w.heap.size + 1 + 1, 0, none⟩), .int .i64 0, .slice DA ds.length dc, .int .i64 0, undef, .pointer (some ⟨Bx, 0, none⟩), .agg #[.slice A n c, .slice A' n' c'], .int .i64 0, .int .i64 0, .bool false, undef, .tuple #[.slice DA ds.length dc, .int .i64 0], .slice LA Ln Lc, .tuple #[.slice DA ds.length dc, .int .i64 0], .slice DA ds.length dc, .int .i64 0, .int .i64 0, .bool false, undef, .slice DA ds.length dc, .func (.func 88) #[] #[.pointer (some ⟨w2.heap.size, 0, none⟩)], .int .i64 (x.1.1 : Int), .agg #[.int .u8 x.1.2.k, .int .i64 x.1.2.mi, .slice x.1.2.GA x.1.2.Gn x.1.2.Gc, .int .i64 x.1.2.mt, .string x.1.2.key, .string x.1.2.body, .int .i64 x.1.2.i, .int .i64 x.1.2.tm, .slice x.1.2.MA x.1.2.Mn x.1.2.Mc, .int .i64 x.1.2.tp, .int .i64 x.1.2.who, .int .i64 x.1.2.n], undef, undef, undef, undef, undef, undef, undef, undef, undef, undef, undef, undef, undef], defers := [] })
        ?ax ?assign ?body ?done ?hstop
      case ix =>
        intro cd s A1 B1 row hs hg hr
        obtain ⟨h1, ini, last, h2, h3, h4, h5⟩ := hs
        exact ⟨h1, ini, last, h2, h3, h4, h5.kept hg fun q e => ⟨by have := (hr q e).1; omega, (hr q e).2⟩⟩
      case ax =>
        intro x a' _ A1 B1 row hs hg hr
        obtain ⟨Bx, h1, h2, h3⟩ := hs
        exact ⟨Bx, h1, (grownBy_keeps_cells hg (fun q e => (hr q e).2) h2 rfl).trans h2, h3⟩
      case assign =>
        rintro l0 pre ⟨⟨j, D⟩, hD⟩ W K ⟨hi, hib⟩ hK
        dsimp only [encIX]
        gi_wp2
        exact hK _ _ ((KeepsOthers.alloc _ _).from _) ((Below.refl _ W).alloc hib.size _) ⟨hi, hib.alloc hib.size _⟩ ⟨W.heap.size, hib.size, Blk.new W _ _, rfl⟩
      case body =>
        rintro l0 pre ⟨⟨j, D⟩, hD⟩ a' W hl ⟨r, hrr⟩ ⟨hng, hbw⟩ ⟨Bx, hBx, bX, rfl⟩ hlt
        have hDm : D ∈ ds := List.mem_of_getElem? hD
        have hoc := ((HD0.out D hDm).mono (show w.heap.size ≤ w1.heap.size by omega)).below hbw
        have HOC := Lib.hid hoc
        have hat := hoc.at_
        have hmn : D.Mn ≤ 9223372036854775807 := by have := hat.mc; have := hat.mm; omega
        have hwW : Below w.heap.size w W := HW0.out.trans (hbw.mono HW0.out.size)
        have RA : RAt W w.heap.size l := ⟨A, n, c, A', n', c', KG0.out.below hbw KG0.out.lt, (HR.out.below hwW).more hwW.size, by omega⟩
        obtain ⟨bb, hbb⟩ : ∃ b, (D.mem.any fun x => !decide (x ∈ l)) = b := ⟨_, rfl⟩
        have HCF := Lib.hid (lcontF_any w.heap.size l D.MA D.Mn D.Mc D.mem W bb hbb hat.rm hmn RA)
        have HG : Hid (Lg.good l D.cmd = (D.k == 3 && !bb)) := by rw [Hid, ← hbb]; rfl
        have c0 : W.cell? ⟨Bx, 0, none⟩ = some (.int .u8 D.k) := bX.cell 0
        have c8 : W.cell? ⟨Bx, 8, none⟩ = some (.slice D.MA D.Mn D.Mc) := bX.cell 8
        have KRW := Lib.hid (KR0.out.below hbw KR0.out.lt)
        have KEW := Lib.hid (KE0.out.below hbw KE0.out.lt)
        have HNG := Lib.hid hng
        have HBW := Lib.hid hbw
        have HWW := Lib.hid hwW
        clear hoc hat RA hbb hng hbw hwW hrr
        have goes : Lg.good l D.cmd = false → ∀ x ∈ pre ++ [(⟨(j, D), hD⟩ : IX ds)], Lg.good l x.1.2.cmd = false := by
          intro hf x hx
          rcases List.mem_append.1 hx with hx | hx
          · exact HNG.out x hx
          · obtain rfl := List.mem_singleton.1 hx
            exact hf
        have GO := Lib.hid goes
        clear goes
        by_cases hk : D.k = 3
        · rw [hk] at c0
          have h1' : 1 ≤ (10 : Nat) - 1 - 1 := by omega
          cases bb with
          | true =>
            have HG2 : Hid (Lg.good l D.cmd = false) := by rw [Hid, HG.out]; simp
            gi_wp2_with (refine ⟨trivial, ?_⟩; gi_at_call 60; refine (CallsIn.inRound l0 (callsIn_wide.2 HCF.out)).mono ?_; rintro e w' ⟨rfl, rfl⟩)
            exact ⟨KeepsFrom.refl _ _, Below.refl _ _, by first | exact GO.out HG2.out | exact fun a b h hm => GO.out HG2.out ⟨(a, b), h⟩ hm, by first | exact HBW.out | (have h := HBW.out; rw [s0] at h; exact h)⟩
          | false =>
            have HG2 : Hid (Lg.good l D.cmd = true) := by rw [Hid, HG.out, hk]; rfl
            have GT := Lib.hid (Got.stored (w := w) (v := .slice D.MA D.Mn D.Mc) (x := 0) (k := D.Mn) (r := D.mem) KRW.out KEW.out HOC.out.om HWW.out)
            have cr := KRW.out.cell 0
            have ce := KEW.out.cell 0
            have fr := KRW.out.frozen 0
            have fe := KEW.out.frozen 0
            gi_wp2_with (refine ⟨trivial, ?_⟩; gi_at_call 60; refine (CallsIn.inRound l0 (callsIn_wide.2 HCF.out)).mono ?_; rintro e w' ⟨rfl, rfl⟩)
            exact ⟨((KeepsOthers.setCell _ _ _).from _).trans ((KeepsOthers.setCell _ _ _).from _), rfl, pre, _, rfl, HNG.out, HG2.out, GT.out⟩
        · have q0 : (D.k == 3) = false := beq_eq_false_iff_ne.2 hk
          have HG2 : Hid (Lg.good l D.cmd = false) := by rw [Hid, HG.out, q0]; rfl
          gi_wp2
          exact ⟨KeepsFrom.refl _ _, Below.refl _ _, by first | exact GO.out HG2.out | exact fun a b h hm => GO.out HG2.out ⟨(a, b), h⟩ hm, by first | exact HBW.out | (have h := HBW.out; rw [s0] at h; exact h)⟩
      case done =>
        rintro D ys W hD ⟨hdn, hyl⟩ ⟨hng, hbw⟩ hK
        have hwW : Below w.heap.size w W := HW0.out.trans (hbw.mono HW0.out.size)
        have HM2 : Hid (Lg.members l m (tx ls) = (m, 0)) := by
          rw [Hid, HM.out]
          unfold Lg.memX
          rw [down_none hdn hyl hng]
        have HCL := Lib.hid (cloneI_any A' n' c' m W w.heap.size (HR'.out.below hwW) hwW.size (by omega))
        have KGW := Lib.hid (KG0.out.below hbw KG0.out.lt)
        have KRW := Lib.hid (KR0.out.below hbw KR0.out.lt)
        have KEW := Lib.hid (KE0.out.below hbw KE0.out.lt)
        have HWW := Lib.hid hwW
        have HK := Lib.hid hK
        have hDW : D < W.heap.size := (Array.getElem?_eq_some_iff.1 hK).1
        have hDw : w.heap.size ≤ D := by have := HW0.out.size; omega
        have hDn : w.heap.size + 1 + 1 < D := by omega
        have c1 : W.cell? ⟨w.heap.size, 1, none⟩ = some (.slice A' n' c') := KGW.out.cell 1
        clear hwW hK hdn hyl hng hbw
        go_wp2_with fail
        refine HCL.out.mono ?_
        rintro e W5 ⟨R, c2, rfl, ho5, hb5⟩
        have hw5 : Below w.heap.size w W5 := HWW.out.trans (hb5.mono HWW.out.size)
        have K4 := Lib.hid (KRW.out.below hb5 KRW.out.lt)
        have K5 := Lib.hid (KEW.out.below hb5 KEW.out.lt)
        have GT := Lib.hid (Got.stored (w := w) (v := .slice R n' c2) (x := 0) (k := n') (r := m) K4.out K5.out (own_mono ho5 HWW.out.size) hw5)
        have HK5 : Hid (((W5.setCell ⟨w.heap.size + 1, 0, none⟩ (.slice R n' c2)).setCell ⟨w.heap.size + 1 + 1, 0, none⟩ (.int .i64 0)).heap[D]? = some (.deferred (some []))) :=
          (KeepsOthers.setCell _ _ _).same D _ ((KeepsOthers.setCell _ _ _).same D _ ((hb5.block D hDW).trans HK.out) rfl) rfl
        have cr := K4.out.cell 0
        have ce := K5.out.cell 0
        have fr := K4.out.frozen 0
        have fe := K5.out.frozen 0
        clear ho5 hb5 hw5 HCL c1
        go_wp2
        exact Got.leave GT.out HM2.out HK5.out hDw _ rfl rfl
      case hstop =>
        rintro D cd pre W hD hdn ⟨rfl, ini, last, rfl, hng, hg, hgot⟩ hK
        have HM2 : Hid (Lg.members l m (tx ls) = (last.1.2.mem, 0)) := by
          rw [Hid, HM.out]
          unfold Lg.memX
          rw [down_last hdn hng hg]
          rfl
        have hDw : w.heap.size ≤ D := by have := HW0.out.size; omega
        have HGOT := Lib.hid hgot
        have HK := Lib.hid hK
        clear hgot hK hdn hng hg
        refine wpIn_wide.2 ?_
        go_wp2
        exact Got.leave HGOT.out HM2.out HK.out hDw _ rfl rfl
    · have HM : Hid (Lg.members l m (tx ls) = ([], x)) := Lg.members_bad2 HCG.out (by rw [← HE.out]) hx0
      have q0 : (x == 0) = false := beq_eq_false_iff_ne.2 hx0
      have GT := Lib.hid (Got.stored (w := w) (v := .slice none 0 0) (x := x) (k := 0) (r := []) KR2.out KE2.out (World.ownsRow_nil _ _ _ _) (B3.out.trans ((HB1.out.mono B3.out.size).trans (HB2.out.mono (by have := s3.out; omega)))))
      have cr := KR2.out.cell 0
      have ce := KE2.out.cell 0
      have fr := KR2.out.frozen 0
      have fe := KE2.out.frozen 0
      go_wp2
      exact Got.leave0 GT.out HM.out _ rfl rfl
  · have HM := Lib.hid (Lg.members_bad (ls := tx ls) HCG.out hcg0)
    have q0 : (cg == 0) = false := beq_eq_false_iff_ne.2 hcg0
    have GT := Lib.hid (Got.stored (w := w) (v := .slice none 0 0) (x := cg) (k := 0) (r := []) KR1.out KE1.out (World.ownsRow_nil _ _ _ _) (B3.out.trans (HB1.out.mono B3.out.size)))
    have cr := KR1.out.cell 0
    have ce := KE1.out.cell 0
    have fr := KR1.out.frozen 0
    have fe := KE1.out.frozen 0
    go_wp2
    exact Got.leave0 GT.out HM.out _ rfl rfl
end Go.Proofs.Ytaoekfgeggopbaa
