/-
  Several texts joined: LogFn, LogBack, LogMembers, LogIn, LogPl, LogPlace.
-/
import Derived.Test.YtaoekfgeggopbaaLogCmd
import Derived.Lib.SliceRun
import Derived.RangeFuncNested
import Derived.RangeFuncBound
import Derived.RangeFuncCalls
import Derived.RangeFuncLeaves
import Derived.Shelf.Abstract
import Derived.Shelf.RegionOpen
import Derived.WalkKit
import Derived.OwnWalkIn
import Derived.TacticsInMore
import Derived.LoopNIn
import Derived.LoopIn
import Derived.Test.YtaoekfgeggopbaaQuorumGroup
import Derived.Test.YtaoekfgeggopbaaCmdTextW
import Derived.Test.YtaoekfgeggopbaaCmdIn
import Derived.Test.YtaoekfgeggopbaaAppT
import Derived.Test.YtaoekfgeggopbaaTexts
namespace Go.Proofs.Ytaoekfgeggopbaa
open Go.RowKit
set_option maxHeartbeats 4000000
set_option maxRecDepth 100000
set_option linter.unusedVariables false
set_option linter.unusedSimpArgs false

theorem cloneI_any (A : Option Addr) (n c : Nat) (l : List Int) (w : World) (B : Nat) (hr : Reads w B 1 A n (ci l)) (hB : B ≤ w.heap.size) (hn : n ≤ 1000000000) :
    Calls Try.prog 62 #[.slice A n c] w fun e w' => ∃ A2 c2, e = .returned (.slice A2 n c2) ∧ w'.ownsRow w.heap.size 3 1 (.slice A2 n c2) n (ci l) ∧ Below w.heap.size w w' := by
  have hl := hr.len_i
  have q22 : ∀ (w : World) (a : Option Addr) (n c n' c' : Nat), (binOp .eql 22 (.slice a n c) (.slice none n' c')).run Try.prog w = .ok (.bool a.isNone) w := fun w a n c n' c' => Lib.run_eql_slice_nil w _ _ a n c n' c' Try.underlying22
  cases A with
  | none =>
    have h0 : n = 0 := by
      rcases Nat.eq_zero_or_pos n with h0 | h0
      · exact h0
      · obtain ⟨ad, h', _⟩ := hr.2 h0
        cases h'
    subst h0
    obtain rfl : l = [] := List.eq_nil_of_length_eq_zero hl
    clear hr
    go_enter Try.func62, Try.ntmps62
    go_wp2
    go_ret
    exact ⟨none, 0, rfl, World.ownsRow_nil _ _ _ _, Below.refl _ _⟩
  | some ad =>
    have HR := Lib.hid hr
    clear hr
    have HO := Lib.hid (World.ownsRow_made (base := w.heap.size) (e := 3) (size := 1) w #[] 0 (Nat.le_refl _) (Nat.zero_le _) rfl)
    have HR2 := Lib.hid (HR.out.keep (w' := w.alloc (.cells #[] 3)) fun p hp => World.cell?_alloc_lt w _ p (by omega))
    go_enter Try.func62, Try.ntmps62
    go_wp2_with (at_builtin; refine app_is rfl (.tmp 5) (.tmp 6) rfl w.heap.size (.slice (some ⟨w.heap.size, 0, none⟩) 0 0) 0 [] rfl HO.out B (some ad) n c l rfl HR2.out (by omega) (by simp) ?_)
    intro v' w' h1 h2
    obtain ⟨A2, c2, rfl⟩ := own_shapeC h1
    try simp only [List.nil_append, Nat.zero_add] at h1
    have H1 := Lib.hid h1
    have hb := Lib.hid (below_of_alloc (h2.belowOwn HO.out (by simp)) (Nat.le_refl _))
    clear h1 h2
    go_wp2
    go_ret
    exact ⟨_, _, by first | rfl | simp, by first | exact H1.out | simpa using H1.out, hb.out⟩

/-- The roster as it lies in a box. -/
def RAt (w : World) (g : Nat) (l : List Int) : Prop := ∃ (A : Option Addr) (n c : Nat) (A' : Option Addr) (n' c' : Nat), Blk w g 52 #[.slice A n c, .slice A' n' c'] ∧ Reads w w.heap.size 1 A n (ci l) ∧ n ≤ 1000000000
theorem RAt.below {w w' : World} {g : Nat} {l : List Int} (h : RAt w g l) (hb : Below w.heap.size w w') : RAt w' g l := by
  obtain ⟨A, n, c, A', n', c', hk, hr, hn⟩ := h
  exact ⟨A, n, c, A', n', c', hk.below hb hk.lt, (hr.below hb).more hb.size, hn⟩
theorem lout_any (g : Nat) (l : List Int) (x : Int) (w : World) (b : Bool) (hb : decide (x ∈ l) = b) (h : RAt w g l) :
    Calls Try.prog 61 #[.int .i64 x, .pointer (some ⟨g, 0, none⟩)] w fun e w' => e = .returned (.bool (!b)) ∧ w = w' := by
  obtain ⟨A, n, c, A', n', c', hk, hr, hn⟩ := h
  have H := Lib.hid (qhas_any A n c w.heap.size l x w hr (by omega))
  rw [hb] at H
  have c0 := hk.cell 0
  have f0 := hk.frozen
  clear hb hr hk
  go_enter Try.func61, Try.ntmps61
  go_wp2_with fail
  refine H.out.mono ?_
  rintro e w' ⟨rfl, rfl⟩
  clear H
  cases b with
  | true =>
    go_wp2
    go_ret
    exact ⟨rfl, by trivial⟩
  | false =>
    go_wp2
    go_ret
    exact ⟨rfl, by trivial⟩
/-- The place of the first that is not among others; -1: none. -/
def outI (l : List Int) : Nat → List Int → Int
  | _, [] => -1
  | k, x :: r => if x ∈ l then outI l (k + 1) r else (k : Int)
theorem outI_in (l : List Int) : ∀ (r : List Int) (k : Nat), decide (0 ≤ outI l k r) = r.any fun x => !decide (x ∈ l)
  | [], k => by simp [outI]
  | x :: r, k => by
    rw [outI]
    by_cases h : x ∈ l
    · rw [if_pos h, outI_in l r (k + 1)]
      simp [h]
    · rw [if_neg h]
      simp [h]
theorem lindexF_any (g : Nat) (l : List Int) (A : Option Addr) (n c : Nat) (m : List Int) (w : World) (x : Int) (hx : outI l 0 m = x) (hr : Reads w w.heap.size 1 A n (ci m)) (hn : n ≤ 9223372036854775807) (h : RAt w g l) :
    Calls Try.prog 89 #[.slice A n c, .func (.func 61) #[] #[.pointer (some ⟨g, 0, none⟩)]] w fun e w' => e = .returned (.int .i64 x) ∧ w = w' := by
  have Hl := Lib.hid hr.len_i
  have HX := Lib.hid hx
  have HR := Lib.hid hr
  have H := Lib.hid h
  clear hx hr h
  go_enter Try.func89, Try.ntmps89
  go_wp2
  go_loopw [8] (fun y wr => (∃ k : Nat, y = .int .i64 (k : Int) ∧ k ≤ n ∧ outI l k (m.drop k) = x) ∧ wr = w) (fun y _ => n - (intOf y).toNat)
  case atStart => exact ⟨⟨0, rfl, Nat.zero_le _, HX.out⟩, rfl⟩
  case round =>
    obtain ⟨⟨k, rfl, hk, he⟩, rfl⟩ := hrel
    have HE := Lib.hid he
    clear he
    by_cases hlt : k < n
    · obtain ⟨ad, u, rfl, hbl, hu, hc⟩ := HR.out.at_ hlt
      have hkl : k < m.length := by rw [Hl.out]; exact hlt
      have hg : m[k]? = some (m[k]'hkl) := List.getElem?_eq_getElem hkl
      obtain ⟨s, hs⟩ : ∃ s, m[k]'hkl = s := ⟨_, rfl⟩
      rw [hs] at hg
      rw [ci_get, hg] at hu
      simp only [Option.map_some, Option.some.injEq] at hu
      subst hu
      have HE2 := Lib.hid HE.out
      rw [List.drop_eq_getElem_cons hkl, hs, outI] at HE2
      clear hg hs hkl HE
      by_cases hv : s ∈ l
      · have HE3 : Hid (outI l (k + 1) (m.drop (k + 1)) = x) := by rw [Hid, ← HE2.out, if_pos hv]
        have HO := Lib.hid (lout_any g l s wr true (decide_eq_true hv) H.out)
        clear HE2 hv
        go_wp2_with fail
        refine HO.out.mono ?_
        rintro e w' ⟨rfl, rfl⟩
        clear HO
        go_wp2
        go_roundw
        case rel => exact ⟨⟨k + 1, by go_num, by omega, HE3.out⟩, by trivial⟩
        case measure => simp [intOf]; omega
      · have hxk : Hid (x = (k : Int)) := by rw [Hid, ← HE2.out, if_neg hv]
        have HO := Lib.hid (lout_any g l s wr false (decide_eq_false hv) H.out)
        clear HE2 hv
        go_wp2_with fail
        refine HO.out.mono ?_
        rintro e w' ⟨rfl, rfl⟩
        clear HO
        go_wp2
        go_ret
        rw [hxk.out]
        exact ⟨rfl, by trivial⟩
    · have HE2 := Lib.hid HE.out
      rw [List.drop_eq_nil_of_le (by have := Hl.out; omega), outI] at HE2
      have hx1 : Hid (x = -1) := HE2.out.symm
      go_wp2
      go_ret
      rw [hx1.out]
      exact ⟨rfl, by trivial⟩
theorem lcontF_any (g : Nat) (l : List Int) (A : Option Addr) (n c : Nat) (m : List Int) (w : World) (b : Bool) (hb : (m.any fun x => !decide (x ∈ l)) = b) (hr : Reads w w.heap.size 1 A n (ci m)) (hn : n ≤ 9223372036854775807) (h : RAt w g l) :
    Calls Try.prog 60 #[.slice A n c, .func (.func 61) #[] #[.pointer (some ⟨g, 0, none⟩)]] w fun e w' => e = .returned (.bool b) ∧ w = w' := by
  obtain ⟨x, hx⟩ : ∃ x, outI l 0 m = x := ⟨_, rfl⟩
  have hq := outI_in l m 0
  rw [hb, hx] at hq
  have H := Lib.hid (lindexF_any g l A n c m w x hx hr hn h)
  clear hx hb hr h
  go_enter Try.func60, Try.ntmps60
  go_wp2_with fail
  refine H.out.mono ?_
  rintro e w1 ⟨rfl, rfl⟩
  cases b with
  | true =>
    go_wp2
    go_ret
    exact ⟨rfl, by trivial⟩
  | false =>
    go_wp2
    go_ret
    exact ⟨rfl, by trivial⟩
end Go.Proofs.Ytaoekfgeggopbaa

namespace Go.Proofs.Ytaoekfgeggopbaa
open Go.RowKit Go.Shelf
attribute [local go_sem] Oper.semAt_some
set_option maxHeartbeats 8000000
set_option maxRecDepth 100000
set_option linter.unusedVariables false
set_option linter.unusedSimpArgs false

/-- A place of a list, and what stands there. -/
abbrev IX (cs : List HC) := { p : Nat × HC // cs[p.1]? = some p.2 }
def encIX {cs : List HC} (x : IX cs) : Array Value := #[.int .i64 (x.1.1 : Int), .agg #[.int .u8 x.1.2.k, .int .i64 x.1.2.mi, .slice x.1.2.GA x.1.2.Gn x.1.2.Gc, .int .i64 x.1.2.mt, .string x.1.2.key, .string x.1.2.body, .int .i64 x.1.2.i, .int .i64 x.1.2.tm, .slice x.1.2.MA x.1.2.Mn x.1.2.Mc, .int .i64 x.1.2.tp, .int .i64 x.1.2.who, .int .i64 x.1.2.n]]
/-- From the back: places n - 1, n - 2, ... -/
def Down {cs : List HC} (n : Nat) (pre : List (IX cs)) : Prop := ∀ i x, pre[i]? = some x → x.1.1 + i + 1 = n
theorem Down.nil {cs : List HC} (n : Nat) : Down (cs := cs) n [] := by intro i x h; simp at h
theorem Down.snoc {cs : List HC} {n : Nat} {pre : List (IX cs)} (h : Down n pre) {x : IX cs} (hx : x.1.1 + pre.length + 1 = n) : Down n (pre ++ [x]) := by
  intro i y hy
  by_cases hi : i < pre.length
  · rw [List.getElem?_append_left hi] at hy
    exact h i y hy
  · rw [List.getElem?_append_right (by omega)] at hy
    have h0 : i - pre.length = 0 := by
      rcases Nat.eq_zero_or_pos (i - pre.length) with h0 | h0
      · exact h0
      · rw [List.getElem?_eq_none (by simp; omega)] at hy; cases hy
    rw [h0] at hy
    simp only [List.getElem?_cons_zero, Option.some.injEq] at hy
    subst hy
    omega

theorem back1_in (F : Fence) (n : Nat) (hF : F.fn 88) (hro : F.round = none) (hn : 1 ≤ n) (l Bs n₀ b off len cap : Nat) (cs : List HC) (hlen : cs.length = len) (hreach : len ≤ 1000000000) (hb : b < n₀) (hBn : Bs < n₀) (J Jx : List (IX cs) → World → Prop)
    (hY : ∀ pre x W, J pre W → pre.length < len → YieldAt F (n - 1) Try.prog l (encIX x) W fun e W' =>
      (e = .returned (.bool true) ∧ J (pre ++ [x]) W' ∧ Below n₀ W W') ∨ (e = .returned (.bool false) ∧ Jx (pre ++ [x]) W'))
    (W : World) (hBs : W.cell? ⟨Bs, 0, none⟩ = some (.slice (some ⟨b, off, none⟩) len cap)) (hc : ∀ k D, cs[k]? = some D → ∀ i u, (ccells D)[i]? = some u → W.cell? ⟨b, off + k * 12 + i, none⟩ = some u) (h0 : J [] W) :
    CallsIn F n Try.prog 88 #[.func (.yield l) #[] #[], .pointer (some ⟨Bs, 0, none⟩)] W fun e W' => (∃ v, e = .returned v) ∧
      ((∃ ys, (Down len ys ∧ ys.length = len) ∧ J ys W') ∨ (∃ pre, Down len pre ∧ Jx pre W')) := by
  refine callsIn_of_wp Try.func88 rfl hF ?_ hro
  simp only [Try.ntmps88, List.size_toArray, List.length_cons, List.length_nil, Nat.reduceAdd, Nat.reduceSub, Array.replicate_succ, Array.replicate_zero, List.push_toArray, List.append_toArray, List.nil_append, List.cons_append]
  gi_wp2
  gi_loopw [3] (fun i wr => ∃ (r : Nat) (pre : List (IX cs)), pre.length + r = len ∧ i = .int .i64 ((r : Int) - 1) ∧ Down len pre ∧ J pre wr ∧ Below n₀ W wr)
    (fun i _ => (intOf i + 1).toNat)
  case atStart => exact ⟨len, [], by simp, by first | rfl | (go_num), Down.nil _, h0, Below.refl _ _⟩
  case round =>
    obtain ⟨r, pre, hr, rfl, hd, hJs, hnx⟩ := hrel
    have hbs := (hnx.cell (p := ⟨Bs, 0, none⟩) hBn).trans hBs
    cases r with
    | zero =>
      gi_wp2
      go_end0
      exact ⟨⟨_, rfl⟩, .inl ⟨_, ⟨hd, by omega⟩, hJs⟩⟩
    | succ j =>
      obtain ⟨D, hD⟩ : ∃ D, cs[j]? = some D := ⟨_, List.getElem?_eq_getElem (by omega)⟩
      have ej : (((j + 1 : Nat) : Int) - 1) = (j : Int) := by omega
      rw [ej]
      obtain ⟨fn, tmps, assign, body, hy, hR⟩ := hY pre ⟨(j, D), hD⟩ wr hJs (by omega)
      dsimp only [encIX] at hy
      have hcc : ∀ i u, (ccells D)[i]? = some u → wr.cell? ⟨b, off + j * 12 + i, none⟩ = some u := fun i u h => (hnx.cell (p := ⟨b, _, none⟩) hb).trans (hc j D hD i u h)
      have c0 : wr.cell? ⟨b, off + j * 12, none⟩ = some (.int .u8 D.k) := hcc 0 _ rfl
      have c1 : wr.cell? ⟨b, off + j * 12 + 1, none⟩ = some (.int .i64 D.mi) := hcc 1 _ rfl
      have c2 : wr.cell? ⟨b, off + j * 12 + 2, none⟩ = some (.slice D.GA D.Gn D.Gc) := hcc 2 _ rfl
      have c3 : wr.cell? ⟨b, off + j * 12 + 3, none⟩ = some (.int .i64 D.mt) := hcc 3 _ rfl
      have c4 : wr.cell? ⟨b, off + j * 12 + 4, none⟩ = some (.string D.key) := hcc 4 _ rfl
      have c5 : wr.cell? ⟨b, off + j * 12 + 5, none⟩ = some (.string D.body) := hcc 5 _ rfl
      have c6 : wr.cell? ⟨b, off + j * 12 + 6, none⟩ = some (.int .i64 D.i) := hcc 6 _ rfl
      have c7 : wr.cell? ⟨b, off + j * 12 + 7, none⟩ = some (.int .i64 D.tm) := hcc 7 _ rfl
      have c8 : wr.cell? ⟨b, off + j * 12 + 8, none⟩ = some (.slice D.MA D.Mn D.Mc) := hcc 8 _ rfl
      have c9 : wr.cell? ⟨b, off + j * 12 + 9, none⟩ = some (.int .i64 D.tp) := hcc 9 _ rfl
      have c10 : wr.cell? ⟨b, off + j * 12 + 10, none⟩ = some (.int .i64 D.who) := hcc 10 _ rfl
      have c11 : wr.cell? ⟨b, off + j * 12 + 11, none⟩ = some (.int .i64 D.n) := hcc 11 _ rfl
      gi_wp2
      refine hR.mono ?_
      rintro e W3 (⟨rfl, hJ3, hk3⟩ | ⟨rfl, hJx3⟩)
      · gi_wp2
        go_roundw
        case rel => exact ⟨j, pre ++ [⟨(j, D), hD⟩], by simp; omega, by first | rfl | (go_num), hd.snoc (by simp; omega), hJ3, hnx.trans hk3⟩
        case measure => simp [intOf] <;> omega
      · gi_wp2
        refine bodyPost_ret (results_none rfl _ _ _) rfl ?_
        exact ⟨⟨_, rfl⟩, .inr ⟨_, hd.snoc (by simp; omega), hJx3⟩⟩
/-- .. at nothing: no round. -/
theorem back1_nil_in (F : Fence) (n : Nat) (hF : F.fn 88) (hro : F.round = none) (l Bs : Nat) (A : Option Addr) (cap : Nat) (cs : List HC) (J : List (IX cs) → World → Prop) (W : World) (hBs : W.cell? ⟨Bs, 0, none⟩ = some (.slice A 0 cap)) (h0 : J [] W) :
    CallsIn F n Try.prog 88 #[.func (.yield l) #[] #[], .pointer (some ⟨Bs, 0, none⟩)] W fun e W' => (∃ v, e = .returned v) ∧ J [] W' := by
  refine callsIn_of_wp Try.func88 rfl hF ?_ hro
  simp only [Try.ntmps88, List.size_toArray, List.length_cons, List.length_nil, Nat.reduceAdd, Nat.reduceSub, Array.replicate_succ, Array.replicate_zero, List.push_toArray, List.append_toArray, List.nil_append, List.cons_append]
  gi_wp2
  gi_loopw [3] (fun i wr => i = .int .i64 (-1) ∧ J [] wr) (fun _ _ => 0)
  case atStart => exact ⟨rfl, h0⟩
  case round =>
    obtain ⟨rfl, hJs⟩ := hrel
    gi_wp2
    go_end0
    exact ⟨⟨_, rfl⟩, hJs⟩
/-- slices.Backward: the slice is boxed; the function value captures the box. -/
theorem back_any (A : Option Addr) (len cap : Nat) (w : World) :
    Calls Try.prog 59 #[.slice A len cap] w fun e w' => e = .returned (.func (.func 88) #[] #[.pointer (some ⟨w.heap.size, 0, none⟩)]) ∧ w' = w.alloc (.cells #[.slice A len cap] 55) := by
  go_enter Try.func59, Try.ntmps59
  go_wp2
  go_ret
  exact ⟨rfl, rfl⟩
theorem back_stops (F : Fence) (n : Nat) (hF : F.fn 88) (hro : F.round = none) (hn : 1 ≤ n) (Bs n₀ : Nat) (A : Option Addr) (len cap : Nat) (cs : List HC) (hreach : len ≤ 1000000000) (w : World) (hBs : Bs < n₀) (hn₀ : n₀ ≤ w.heap.size)
    (hc : w.cell? ⟨Bs, 0, none⟩ = some (.slice A len cap)) (hI : Reads w n₀ 12 A len (cc cs)) :
    SeqStopsK F n Try.prog 88 #[.pointer (some ⟨Bs, 0, none⟩)] (encIX (cs := cs)) (Below n₀) (fun ys => Down len ys ∧ ys.length = len) (fun pre => Down len pre) len w := fun l J Jx W hW _ _ hY h0 => by
  have hc' := (hW.cell (p := ⟨Bs, 0, none⟩) (show Bs < w.heap.size by omega)).trans hc
  have hl := hI.len_c
  rcases Nat.eq_zero_or_pos len with h | h
  · subst h
    obtain rfl : cs = [] := List.eq_nil_of_length_eq_zero hl
    exact (back1_nil_in F n hF hro l Bs A cap [] J W hc' h0).mono fun e W' ⟨he, hj⟩ => ⟨he, .inl ⟨_, ⟨Down.nil _, rfl⟩, hj⟩⟩
  · obtain ⟨b, off, m, rfl, hb, _, _⟩ := hI.cmd h
    refine back1_in F n hF hro hn l Bs n₀ b off len cap cs hl hreach hb hBs J Jx hY W hc' ?_ h0
    intro k D hD i u hu
    have hk : k < len := by rw [← hl]; exact (List.getElem?_eq_some_iff.1 hD).1
    obtain ⟨b', off', D', e, _, hD', hcc⟩ := hI.cmd hk
    cases e
    rw [hD] at hD'
    cases hD'
    exact (hW.cell (p := ⟨b, _, none⟩) (show b < w.heap.size by omega)).trans (hcc i u hu)
end Go.Proofs.Ytaoekfgeggopbaa

namespace Go.Proofs.Ytaoekfgeggopbaa
open Go.RowKit Go.Shelf
set_option maxHeartbeats 8000000
set_option maxRecDepth 100000
set_option linter.unusedVariables false
set_option linter.unusedSimpArgs false

namespace Lg
open Cp
def good (rost : List Int) (c : Cmd) : Bool := c.k == 3 && !(c.mem.any fun x => !decide (x ∈ rost))
def memX (rost mem : List Int) (l : List Cmd) : List Int := match l.reverse.find? (good rost) with
  | some c => c.mem
  | none => mem
def members (rost mem : List Int) (ls : List (List UInt8)) : List Int × Int :=
  if cgroup rost mem = 0 then (if (cmdsX ls).2 = 0 then (memX rost mem (cmdsX ls).1, 0) else ([], (cmdsX ls).2)) else ([], cgroup rost mem)
theorem members_bad {rost mem : List Int} {ls : List (List UInt8)} {x : Int} (h : cgroup rost mem = x) (hx : x ≠ 0) : members rost mem ls = ([], x) := by
  unfold members; rw [h, if_neg hx]
theorem members_bad2 {rost mem : List Int} {ls : List (List UInt8)} {x : Int} (h : cgroup rost mem = 0) (h2 : (cmdsX ls).2 = x) (hx : x ≠ 0) : members rost mem ls = ([], x) := by
  unfold members; rw [if_pos h, h2, if_neg hx]
theorem members_ok {rost mem : List Int} {ls : List (List UInt8)} {l : List Cmd} (h : cgroup rost mem = 0) (h2 : cmdsX ls = (l, 0)) : members rost mem ls = (memX rost mem l, 0) := by
  unfold members; rw [if_pos h, h2, if_pos rfl]
end Lg
theorem Lg.cmdsX_len {ls : List (List UInt8)} {l : List Cp.Cmd} (h : Lg.cmdsX ls = (l, 0)) : l.length = ls.length := by
  by_cases hb : 200 < ls.length
  · rw [Lg.cmdsX_long hb] at h; cases h
  · cases ha : Lg.all ls with
    | none => rw [Lg.cmdsX_none hb ha] at h; cases h
    | some q =>
      rw [Lg.cmdsX_some hb ha] at h
      injection h with h
      subst h
      exact Lg.all_len ha
theorem down_none {cs : List HC} {rost : List Int} {ys : List (IX cs)} (h : Down cs.length ys) (hl : ys.length = cs.length) (hb : ∀ x ∈ ys, Lg.good rost x.1.2.cmd = false) : (cs.map HC.cmd).reverse.find? (Lg.good rost) = none := by
  rw [List.find?_eq_none]
  intro c hc
  rw [List.mem_reverse, List.mem_map] at hc
  obtain ⟨D, hD, rfl⟩ := hc
  obtain ⟨k, hk, hkD⟩ := List.mem_iff_getElem.1 hD
  have hi : cs.length - 1 - k < ys.length := by omega
  have hx := List.getElem?_eq_getElem hi
  obtain ⟨x, hxe⟩ : ∃ x, ys[cs.length - 1 - k]'hi = x := ⟨_, rfl⟩
  rw [hxe] at hx
  have h1 := h _ _ hx
  have h2 := x.2
  rw [show x.1.1 = k by omega, List.getElem?_eq_getElem hk, hkD] at h2
  injection h2 with h2
  rw [h2, hb x (List.mem_of_getElem? hx)]
  simp
theorem down_last {cs : List HC} {rost : List Int} {ini : List (IX cs)} {last : IX cs} (h : Down cs.length (ini ++ [last])) (hb : ∀ x ∈ ini, Lg.good rost x.1.2.cmd = false) (hg : Lg.good rost last.1.2.cmd = true) : (cs.map HC.cmd).reverse.find? (Lg.good rost) = some last.1.2.cmd := by
  have h0 := h ini.length last (by simp)
  obtain ⟨k, hk⟩ : ∃ k, last.1.1 = k := ⟨_, rfl⟩
  rw [hk] at h0
  have hl := last.2
  rw [hk] at hl
  have hkl : k < cs.length := by omega
  rw [List.find?_eq_some_iff_append]
  refine ⟨hg, ((cs.drop (k + 1)).map HC.cmd).reverse, ((cs.take k).map HC.cmd).reverse, ?_, ?_⟩
  · have e : cs = cs.take k ++ last.1.2 :: cs.drop (k + 1) := by
      have h1 := List.getElem?_eq_getElem hkl
      rw [hl] at h1
      injection h1 with h1
      rw [h1, ← List.drop_eq_getElem_cons hkl, List.take_append_drop]
    rw [show (cs.map HC.cmd).reverse = ((cs.take k ++ last.1.2 :: cs.drop (k + 1)).map HC.cmd).reverse by rw [← e]]
    simp
  · intro c hc
    rw [List.mem_reverse, List.mem_map] at hc
    obtain ⟨D, hD, rfl⟩ := hc
    obtain ⟨i, hi, hiD⟩ := List.mem_iff_getElem.1 hD
    rw [List.length_drop] at hi
    rw [List.getElem_drop] at hiD
    have hj : cs.length - 1 - (k + 1 + i) < ini.length := by omega
    have hx := List.getElem?_eq_getElem hj
    obtain ⟨x, hxe⟩ : ∃ x, ini[cs.length - 1 - (k + 1 + i)]'hj = x := ⟨_, rfl⟩
    rw [hxe] at hx
    have h1 := h (cs.length - 1 - (k + 1 + i)) x (by rw [List.getElem?_append_left hj]; exact hx)
    have h2 := x.2
    rw [show x.1.1 = k + 1 + i by omega, List.getElem?_eq_getElem (by omega), hiD] at h2
    injection h2 with h2
    rw [h2, hb x (List.mem_of_getElem? hx)]
    rfl

/-- What Members leaves. -/
def MemP (l m : List Int) (ls : List (List UInt8)) (base : Nat) (e : Ending) (w' : World) : Prop := ∃ (R : Option Addr) (k c : Nat) (r : List Int) (x : Int), e = .returned (.tuple #[.slice R k c, .int .i64 x]) ∧ w'.ownsRow base 3 1 (.slice R k c) k (ci r) ∧ Lg.members l m ls = (r, x)
theorem memP_bad {l m : List Int} {ls : List (List UInt8)} {base : Nat} {x : Int} {w' : World} (h : Lg.members l m ls = ([], x)) : MemP l m ls base (.returned (.tuple #[.slice none 0 0, .int .i64 x])) w' :=
  ⟨none, 0, 0, [], x, rfl, World.ownsRow_nil _ _ _ _, h⟩

/-- The result's cells, the row they name, and what lay before. -/
def Got (w : World) (v : Value) (x : Int) (k : Nat) (r : List Int) (W : World) : Prop :=
  W.cell? ⟨w.heap.size + 1, 0, none⟩ = some v ∧ W.cell? ⟨w.heap.size + 1 + 1, 0, none⟩ = some (.int .i64 x) ∧ W.ownsRow w.heap.size 3 1 v k (ci r) ∧ Below w.heap.size w W
theorem Got.kept {w W W' : World} {v : Value} {x : Int} {k : Nat} {r : List Int} {row : Option Nat} (h : Got w v x k r W) (hg : W.grownBy W' row) (hr : ∀ q, row = some q → w.heap.size ≤ q ∧ ∃ o : Obj, W.heap[q]? = some o ∧ o.isCells = false) : Got w v x k r W' := by
  obtain ⟨h1, h2, h3, h4⟩ := h
  refine ⟨cell_kept h1 hg (fun q e => (hr q e).2), cell_kept h2 hg (fun q e => (hr q e).2), own_keepC h3 fun g hgb => ?_, h4.grown hg h4.size fun q e => (hr q e).1⟩
  obtain ⟨cs, hc⟩ := own_typeC h3 hgb
  refine hg.block g (Array.getElem?_eq_some_iff.1 hc).1 fun e => ?_
  obtain ⟨o, ho, hn⟩ := (hr g e.symm).2
  rw [hc] at ho
  injection ho with ho
  subst ho
  cases hn
theorem Got.stored {w W : World} {v0 u0 : Value} {v : Value} {x : Int} {k : Nat} {r : List Int} (k4 : Blk W (w.heap.size + 1) 22 #[v0]) (k5 : Blk W (w.heap.size + 1 + 1) 29 #[u0]) (ho : W.ownsRow w.heap.size 3 1 v k (ci r)) (hb : Below w.heap.size w W) :
    Got w v x k r ((W.setCell ⟨w.heap.size + 1, 0, none⟩ v).setCell ⟨w.heap.size + 1 + 1, 0, none⟩ (.int .i64 x)) := by
  have q4 : Blk (W.setCell ⟨w.heap.size + 1, 0, none⟩ v) (w.heap.size + 1) 22 #[v] := by simpa using k4.set_ 0 v
  have q5 : Blk (W.setCell ⟨w.heap.size + 1, 0, none⟩ v) (w.heap.size + 1 + 1) 29 #[u0] := k5.far (by simp) v
  have r4 : Blk ((W.setCell ⟨w.heap.size + 1, 0, none⟩ v).setCell ⟨w.heap.size + 1 + 1, 0, none⟩ (.int .i64 x)) (w.heap.size + 1) 22 #[v] := q4.far (by simp) _
  have r5 : Blk ((W.setCell ⟨w.heap.size + 1, 0, none⟩ v).setCell ⟨w.heap.size + 1 + 1, 0, none⟩ (.int .i64 x)) (w.heap.size + 1 + 1) 29 #[.int .i64 x] := by simpa using q5.set_ 0 (.int .i64 x)
  refine ⟨r4.cell 0, r5.cell 0, ?_, (hb.setCell (p := ⟨w.heap.size + 1, 0, none⟩) (by simp) _).setCell (p := ⟨w.heap.size + 1 + 1, 0, none⟩) (by simp; omega) _⟩
  have o1 := ownsRow_setCell_other ho (a := ⟨w.heap.size + 1, 0, none⟩) (own_blk_ne ho k4 (by decide)) v
  exact ownsRow_setCell_other o1 (a := ⟨w.heap.size + 1 + 1, 0, none⟩) (own_blk_ne o1 q5 (by decide)) _
/-- The mark is taken over: the call ends. -/
theorem Got.leave {w W : World} {R : Option Addr} {c : Nat} {x : Int} {k : Nat} {r : List Int} (h : Got w (.slice R k c) x k r W) {l m : List Int} {ls : List (List UInt8)} (hm : Lg.members l m ls = (r, x)) {D : Nat} (hK : W.heap[D]? = some (.deferred (some []))) (hD : w.heap.size ≤ D) (tmps : Array Value)
    (h4 : tmps[4]? = some (.pointer (some ⟨w.heap.size + 1, 0, none⟩))) (h5 : tmps[5]? = some (.pointer (some ⟨w.heap.size + 1 + 1, 0, none⟩))) :
    bodyPostM Fence.wide 10 Try.prog Try.f33 (fun e w' => MemP l m ls w.heap.size e w' ∧ Below w.heap.size w w') .ret { tmps := tmps, defers := [{ target := .collected D, args := #[] }] } W := by
  refine ⟨by simp, .inl ⟨_, _, rfl, run_takeDeferred hK, ?_⟩⟩
  have h2 := h.kept (grownBy_putObj' W D (.deferred none)) (fun q e => by cases e; exact ⟨hD, _, hK, rfl⟩)
  obtain ⟨c4, c5, ho, hb⟩ := h2
  refine ⟨.tuple #[.slice R k c, .int .i64 x], ?_, ⟨R, k, c, r, x, rfl, ho, hm⟩, hb⟩
  simp [results, Try.f33, go_sem, h4, h5, c4, c5]
theorem Got.leave0 {w W : World} {R : Option Addr} {c : Nat} {x : Int} {k : Nat} {r : List Int} (h : Got w (.slice R k c) x k r W) {l m : List Int} {ls : List (List UInt8)} (hm : Lg.members l m ls = (r, x)) (tmps : Array Value)
    (h4 : tmps[4]? = some (.pointer (some ⟨w.heap.size + 1, 0, none⟩))) (h5 : tmps[5]? = some (.pointer (some ⟨w.heap.size + 1 + 1, 0, none⟩))) :
    bodyPostM Fence.wide 10 Try.prog Try.f33 (fun e w' => MemP l m ls w.heap.size e w' ∧ Below w.heap.size w w') .ret { tmps := tmps, defers := [] } W := by
  obtain ⟨c4, c5, ho, hb⟩ := h
  refine ⟨.tuple #[.slice R k c, .int .i64 x], ?_, ⟨R, k, c, r, x, rfl, ho, hm⟩, hb⟩
  simp [results, Try.f33, go_sem, h4, h5, c4, c5]

attribute [local go_sem] Oper.semAt_some
theorem lmembers_any (A : Option Addr) (n c : Nat) (l : List Int) (A' : Option Addr) (n' c' : Nat) (m : List Int) (LA : Option Addr) (Ln Lc : Nat) (ls : List ByteArray) (w : World) (hr : Reads w w.heap.size 1 A n (ci l)) (hr' : Reads w w.heap.size 1 A' n' (ci m)) (hl : Reads w w.heap.size 1 LA Ln (ct ls))
    (hn : n ≤ 9223372036854775807) (hn' : n' ≤ 9223372036854775807) (hLn : Ln ≤ 1000000000) (hz : ∀ s ∈ ls, s.size ≤ maxLen) :
    Calls Try.prog 33 #[.agg #[.slice A n c, .slice A' n' c'], .slice LA Ln Lc] w fun e w' => MemP l m (tx ls) w.heap.size e w' ∧ Below w.heap.size w w' := by
  obtain ⟨cg, hcg⟩ : ∃ x, cgroup l m = x := ⟨_, rfl⟩
  have HCG := Lib.hid hcg
  have B3 : Hid (Below w.heap.size w (((w.alloc (.cells #[.slice A n c, .slice A' n' c'] 52)).alloc (.cells #[.slice none 0 0] 22)).alloc (.cells #[.int .i64 0] 29))) := by
    exact (((Below.refl _ _).alloc (Nat.le_refl _) _).alloc (by simp) _).alloc (by simp; omega) _
  have KG : Hid (Blk (((w.alloc (.cells #[.slice A n c, .slice A' n' c'] 52)).alloc (.cells #[.slice none 0 0] 22)).alloc (.cells #[.int .i64 0] 29)) w.heap.size 52 #[.slice A n c, .slice A' n' c']) := ((Blk.new w _ _).alloc _).alloc _
  have KR : Hid (Blk (((w.alloc (.cells #[.slice A n c, .slice A' n' c'] 52)).alloc (.cells #[.slice none 0 0] 22)).alloc (.cells #[.int .i64 0] 29)) (w.heap.size + 1) 22 #[.slice none 0 0]) := by
    have := (Blk.new (w.alloc (.cells #[.slice A n c, .slice A' n' c'] 52)) 22 #[.slice none 0 0]).alloc (.cells #[.int .i64 0] 29)
    rwa [World.size_alloc] at this
  have KE : Hid (Blk (((w.alloc (.cells #[.slice A n c, .slice A' n' c'] 52)).alloc (.cells #[.slice none 0 0] 22)).alloc (.cells #[.int .i64 0] 29)) (w.heap.size + 1 + 1) 29 #[.int .i64 0]) := by
    have := (Blk.new ((w.alloc (.cells #[.slice A n c, .slice A' n' c'] 52)).alloc (.cells #[.slice none 0 0] 22)) 29 #[.int .i64 0])
    rwa [World.size_alloc, World.size_alloc] at this
  generalize hw3 : ((w.alloc (.cells #[.slice A n c, .slice A' n' c'] 52)).alloc (.cells #[.slice none 0 0] 22)).alloc (.cells #[.int .i64 0] 29) = w3 at *
  have HW3 := Lib.hid hw3
  have s3 : Hid (w3.heap.size = w.heap.size + 1 + 1 + 1) := by rw [Hid, ← hw3]; simp
  have HR := Lib.hid hr
  have HR' := Lib.hid hr'
  have HL := Lib.hid hl
  have HZ := Lib.hid hz
  have HG := Lib.hid (qgroup_any A n c l A' n' c' m w3 ((hr.below B3.out).more B3.out.size) ((hr'.below B3.out).more B3.out.size) (by omega) (by omega))
  have HC := Lib.hid fun w1 (hb : Below w3.heap.size w3 w1) => lcommands_any LA Ln Lc w.heap.size ls w1 ((hl.below B3.out).below (hb.mono B3.out.size)) (by have := hb.size; have := B3.out.size; omega) (by omega) hz
  rw [hcg] at HG
  clear hr hr' hl hz hcg
  refine (callsIn_wide (n := 10)).1 ?_
  refine callsIn_of_wp_marks Try.func33 rfl trivial ?_ rfl
  simp only [Try.ntmps33, List.size_toArray, List.length_cons, List.length_nil, Nat.reduceAdd, Nat.reduceSub, Array.replicate_succ, Array.replicate_zero, List.push_toArray, List.append_toArray, List.nil_append, List.cons_append]
  refine wpIn_wide.2 ?_
  go_upto_region 1 with fail
  clear hw3
  have c0 := KG.out.cell 0
  have c1 := KG.out.cell 1
  go_wp2_with fail
  refine HG.out.mono ?_
  rintro e w1 ⟨rfl, hb⟩
  have HB1 := Lib.hid hb
  have HC1 := Lib.hid (HC.out w1 hb)
  have KG1 := Lib.hid (KG.out.below hb KG.out.lt)
  have KR1 := Lib.hid (KR.out.below hb KR.out.lt)
  have KE1 := Lib.hid (KE.out.below hb KE.out.lt)
  have s1 := hb.size
  clear hb HC HG KG KR KE c0 c1
  by_cases hcg0 : cg = 0
  · subst hcg0
    obtain ⟨hck1, hck2, _⟩ := cgroup_zero HCG.out
    have hq1 := (check_zero hck1).2
    have hq2 := (check_zero hck2).2
    have hq3 := HR.out.len_i
    have hq4 := HR'.out.len_i
    have hn6 : n ≤ 6 := by omega
    have hn7 : n' ≤ 6 := by omega
    clear hck1 hck2 hq1 hq2 hq3 hq4
    go_wp2_with fail
    refine HC1.out.mono ?_
    rintro e w2 ⟨⟨ds, x, DA, dc, rfl, ho, hd, he⟩, hb⟩
    have HB2 := Lib.hid hb
    have KG2 := Lib.hid (KG1.out.below hb KG1.out.lt)
    have KR2 := Lib.hid (KR1.out.below hb KR1.out.lt)
    have KE2 := Lib.hid (KE1.out.below hb KE1.out.lt)
    have HO := Lib.hid ho
    have HD := Lib.hid hd
    have HE := Lib.hid he
    have s2 := hb.size
    clear ho hd he hb HC1 KG1 KR1 KE1
    by_cases hx0 : x = 0
    · subst hx0
      have HX : Hid (Lg.cmdsX (tx ls) = (ds.map HC.cmd, 0)) := HE.out.symm
      have HM := Lib.hid (Lg.members_ok HCG.out HX.out)
      go_wp2_with fail
      refine (back_any DA ds.length dc w2).mono ?_
      rintro e W0 ⟨rfl, hW0⟩
      have hbk : Below w2.heap.size w2 W0 := by rw [hW0]; exact (Below.refl _ _).alloc (Nat.le_refl _) _
      have HBK := Lib.hid (hbk)
      have KS : Hid (Blk W0 w2.heap.size 55 #[.slice DA ds.length dc]) := by rw [hW0]; exact Blk.new _ _ _
      have s0 : W0.heap.size = w2.heap.size + 1 := by rw [hW0]; simp
      have KG0 := Lib.hid (KG2.out.below hbk KG2.out.lt)
      have KR0 := Lib.hid (KR2.out.below hbk KR2.out.lt)
      have KE0 := Lib.hid (KE2.out.below hbk KE2.out.lt)
      have HO0 := Lib.hid (own_kept HO.out hbk)
      have HD0 : Hid (∀ D ∈ ds, OwnC W0 w1.heap.size D) := fun D hD => (HD.out D hD).below hbk
      have HW0 : Hid (Below w.heap.size w W0) := B3.out.trans ((HB1.out.mono B3.out.size).trans ((HB2.out.mono (by have := s3.out; omega)).trans (hbk.mono (by have := s3.out; omega))))
      have hdl : ds.length ≤ 1000000000 := by
        have h1 := Lg.cmdsX_len HX.out
        rw [List.length_map, tx_len, HL.out.len_t] at h1
        omega
      clear hW0 hbk HO HD KG2 KR2 KE2 HE
      have hsz : w.heap.size + 3 ≤ w1.heap.size := by have := s3.out; omega
      go_wp2_with fail
      refine (wpIn_wide (n := 10)).1 ?_
      refine wpIn_rangeFunc_ownH (F := Fence.wide) (n := 10) rfl (by omega) (gf := 88) (lb := #[.pointer (some ⟨w2.heap.size, 0, none⟩)]) rfl trivial (enters_of Try.func88 (by kernel_rfl) rfl)
        (back_stops Fence.wide 9 trivial rfl (by omega) w2.heap.size W0.heap.size DA ds.length dc ds hdl W0 (by omega) (Nat.le_refl _) (KS.out.cell 0) (own_readsC HO0.out)) belowK_t (belowK_b (Nat.le_refl _)) (Below.refl _ _) (fun _ => rfl)
        (fun pre W => (∀ x ∈ pre, Lg.good l x.1.2.cmd = false) ∧ Below W0.heap.size W0 W)
        (fun cd pre W => (cd = .ret ∧ ∃ ini last, pre = ini ++ [last] ∧ (∀ x ∈ ini, Lg.good l x.1.2.cmd = false) ∧ Lg.good l last.1.2.cmd = true ∧ Got w (.slice last.1.2.MA last.1.2.Mn last.1.2.Mc) 0 last.1.2.Mn last.1.2.mem W))
        (OwnFrom.and (ownFrom_pure _ _) (ownFrom_below (Nat.le_refl _) (Nat.le_refl _)))
        ?ix
        ⟨by simp, Below.refl _ _⟩
        (fun x a' W => ∃ Bx, W0.heap.size ≤ Bx ∧ Blk W Bx 26 #[.int .u8 x.1.2.k, .int .i64 x.1.2.mi, .slice x.1.2.GA x.1.2.Gn x.1.2.Gc, .int .i64 x.1.2.mt, .string x.1.2.key, .string x.1.2.body, .int .i64 x.1.2.i, .int .i64 x.1.2.tm, .slice x.1.2.MA x.1.2.Mn x.1.2.Mc, .int .i64 x.1.2.tp, .int .i64 x.1.2.who, .int .i64 x.1.2.n] ∧ a' = { tmps := #[.agg #[.slice A n c, .slice A' n' c'], .slice LA Ln Lc, .pointer (some ⟨w.heap.size, 0, none⟩), undef, .pointer (some ⟨w.heap.size + 1, 0, none⟩), .pointer (some ⟨w.heap.size + 1 + 1, 0, none⟩), .int .i64 0, .slice DA ds.length dc, .int .i64 0, undef, .pointer (some ⟨Bx, 0, none⟩), .agg #[.slice A n c, .slice A' n' c'], .int .i64 0, .int .i64 0, .bool false, undef, .tuple #[.slice DA ds.length dc, .int .i64 0], .slice LA Ln Lc, .tuple #[.slice DA ds.length dc, .int .i64 0], .slice DA ds.length dc, .int .i64 0, .int .i64 0, .bool false, undef, .slice DA ds.length dc, .func (.func 88) #[] #[.pointer (some ⟨w2.heap.size, 0, none⟩)], .int .i64 (x.1.1 : Int), .agg #[.int .u8 x.1.2.k, .int .i64 x.1.2.mi, .slice x.1.2.GA x.1.2.Gn x.1.2.Gc, .int .i64 x.1.2.mt, .string x.1.2.key, .string x.1.2.body, .int .i64 x.1.2.i, .int .i64 x.1.2.tm, .slice x.1.2.MA x.1.2.Mn x.1.2.Mc, .int .i64 x.1.2.tp, .int .i64 x.1.2.who, .int .i64 x.1.2.n], undef, undef, undef, undef, undef, undef, undef, undef, undef, undef, undef, undef, undef], defers := [] })
        ?ax ?assign ?body ?done ?hstop
      case ix =>
        intro cd s A1 B1 row hs hg hr
        obtain ⟨h1, ini, last, h2, h3, h4, h5⟩ := hs
        exact ⟨h1, ini, last, h2, h3, h4, h5.kept hg fun q e => ⟨by have := (hr q e).1; omega, (hr q e).2⟩⟩
      case ax =>
        intro x a' _ A1 B1 row hs hg hr
        obtain ⟨Bx, h1, h2, h3⟩ := hs
        exact ⟨Bx, h1, (grownBy_keeps_cells hg (fun q e => (hr q e).2) h2 rfl).trans h2, h3⟩
      case assign =>
        rintro l0 pre ⟨⟨j, D⟩, hD⟩ W K ⟨hi, hib⟩ hK
        dsimp only [encIX]
        gi_wp2
        exact hK _ _ ((KeepsOthers.alloc _ _).from _) ((Below.refl _ W).alloc hib.size _) ⟨hi, hib.alloc hib.size _⟩ ⟨W.heap.size, hib.size, Blk.new W _ _, rfl⟩
      case body =>
        rintro l0 pre ⟨⟨j, D⟩, hD⟩ a' W hl ⟨r, hrr⟩ ⟨hng, hbw⟩ ⟨Bx, hBx, bX, rfl⟩ hlt
        have hDm : D ∈ ds := List.mem_of_getElem? hD
        have hoc := ((HD0.out D hDm).mono (show w.heap.size ≤ w1.heap.size by omega)).below hbw
        have HOC := Lib.hid hoc
        have hat := hoc.at_
        have hmn : D.Mn ≤ 9223372036854775807 := by have := hat.mc; have := hat.mm; omega
        have hwW : Below w.heap.size w W := HW0.out.trans (hbw.mono HW0.out.size)
        have RA : RAt W w.heap.size l := ⟨A, n, c, A', n', c', KG0.out.below hbw KG0.out.lt, (HR.out.below hwW).more hwW.size, by omega⟩
        obtain ⟨bb, hbb⟩ : ∃ b, (D.mem.any fun x => !decide (x ∈ l)) = b := ⟨_, rfl⟩
        have HCF := Lib.hid (lcontF_any w.heap.size l D.MA D.Mn D.Mc D.mem W bb hbb hat.rm hmn RA)
        have HG : Hid (Lg.good l D.cmd = (D.k == 3 && !bb)) := by rw [Hid, ← hbb]; rfl
        have c0 : W.cell? ⟨Bx, 0, none⟩ = some (.int .u8 D.k) := bX.cell 0
        have c8 : W.cell? ⟨Bx, 8, none⟩ = some (.slice D.MA D.Mn D.Mc) := bX.cell 8
        have KRW := Lib.hid (KR0.out.below hbw KR0.out.lt)
        have KEW := Lib.hid (KE0.out.below hbw KE0.out.lt)
        have HNG := Lib.hid hng
        have HBW := Lib.hid hbw
        have HWW := Lib.hid hwW
        clear hoc hat RA hbb hng hbw hwW hrr
        have goes : Lg.good l D.cmd = false → ∀ x ∈ pre ++ [(⟨(j, D), hD⟩ : IX ds)], Lg.good l x.1.2.cmd = false := by
          intro hf x hx
          rcases List.mem_append.1 hx with hx | hx
          · exact HNG.out x hx
          · obtain rfl := List.mem_singleton.1 hx
            exact hf
        have GO := Lib.hid goes
        clear goes
        by_cases hk : D.k = 3
        · rw [hk] at c0
          have h1' : 1 ≤ (10 : Nat) - 1 - 1 := by omega
          cases bb with
          | true =>
            have HG2 : Hid (Lg.good l D.cmd = false) := by rw [Hid, HG.out]; simp
            gi_wp2_with (refine ⟨trivial, ?_⟩; gi_at_call 60; refine (CallsIn.inRound l0 (callsIn_wide.2 HCF.out)).mono ?_; rintro e w' ⟨rfl, rfl⟩)
            exact ⟨KeepsFrom.refl _ _, Below.refl _ _, by first | exact GO.out HG2.out | exact fun a b h hm => GO.out HG2.out ⟨(a, b), h⟩ hm, by first | exact HBW.out | (have h := HBW.out; rw [s0] at h; exact h)⟩
          | false =>
            have HG2 : Hid (Lg.good l D.cmd = true) := by rw [Hid, HG.out, hk]; rfl
            have GT := Lib.hid (Got.stored (w := w) (v := .slice D.MA D.Mn D.Mc) (x := 0) (k := D.Mn) (r := D.mem) KRW.out KEW.out HOC.out.om HWW.out)
            have cr := KRW.out.cell 0
            have ce := KEW.out.cell 0
            have fr := KRW.out.frozen 0
            have fe := KEW.out.frozen 0
            gi_wp2_with (refine ⟨trivial, ?_⟩; gi_at_call 60; refine (CallsIn.inRound l0 (callsIn_wide.2 HCF.out)).mono ?_; rintro e w' ⟨rfl, rfl⟩)
            exact ⟨((KeepsOthers.setCell _ _ _).from _).trans ((KeepsOthers.setCell _ _ _).from _), rfl, pre, _, rfl, HNG.out, HG2.out, GT.out⟩
        · have q0 : (D.k == 3) = false := beq_eq_false_iff_ne.2 hk
          have HG2 : Hid (Lg.good l D.cmd = false) := by rw [Hid, HG.out, q0]; rfl
          gi_wp2
          exact ⟨KeepsFrom.refl _ _, Below.refl _ _, by first | exact GO.out HG2.out | exact fun a b h hm => GO.out HG2.out ⟨(a, b), h⟩ hm, by first | exact HBW.out | (have h := HBW.out; rw [s0] at h; exact h)⟩
      case done =>
        rintro D ys W hD ⟨hdn, hyl⟩ ⟨hng, hbw⟩ hK
        have hwW : Below w.heap.size w W := HW0.out.trans (hbw.mono HW0.out.size)
        have HM2 : Hid (Lg.members l m (tx ls) = (m, 0)) := by
          rw [Hid, HM.out]
          unfold Lg.memX
          rw [down_none hdn hyl hng]
        have HCL := Lib.hid (cloneI_any A' n' c' m W w.heap.size (HR'.out.below hwW) hwW.size (by omega))
        have KGW := Lib.hid (KG0.out.below hbw KG0.out.lt)
        have KRW := Lib.hid (KR0.out.below hbw KR0.out.lt)
        have KEW := Lib.hid (KE0.out.below hbw KE0.out.lt)
        have HWW := Lib.hid hwW
        have HK := Lib.hid hK
        have hDW : D < W.heap.size := (Array.getElem?_eq_some_iff.1 hK).1
        have hDw : w.heap.size ≤ D := by have := HW0.out.size; omega
        have hDn : w.heap.size + 1 + 1 < D := by omega
        have c1 : W.cell? ⟨w.heap.size, 1, none⟩ = some (.slice A' n' c') := KGW.out.cell 1
        clear hwW hK hdn hyl hng hbw
        go_wp2_with fail
        refine HCL.out.mono ?_
        rintro e W5 ⟨R, c2, rfl, ho5, hb5⟩
        have hw5 : Below w.heap.size w W5 := HWW.out.trans (hb5.mono HWW.out.size)
        have K4 := Lib.hid (KRW.out.below hb5 KRW.out.lt)
        have K5 := Lib.hid (KEW.out.below hb5 KEW.out.lt)
        have GT := Lib.hid (Got.stored (w := w) (v := .slice R n' c2) (x := 0) (k := n') (r := m) K4.out K5.out (own_mono ho5 HWW.out.size) hw5)
        have HK5 : Hid (((W5.setCell ⟨w.heap.size + 1, 0, none⟩ (.slice R n' c2)).setCell ⟨w.heap.size + 1 + 1, 0, none⟩ (.int .i64 0)).heap[D]? = some (.deferred (some []))) :=
          (KeepsOthers.setCell _ _ _).same D _ ((KeepsOthers.setCell _ _ _).same D _ ((hb5.block D hDW).trans HK.out) rfl) rfl
        have cr := K4.out.cell 0
        have ce := K5.out.cell 0
        have fr := K4.out.frozen 0
        have fe := K5.out.frozen 0
        clear ho5 hb5 hw5 HCL c1
        go_wp2
        exact Got.leave GT.out HM2.out HK5.out hDw _ rfl rfl
      case hstop =>
        rintro D cd pre W hD hdn ⟨rfl, ini, last, rfl, hng, hg, hgot⟩ hK
        have HM2 : Hid (Lg.members l m (tx ls) = (last.1.2.mem, 0)) := by
          rw [Hid, HM.out]
          unfold Lg.memX
          rw [down_last hdn hng hg]
          rfl
        have hDw : w.heap.size ≤ D := by have := HW0.out.size; omega
        have HGOT := Lib.hid hgot
        have HK := Lib.hid hK
        clear hgot hK hdn hng hg
        refine wpIn_wide.2 ?_
        go_wp2
        exact Got.leave HGOT.out HM2.out HK.out hDw _ rfl rfl
    · have HM : Hid (Lg.members l m (tx ls) = ([], x)) := Lg.members_bad2 HCG.out (by rw [← HE.out]) hx0
      have q0 : (x == 0) = false := beq_eq_false_iff_ne.2 hx0
      have GT := Lib.hid (Got.stored (w := w) (v := .slice none 0 0) (x := x) (k := 0) (r := []) KR2.out KE2.out (World.ownsRow_nil _ _ _ _) (B3.out.trans ((HB1.out.mono B3.out.size).trans (HB2.out.mono (by have := s3.out; omega)))))
      have cr := KR2.out.cell 0
      have ce := KE2.out.cell 0
      have fr := KR2.out.frozen 0
      have fe := KE2.out.frozen 0
      go_wp2
      exact Got.leave0 GT.out HM.out _ rfl rfl
  · have HM := Lib.hid (Lg.members_bad (ls := tx ls) HCG.out hcg0)
    have q0 : (cg == 0) = false := beq_eq_false_iff_ne.2 hcg0
    have GT := Lib.hid (Got.stored (w := w) (v := .slice none 0 0) (x := cg) (k := 0) (r := []) KR1.out KE1.out (World.ownsRow_nil _ _ _ _) (B3.out.trans (HB1.out.mono B3.out.size)))
    have cr := KR1.out.cell 0
    have ce := KE1.out.cell 0
    have fr := KR1.out.frozen 0
    have fe := KE1.out.frozen 0
    go_wp2
    exact Got.leave0 GT.out HM.out _ rfl rfl
end Go.Proofs.Ytaoekfgeggopbaa

namespace Go.Proofs.Ytaoekfgeggopbaa
open Go.RowKit
set_option maxHeartbeats 8000000
set_option maxRecDepth 100000
set_option linter.unusedVariables false
set_option linter.unusedSimpArgs false

def chHC (A : Option Addr) (n c : Nat) (l : List Int) : HC := ⟨3, 0, none, 0, 0, [], 0, ⟨#[]⟩, ⟨#[]⟩, 0, 0, A, n, c, l, 0, 0, 0⟩
def chC (l : List Int) : Cp.Cmd := ⟨3, 0, [], 0, [], [], 0, 0, l, 0, 0, 0⟩
theorem chHC_cmd (A : Option Addr) (n c : Nat) (l : List Int) : (chHC A n c l).cmd = chC l := rfl
theorem chHC_at {A : Option Addr} {n c : Nat} {l : List Int} {w : World} {B : Nat} (hr : Reads w B 1 A n (ci l)) (hnc : n ≤ c) (hc : c ≤ 9223372036854775807) (hi : ∀ x ∈ l, i64 x) : CmdAt w B (chHC A n c l) := by
  have z := zeroHC_at w B (k := 3) (by omega)
  exact ⟨z.rg, hr, z.gc, z.gm, hnc, hc, z.kk, z.bk, z.bb, z.ig, hi, z.a1, z.a2, z.a3, z.a4, z.a5, z.a6, z.a7⟩

theorem change13_any (A : Option Addr) (n c : Nat) (l : List Int) (w : World) (hr : Reads w w.heap.size 1 A n (ci l)) (hnc : n ≤ c) (hc : c ≤ 9223372036854775807) (hi : ∀ x ∈ l, i64 x) (b : Bool) (hb : Cp.mayC (chC l) = b) (U : ByteArray) (hU : (if b = true then S (Cp.bytesC (chC l)) else ⟨#[]⟩) = U) :
    Calls Try.prog 46 #[.slice A n c] w fun e w' => e = .returned (.string U) ∧ Below w.heap.size w w' := by
  have H := Lib.hid (cwrite_any (chHC A n c l) w (chHC_at hr hnc hc hi) b (by rw [chHC_cmd]; exact hb) U (by rw [chHC_cmd]; exact hU))
  have e0 : (chHC A n c l) = ⟨3, 0, none, 0, 0, [], 0, ⟨#[]⟩, ⟨#[]⟩, 0, 0, A, n, c, l, 0, 0, 0⟩ := rfl
  rw [e0] at H
  clear hr hi hb hU e0
  go_enter Try.func46, Try.ntmps46
  go_wp2_with fail
  refine H.out.mono ?_
  rintro e w1 ⟨rfl, hb⟩
  have HB := Lib.hid hb
  clear hb H
  go_wp2
  go_ret
  exact ⟨rfl, HB.out⟩

theorem group13_any (w : World) : Calls Try.prog 45 #[] w fun e w' => ∃ g1 g2, e = .returned (.agg #[.slice (some ⟨g1, 0, none⟩) 4 4, .slice (some ⟨g2, 0, none⟩) 3 3]) ∧ Reads w' w'.heap.size 1 (some ⟨g1, 0, none⟩) 4 (ci [0, 1, 2, 3]) ∧ Reads w' w'.heap.size 1 (some ⟨g2, 0, none⟩) 3 (ci [0, 1, 2]) ∧ Below w.heap.size w w' := by
  go_enter Try.func45, Try.ntmps45
  go_wp2
  have K := ((Blk.new w 52 #[.slice (some ⟨w.heap.size + 1, 0, none⟩) 4 4, .slice (some ⟨w.heap.size + 1 + 1, 0, none⟩) 3 3]).alloc (.cells #[.int .i64 0, .int .i64 1, .int .i64 2, .int .i64 3] 3)).alloc (.cells #[.int .i64 0, .int .i64 1, .int .i64 2] 3)
  have r0 := K.cell 0
  have r1 := K.cell 1
  simp only [List.getElem?_toArray, List.getElem?_cons_zero, List.getElem?_cons_succ] at r0 r1
  refine bodyPost_ret (v := .agg #[.slice (some ⟨w.heap.size + 1, 0, none⟩) 4 4, .slice (some ⟨w.heap.size + 1 + 1, 0, none⟩) 3 3]) (by simp [results, Try.results45, go_sem, r0, r1]) rfl ⟨_, _, rfl, ?_, ?_, ?_⟩
  · have h := newI (w.alloc (.cells #[.slice (some ⟨w.heap.size + 1, 0, none⟩) 4 4, .slice (some ⟨w.heap.size + 1 + 1, 0, none⟩) 3 3] 52)) [0, 1, 2, 3] #[.int .i64 0, .int .i64 1, .int .i64 2, .int .i64 3] rfl
    rw [World.size_alloc] at h
    exact (h.alloc (by simp) _).more (by simp)
  · have h := newI ((w.alloc (.cells #[.slice (some ⟨w.heap.size + 1, 0, none⟩) 4 4, .slice (some ⟨w.heap.size + 1 + 1, 0, none⟩) 3 3] 52)).alloc (.cells #[.int .i64 0, .int .i64 1, .int .i64 2, .int .i64 3] 3)) [0, 1, 2] #[.int .i64 0, .int .i64 1, .int .i64 2] rfl
    rw [World.size_alloc, World.size_alloc] at h
    exact h.more (by simp)
  · exact (((Below.refl _ _).alloc (Nat.le_refl _) _).alloc (by simp) _).alloc (by simp; omega) _

theorem alive13_val : Lg.members [0, 1, 2, 3] [0, 1, 2] [Cp.bytesC (chC [1, 3]), Cp.bytesC (chC [4, 5])] = ([1, 3], 0) := by decide +kernel
theorem newS (w : World) (l : List ByteArray) (cs : Array Value) (h : cs.toList = ct l) : Reads (w.alloc (.cells cs 9)) (w.heap.size + 1) 1 (some ⟨w.heap.size, 0, none⟩) l.length (ct l) := by
  have := Reads.new w 9 cs
  rw [h] at this
  have e : cs.size = l.length := by rw [← Array.length_toList, h]; simp [ct]
  rwa [e] at this
theorem alive13_any (w : World) : Calls Try.prog 42 #[] w fun e w' => e = .returned (.bool true) ∧ Below w.heap.size w w' := by
  obtain ⟨T1, hT1⟩ : ∃ T, S (Cp.bytesC (chC [1, 3])) = T := ⟨_, rfl⟩
  obtain ⟨T2, hT2⟩ : ∃ T, S (Cp.bytesC (chC [4, 5])) = T := ⟨_, rfl⟩
  have HV : Hid (Lg.members [0, 1, 2, 3] [0, 1, 2] (tx [T1, T2]) = ([1, 3], 0)) := by
    rw [Hid, ← alive13_val, ← hT1, ← hT2]
    rfl
  have HT1 : Hid ((if true = true then S (Cp.bytesC (chC [1, 3])) else ⟨#[]⟩) = T1) := by rw [Hid, if_pos rfl]; exact hT1
  have HT2 : Hid ((if true = true then S (Cp.bytesC (chC [4, 5])) else ⟨#[]⟩) = T2) := by rw [Hid, if_pos rfl]; exact hT2
  have HZ : Hid (∀ s ∈ [T1, T2], s.size ≤ maxLen) := by
    intro s hs
    have h1 := (Cp.bytesC_len (c := chC [1, 3]) (by decide)).2
    have h2 := (Cp.bytesC_len (c := chC [4, 5]) (by decide)).2
    simp only [List.mem_cons, List.not_mem_nil, or_false] at hs
    rcases hs with rfl | rfl
    · rw [← hT1, S_size]; unfold maxLen; omega
    · rw [← hT2, S_size]; unfold maxLen; omega
  clear hT1 hT2
  go_enter Try.func42, Try.ntmps42
  go_wp2_with fail
  refine (group13_any w).mono ?_
  rintro e w1 ⟨g1, g2, rfl, hr1, hr2, hb1⟩
  have HR1 := Lib.hid hr1
  have HR2 := Lib.hid hr2
  have B1 := Lib.hid hb1
  clear hr1 hr2 hb1
  have B2 := Lib.hid (B1.out.alloc B1.out.size (.cells #[.int .i64 1, .int .i64 3] 3))
  go_wp2_with fail
  refine (change13_any (some ⟨w1.heap.size, 0, none⟩) 2 2 [1, 3] _ ((newI w1 [1, 3] #[.int .i64 1, .int .i64 3] rfl).more (by simp)) (by omega) (by omega) (by intro x hx; simp at hx; rcases hx with rfl | rfl <;> exact ⟨by omega, by omega⟩) true (by decide) T1 HT1.out).mono ?_
  rintro e w3 ⟨rfl, hb⟩
  have Z3 := Lib.hid (below_of_alloc (hb.mono (by simp)) (Nat.le_refl w1.heap.size))
  have B3 := Lib.hid (B1.out.trans (Z3.out.mono B1.out.size))
  have B4 := Lib.hid (B3.out.alloc B3.out.size (.cells #[.int .i64 4, .int .i64 5] 3))
  clear hb
  go_wp2_with fail
  refine (change13_any (some ⟨w3.heap.size, 0, none⟩) 2 2 [4, 5] _ ((newI w3 [4, 5] #[.int .i64 4, .int .i64 5] rfl).more (by simp)) (by omega) (by omega) (by intro x hx; simp at hx; rcases hx with rfl | rfl <;> exact ⟨by omega, by omega⟩) true (by decide) T2 HT2.out).mono ?_
  rintro e w5 ⟨rfl, hb⟩
  have Z5 := Lib.hid (below_of_alloc (hb.mono (by simp)) (Nat.le_refl w3.heap.size))
  have B5 := Lib.hid (B3.out.trans (Z5.out.mono B3.out.size))
  have HS := Lib.hid ((newS w5 [T1, T2] #[.string T1, .string T2] rfl).more (B' := (w5.alloc (.cells #[.string T1, .string T2] 9)).heap.size) (by simp))
  have ZZ := Lib.hid ((Z3.out.trans (Z5.out.mono Z3.out.size)).alloc (by have := Z3.out.size; have := Z5.out.size; omega) (.cells #[.string T1, .string T2] 9))
  have HR1' := Lib.hid ((HR1.out.below ZZ.out).more ZZ.out.size)
  have HR2' := Lib.hid ((HR2.out.below ZZ.out).more ZZ.out.size)
  have B6 := Lib.hid (B5.out.alloc B5.out.size (.cells #[.string T1, .string T2] 9))
  clear hb
  go_wp2_with fail
  generalize w5.alloc (.cells #[.string T1, .string T2] 9) = w6 at *
  refine (lmembers_any (some ⟨g1, 0, none⟩) 4 4 [0, 1, 2, 3] (some ⟨g2, 0, none⟩) 3 3 [0, 1, 2] (some ⟨w5.heap.size, 0, none⟩) 2 2 [T1, T2] w6 HR1'.out HR2'.out HS.out (by omega) (by omega) (by omega) HZ.out).mono ?_
  rintro e w7 ⟨⟨R, k, c, r, x, rfl, ho, hm⟩, hb⟩
  rw [HV.out] at hm
  obtain ⟨rfl, rfl⟩ : [1, 3] = r ∧ 0 = x := by simpa using hm
  obtain rfl : 2 = k := by have := (own_readsC ho).len_i; simpa using this
  have B7 := Lib.hid (B6.out.trans (hb.mono B6.out.size))
  have B8 := Lib.hid (B7.out.alloc B7.out.size (.cells #[.int .i64 1, .int .i64 3] 3))
  have HQ := Lib.hid (rsameInts_any R 2 c (some ⟨w7.heap.size, 0, none⟩) 2 2 _ _ [1, 3] [1, 3] (w7.alloc (.cells #[.int .i64 1, .int .i64 3] 3)) ((own_readsC ho).alloc (Nat.le_refl _) _) (newI w7 [1, 3] #[.int .i64 1, .int .i64 3] rfl) (by omega) (by omega) true (by decide))
  clear hb ho hm
  go_wp2_with fail
  refine HQ.out.mono ?_
  rintro e w8 ⟨rfl, q, rfl⟩
  go_wp2
  go_ret
  exact ⟨rfl, below_drewN B8.out q⟩
end Go.Proofs.Ytaoekfgeggopbaa

namespace Go.Proofs.Ytaoekfgeggopbaa
open Go.RowKit
set_option maxHeartbeats 4000000
set_option maxRecDepth 100000
set_option linter.unusedVariables false
set_option linter.unusedSimpArgs false

theorem app_tx {ops : Array Oper} {rest : List Oper} {o : Oper} {a : Act} {Q : Exit → Act → World → Prop} {w : World} (hgd : o.guard = none) (sl x : Operand)
    (ho : o.op = .call { callee := .builtin .append, args := #[sl, x], argTypes := #[50, 50] })
    (base : Nat) (v : Value) (n : Nat) (l : List ByteArray) (hs : a.eval sl = v) (hown : w.ownsRow base 9 1 v n (ct l))
    (B : Nat) (A : Option Addr) (m c : Nat) (news : List ByteArray) (hx : a.eval x = .slice A m c) (hr : Reads w B 1 A m (ct news))
    (hn : n + m ≤ 1000000000) (hbase : base ≤ w.heap.size)
    (h : ∀ v' w', w'.ownsRow base 9 1 v' (n + m) (ct (l ++ news)) → Grew w w' v v' → wpList Try.prog ops Q rest (a.put o.dst v') w') :
    wpList Try.prog ops Q (o :: rest) a w := by
  obtain ⟨i0, hi0, hz0, hz1, hz2⟩ := info_parts str_info
  refine wpList_append_any _ hgd sl x 50 ho base 9 i0 _ 1 16 Try.underlying50 hi0 hz0 hz1 hz2 rfl (by decide) v n (ct l) hs hown B A m c (ct news) hx hr (ct_one _) (by simp only [maxLen]; omega) (by omega) hbase ?_
  intro v' w' h1 h2 h3
  refine h v' w' (by rw [ct_append]; exact h1) ⟨h2, ?_⟩
  rcases h3 with h3 | h3
  · exact Or.inl h3
  · exact Or.inr ⟨_, h3, Nat.le_refl _⟩

namespace Lg
open Cp
theorem readX_may {s : List UInt8} (h : (readX s).2 = 0) : mayC (readX s).1 = true ∧ bytesC (readX s).1 = s := by
  by_cases hl : 1024 < s.length
  · rw [readX_long hl] at h; cases h
  · cases hr : readC s with
    | none => rw [readX_none hl hr] at h; cases h
    | some c => rw [readX_some hl hr]; exact readC_back hr
theorem readX_bytes {c : Cmd} (h : mayC c = true) : readX (bytesC c) = (c, 0) := readX_some (by have := (bytesC_len h).2; omega) (readC_bytes h)
theorem all_may : ∀ {ls : List (List UInt8)} {l : List Cmd}, all ls = some l → ∀ c ∈ l, mayC c = true
  | [], l, h => by simp only [all, Option.some.injEq] at h; subst h; simp
  | s :: r, l, h => by
    by_cases hs : (readX s).2 = 0
    · rw [all_cons_ok hs] at h
      cases hr : all r with
      | none => rw [hr] at h; cases h
      | some q =>
        rw [hr] at h
        simp only [Option.map_some, Option.some.injEq] at h
        subst h
        intro c hc
        rcases List.mem_cons.1 hc with rfl | hc
        · exact (readX_may hs).1
        · exact all_may hr c hc
    · rw [all_cons_bad hs] at h; cases h
theorem all_back : ∀ {ls : List (List UInt8)} {l : List Cmd}, all ls = some l → l.map bytesC = ls
  | [], l, h => by simp only [all, Option.some.injEq] at h; subst h; rfl
  | s :: r, l, h => by
    by_cases hs : (readX s).2 = 0
    · rw [all_cons_ok hs] at h
      cases hr : all r with
      | none => rw [hr] at h; cases h
      | some q =>
        rw [hr] at h
        simp only [Option.map_some, Option.some.injEq] at h
        subst h
        rw [List.map_cons, (readX_may hs).2, all_back hr]
    · rw [all_cons_bad hs] at h; cases h
theorem all_append (r : List (List UInt8)) : ∀ (ls : List (List UInt8)), all (ls ++ r) = match all ls with | none => none | some l => (all r).map (l ++ ·)
  | [] => by
    rw [List.nil_append]
    simp only [all]
    cases all r <;> simp
  | s :: q => by
    rw [List.cons_append]
    by_cases hs : (readX s).2 = 0
    · rw [all_cons_ok hs, all_cons_ok hs, all_append r q]
      cases all q with
      | none => rfl
      | some x =>
        simp only [Option.map_some]
        cases all r <;> simp
    · rw [all_cons_bad hs, all_cons_bad hs]
theorem cmdsX_ok {ls : List (List UInt8)} {l : List Cmd} (h : cmdsX ls = (l, 0)) : ¬ 200 < ls.length ∧ all ls = some l := by
  by_cases hb : 200 < ls.length
  · rw [cmdsX_long hb] at h; cases h
  · cases ha : all ls with
    | none => rw [cmdsX_none hb ha] at h; cases h
    | some q =>
      rw [cmdsX_some hb ha] at h
      injection h with h
      subst h
      exact ⟨hb, rfl⟩
theorem cmdsX_snoc {ls : List (List UInt8)} {l : List Cmd} {c : Cmd} (h : cmdsX ls = (l, 0)) (hn : ls.length ≤ 199) (hc : mayC c = true) : cmdsX (ls ++ [bytesC c]) = (l ++ [c], 0) := by
  obtain ⟨_, ha⟩ := cmdsX_ok h
  refine cmdsX_some (by simp; omega) ?_
  rw [all_append, ha, all_cons_ok (by rw [readX_bytes hc]), readX_bytes hc]
  rfl
theorem members_parts {rost mem : List Int} {ls : List (List UInt8)} {r : List Int} (h : members rost mem ls = (r, 0)) : cgroup rost mem = 0 ∧ ∃ l, cmdsX ls = (l, 0) ∧ memX rost mem l = r := by
  unfold members at h
  split at h
  · rename_i h1
    split at h
    · rename_i h2
      injection h with h _
      exact ⟨h1, (cmdsX ls).1, by rw [← h2], h⟩
    · rename_i h2
      injection h with _ h
      exact absurd h h2
  · rename_i h1
    injection h with _ h
    exact absurd h h1
theorem members_nil {rost mem : List Int} {ls : List (List UInt8)} {r : List Int} {x : Int} (h : members rost mem ls = (r, x)) (hx : x ≠ 0) : r = [] := by
  unfold members at h
  split at h
  · split at h
    · injection h with _ h
      exact absurd h.symm hx
    · injection h with h _
      exact h.symm
  · injection h with h _
    exact h.symm
theorem memX_snoc (rost mem : List Int) (l : List Cmd) (c : Cmd) : memX rost mem (l ++ [c]) = if good rost c = true then c.mem else memX rost mem l := by
  unfold memX
  rw [List.reverse_append, List.reverse_singleton, List.singleton_append, List.find?_cons]
  cases good rost c <;> rfl
theorem members_snoc {rost mem : List Int} {ls : List (List UInt8)} {r : List Int} {c : Cmd} (h : members rost mem ls = (r, 0)) (hn : ls.length ≤ 199) (hc : mayC c = true) : members rost mem (ls ++ [bytesC c]) = (if good rost c = true then c.mem else r, 0) := by
  obtain ⟨h1, l, h2, h3⟩ := members_parts h
  rw [members_ok h1 (cmdsX_snoc h2 hn hc), memX_snoc, h3]
theorem mayC_mem {c : Cmd} (h : mayC c = true) (hk : c.k = 3) : Qm.check c.mem = 0 := by
  unfold mayC at h
  rw [if_neg (by omega), if_neg (by omega), if_neg (by omega), if_pos hk] at h
  simp only [Bool.and_eq_true, beq_iff_eq] at h
  exact h.1.1.1.2
theorem good_parts {rost : List Int} {c : Cmd} (h : good rost c = true) : c.k = 3 ∧ ∀ x ∈ c.mem, x ∈ rost := by
  unfold good at h
  rw [Bool.and_eq_true, beq_iff_eq, Bool.not_eq_true', List.any_eq_false] at h
  exact ⟨h.1, fun x hx => by have := h.2 x hx; simpa using this⟩
theorem members_may {rost mem : List Int} {ls : List (List UInt8)} {r : List Int} (h : members rost mem ls = (r, 0)) : Qm.check r = 0 ∧ ∀ x ∈ r, x ∈ rost := by
  obtain ⟨h1, l, h2, h3⟩ := members_parts h
  obtain ⟨hc1, hc2, hw⟩ := cgroup_zero h1
  unfold memX at h3
  split at h3
  · rename_i c hc
    subst h3
    have hg := List.find?_some hc
    obtain ⟨hk, hm⟩ := good_parts hg
    have hin : c ∈ l := by have := List.mem_of_find?_eq_some hc; simpa using this
    exact ⟨mayC_mem (all_may (cmdsX_ok h2).2 c hin) hk, hm⟩
  · subst h3
    refine ⟨hc2, fun x hx => ?_⟩
    unfold within at hw
    have := List.all_eq_true.1 hw x hx
    simpa using this
end Lg
end Go.Proofs.Ytaoekfgeggopbaa

namespace Go.Proofs.Ytaoekfgeggopbaa
open Go.RowKit
set_option maxHeartbeats 4000000
set_option linter.unusedVariables false
set_option linter.unusedSimpArgs false

namespace Lg
theorem place_none (v : ByteArray) : ∀ (ls : List ByteArray) (k : Nat), place v k ls = -1 → ∀ s ∈ ls, s ≠ v
  | [], k, _, s, hs => by simp at hs
  | a :: r, k, h, s, hs => by
    rw [place] at h
    split at h
    · omega
    · rename_i hne
      rcases List.mem_cons.1 hs with rfl | hs
      · exact hne
      · exact place_none v r (k + 1) h s hs
theorem place_some (v : ByteArray) : ∀ (ls : List ByteArray) (k : Nat), 0 ≤ place v k ls → ∃ i : Nat, place v k ls = (k : Int) + (i : Int) ∧ i < ls.length ∧ ls[i]? = some v ∧ ∀ j, j < i → ∀ s, ls[j]? = some s → s ≠ v
  | [], k, h => by rw [place] at h; omega
  | a :: r, k, h => by
    rw [place] at h ⊢
    by_cases he : a = v
    · rw [if_pos he]
      refine ⟨0, by omega, by simp, by simp [he], fun j hj => by omega⟩
    · rw [if_neg he] at h ⊢
      obtain ⟨i, h1, h2, h3, h4⟩ := place_some v r (k + 1) h
      refine ⟨i + 1, by rw [h1]; omega, by simp; omega, by simpa using h3, fun j hj s hs => ?_⟩
      cases j with
      | zero => simp at hs; subst hs; exact he
      | succ j => exact h4 j (by omega) s (by simpa using hs)
theorem place_append (v : ByteArray) (more : List ByteArray) : ∀ (ls : List ByteArray) (k : Nat), 0 ≤ place v k ls → place v k (ls ++ more) = place v k ls
  | [], k, h => by rw [place] at h; omega
  | a :: r, k, h => by
    rw [List.cons_append, place, place]
    rw [place] at h
    by_cases he : a = v
    · rw [if_pos he, if_pos he]
    · rw [if_neg he, if_neg he]
      rw [if_neg he] at h
      exact place_append v more r (k + 1) h
theorem cmdsX_bad {ls : List (List UInt8)} {l : List Cp.Cmd} {x : Int} (h : cmdsX ls = (l, x)) (hx : x ≠ 0) : l = [] := by
  by_cases hb : 200 < ls.length
  · rw [cmdsX_long hb] at h
    injection h with h _
    exact h.symm
  · cases ha : all ls with
    | none =>
      rw [cmdsX_none hb ha] at h
      injection h with h _
      exact h.symm
    | some q =>
      rw [cmdsX_some hb ha] at h
      injection h with _ h
      exact absurd h.symm hx
end Lg
/-- What Commands reads is written as it was. -/
theorem cmds_back {ls : List ByteArray} {ds : List HC} (h : (ds.map HC.cmd, (0 : Int)) = Lg.cmdsX (tx ls)) : ds.length = ls.length ∧ ∀ (i : Nat) (D : HC) (s : ByteArray), ds[i]? = some D → ls[i]? = some s → Cp.mayC D.cmd = true ∧ S (Cp.bytesC D.cmd) = s := by
  have h1 := Lg.cmdsX_ok h.symm
  have h2 := Lg.all_back h1.2
  have hl := Lg.cmdsX_len h.symm
  rw [List.length_map, tx_len] at hl
  refine ⟨hl, fun i D s hD hs => ⟨Lg.all_may h1.2 D.cmd (List.mem_map.2 ⟨D, List.mem_of_getElem? hD, rfl⟩), ?_⟩⟩
  have h3 : ((ds.map HC.cmd).map Cp.bytesC)[i]? = (tx ls)[i]? := by rw [h2]
  simp only [List.getElem?_map, hD, tx, hs, Option.map_some, Option.some.injEq] at h3
  rw [h3, S_of]
end Go.Proofs.Ytaoekfgeggopbaa
