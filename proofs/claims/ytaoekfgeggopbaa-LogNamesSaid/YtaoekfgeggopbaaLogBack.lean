/-
  slices.Backward over commands.
-/
import Derived.RangeFuncNested
import Derived.RangeFuncBound
import Derived.RangeFuncCalls
import Derived.RangeFuncLeaves
import Derived.Shelf.Abstract
import Derived.Shelf.RegionOpen
import Derived.WalkKit
import Derived.OwnWalkIn
import Derived.TacticsInMore
import Derived.LoopNIn
import Derived.LoopIn
import Derived.Test.YtaoekfgeggopbaaLogFn
namespace Go.Proofs.Ytaoekfgeggopbaa
open Go.RowKit Go.Shelf
attribute [local go_sem] Oper.semAt_some
set_option maxHeartbeats 8000000
set_option maxRecDepth 100000
set_option linter.unusedVariables false
set_option linter.unusedSimpArgs false

/-- A place of a list, and what stands there. -/
abbrev IX (cs : List HC) := { p : Nat × HC // cs[p.1]? = some p.2 }
def encIX {cs : List HC} (x : IX cs) : Array Value := #[.int .i64 (x.1.1 : Int), .agg #[.int .u8 x.1.2.k, .int .i64 x.1.2.mi, .slice x.1.2.GA x.1.2.Gn x.1.2.Gc, .int .i64 x.1.2.mt, .string x.1.2.key, .string x.1.2.body, .int .i64 x.1.2.i, .int .i64 x.1.2.tm, .slice x.1.2.MA x.1.2.Mn x.1.2.Mc, .int .i64 x.1.2.tp, .int .i64 x.1.2.who, .int .i64 x.1.2.n]]
/-- From the back: places n - 1, n - 2, ... -/
def Down {cs : List HC} (n : Nat) (pre : List (IX cs)) : Prop := ∀ i x, pre[i]? = some x → x.1.1 + i + 1 = n
theorem Down.nil {cs : List HC} (n : Nat) : Down (cs := cs) n [] := by intro i x h; simp at h
theorem Down.snoc {cs : List HC} {n : Nat} {pre : List (IX cs)} (h : Down n pre) {x : IX cs} (hx : x.1.1 + pre.length + 1 = n) : Down n (pre ++ [x]) := by
  intro i y hy
  by_cases hi : i < pre.length
  · rw [List.getElem?_append_left hi] at hy
    exact h i y hy
  · rw [List.getElem?_append_right (by omega)] at hy
    have h0 : i - pre.length = 0 := by
      rcases Nat.eq_zero_or_pos (i - pre.length) with h0 | h0
      · exact h0
      · rw [List.getElem?_eq_none (by simp; omega)] at hy; cases hy
    rw [h0] at hy
    simp only [List.getElem?_cons_zero, Option.some.injEq] at hy
    subst hy
    omega

theorem back1_in (F : Fence) (n : Nat) (hF : F.fn 88) (hro : F.round = none) (hn : 1 ≤ n) (l Bs n₀ b off len cap : Nat) (cs : List HC) (hlen : cs.length = len) (hreach : len ≤ 1000000000) (hb : b < n₀) (hBn : Bs < n₀) (J Jx : List (IX cs) → World → Prop)
    (hY : ∀ pre x W, J pre W → pre.length < len → YieldAt F (n - 1) Try.prog l (encIX x) W fun e W' =>
      (e = .returned (.bool true) ∧ J (pre ++ [x]) W' ∧ Below n₀ W W') ∨ (e = .returned (.bool false) ∧ Jx (pre ++ [x]) W'))
    (W : World) (hBs : W.cell? ⟨Bs, 0, none⟩ = some (.slice (some ⟨b, off, none⟩) len cap)) (hc : ∀ k D, cs[k]? = some D → ∀ i u, (ccells D)[i]? = some u → W.cell? ⟨b, off + k * 12 + i, none⟩ = some u) (h0 : J [] W) :
    CallsIn F n Try.prog 88 #[.func (.yield l) #[] #[], .pointer (some ⟨Bs, 0, none⟩)] W fun e W' => (∃ v, e = .returned v) ∧
      ((∃ ys, (Down len ys ∧ ys.length = len) ∧ J ys W') ∨ (∃ pre, Down len pre ∧ Jx pre W')) := by
  refine callsIn_of_wp Try.func88 rfl hF ?_ hro
  simp only [Try.ntmps88, List.size_toArray, List.length_cons, List.length_nil, Nat.reduceAdd, Nat.reduceSub, Array.replicate_succ, Array.replicate_zero, List.push_toArray, List.append_toArray, List.nil_append, List.cons_append]
  gi_wp2
  gi_loopw [3] (fun i wr => ∃ (r : Nat) (pre : List (IX cs)), pre.length + r = len ∧ i = .int .i64 ((r : Int) - 1) ∧ Down len pre ∧ J pre wr ∧ Below n₀ W wr)
    (fun i _ => (intOf i + 1).toNat)
  case atStart => exact ⟨len, [], by simp, by first | rfl | (go_num), Down.nil _, h0, Below.refl _ _⟩
  case round =>
    obtain ⟨r, pre, hr, rfl, hd, hJs, hnx⟩ := hrel
    have hbs := (hnx.cell (p := ⟨Bs, 0, none⟩) hBn).trans hBs
    cases r with
    | zero =>
      gi_wp2
      go_end0
      exact ⟨⟨_, rfl⟩, .inl ⟨_, ⟨hd, by omega⟩, hJs⟩⟩
    | succ j =>
      obtain ⟨D, hD⟩ : ∃ D, cs[j]? = some D := ⟨_, List.getElem?_eq_getElem (by omega)⟩
      have ej : (((j + 1 : Nat) : Int) - 1) = (j : Int) := by omega
      rw [ej]
      obtain ⟨fn, tmps, assign, body, hy, hR⟩ := hY pre ⟨(j, D), hD⟩ wr hJs (by omega)
      dsimp only [encIX] at hy
      have hcc : ∀ i u, (ccells D)[i]? = some u → wr.cell? ⟨b, off + j * 12 + i, none⟩ = some u := fun i u h => (hnx.cell (p := ⟨b, _, none⟩) hb).trans (hc j D hD i u h)
      have c0 : wr.cell? ⟨b, off + j * 12, none⟩ = some (.int .u8 D.k) := hcc 0 _ rfl
      have c1 : wr.cell? ⟨b, off + j * 12 + 1, none⟩ = some (.int .i64 D.mi) := hcc 1 _ rfl
      have c2 : wr.cell? ⟨b, off + j * 12 + 2, none⟩ = some (.slice D.GA D.Gn D.Gc) := hcc 2 _ rfl
      have c3 : wr.cell? ⟨b, off + j * 12 + 3, none⟩ = some (.int .i64 D.mt) := hcc 3 _ rfl
      have c4 : wr.cell? ⟨b, off + j * 12 + 4, none⟩ = some (.string D.key) := hcc 4 _ rfl
      have c5 : wr.cell? ⟨b, off + j * 12 + 5, none⟩ = some (.string D.body) := hcc 5 _ rfl
      have c6 : wr.cell? ⟨b, off + j * 12 + 6, none⟩ = some (.int .i64 D.i) := hcc 6 _ rfl
      have c7 : wr.cell? ⟨b, off + j * 12 + 7, none⟩ = some (.int .i64 D.tm) := hcc 7 _ rfl
      have c8 : wr.cell? ⟨b, off + j * 12 + 8, none⟩ = some (.slice D.MA D.Mn D.Mc) := hcc 8 _ rfl
      have c9 : wr.cell? ⟨b, off + j * 12 + 9, none⟩ = some (.int .i64 D.tp) := hcc 9 _ rfl
      have c10 : wr.cell? ⟨b, off + j * 12 + 10, none⟩ = some (.int .i64 D.who) := hcc 10 _ rfl
      have c11 : wr.cell? ⟨b, off + j * 12 + 11, none⟩ = some (.int .i64 D.n) := hcc 11 _ rfl
      gi_wp2
      refine hR.mono ?_
      rintro e W3 (⟨rfl, hJ3, hk3⟩ | ⟨rfl, hJx3⟩)
      · gi_wp2
        go_roundw
        case rel => exact ⟨j, pre ++ [⟨(j, D), hD⟩], by simp; omega, by first | rfl | (go_num), hd.snoc (by simp; omega), hJ3, hnx.trans hk3⟩
        case measure => simp [intOf] <;> omega
      · gi_wp2
        refine bodyPost_ret (results_none rfl _ _ _) rfl ?_
        exact ⟨⟨_, rfl⟩, .inr ⟨_, hd.snoc (by simp; omega), hJx3⟩⟩
/-- .. at nothing: no round. -/
theorem back1_nil_in (F : Fence) (n : Nat) (hF : F.fn 88) (hro : F.round = none) (l Bs : Nat) (A : Option Addr) (cap : Nat) (cs : List HC) (J : List (IX cs) → World → Prop) (W : World) (hBs : W.cell? ⟨Bs, 0, none⟩ = some (.slice A 0 cap)) (h0 : J [] W) :
    CallsIn F n Try.prog 88 #[.func (.yield l) #[] #[], .pointer (some ⟨Bs, 0, none⟩)] W fun e W' => (∃ v, e = .returned v) ∧ J [] W' := by
  refine callsIn_of_wp Try.func88 rfl hF ?_ hro
  simp only [Try.ntmps88, List.size_toArray, List.length_cons, List.length_nil, Nat.reduceAdd, Nat.reduceSub, Array.replicate_succ, Array.replicate_zero, List.push_toArray, List.append_toArray, List.nil_append, List.cons_append]
  gi_wp2
  gi_loopw [3] (fun i wr => i = .int .i64 (-1) ∧ J [] wr) (fun _ _ => 0)
  case atStart => exact ⟨rfl, h0⟩
  case round =>
    obtain ⟨rfl, hJs⟩ := hrel
    gi_wp2
    go_end0
    exact ⟨⟨_, rfl⟩, hJs⟩
/-- slices.Backward: the slice is boxed; the function value captures the box. -/
theorem back_any (A : Option Addr) (len cap : Nat) (w : World) :
    Calls Try.prog 59 #[.slice A len cap] w fun e w' => e = .returned (.func (.func 88) #[] #[.pointer (some ⟨w.heap.size, 0, none⟩)]) ∧ w' = w.alloc (.cells #[.slice A len cap] 55) := by
  go_enter Try.func59, Try.ntmps59
  go_wp2
  go_ret
  exact ⟨rfl, rfl⟩
theorem back_stops (F : Fence) (n : Nat) (hF : F.fn 88) (hro : F.round = none) (hn : 1 ≤ n) (Bs n₀ : Nat) (A : Option Addr) (len cap : Nat) (cs : List HC) (hreach : len ≤ 1000000000) (w : World) (hBs : Bs < n₀) (hn₀ : n₀ ≤ w.heap.size)
    (hc : w.cell? ⟨Bs, 0, none⟩ = some (.slice A len cap)) (hI : Reads w n₀ 12 A len (cc cs)) :
    SeqStopsK F n Try.prog 88 #[.pointer (some ⟨Bs, 0, none⟩)] (encIX (cs := cs)) (Below n₀) (fun ys => Down len ys ∧ ys.length = len) (fun pre => Down len pre) len w := fun l J Jx W hW _ _ hY h0 => by
  have hc' := (hW.cell (p := ⟨Bs, 0, none⟩) (show Bs < w.heap.size by omega)).trans hc
  have hl := hI.len_c
  rcases Nat.eq_zero_or_pos len with h | h
  · subst h
    obtain rfl : cs = [] := List.eq_nil_of_length_eq_zero hl
    exact (back1_nil_in F n hF hro l Bs A cap [] J W hc' h0).mono fun e W' ⟨he, hj⟩ => ⟨he, .inl ⟨_, ⟨Down.nil _, rfl⟩, hj⟩⟩
  · obtain ⟨b, off, m, rfl, hb, _, _⟩ := hI.cmd h
    refine back1_in F n hF hro hn l Bs n₀ b off len cap cs hl hreach hb hBs J Jx hY W hc' ?_ h0
    intro k D hD i u hu
    have hk : k < len := by rw [← hl]; exact (List.getElem?_eq_some_iff.1 hD).1
    obtain ⟨b', off', D', e, _, hD', hcc⟩ := hI.cmd hk
    cases e
    rw [hD] at hD'
    cases hD'
    exact (hW.cell (p := ⟨b, _, none⟩) (show b < w.heap.size by omega)).trans (hcc i u hu)
end Go.Proofs.Ytaoekfgeggopbaa
