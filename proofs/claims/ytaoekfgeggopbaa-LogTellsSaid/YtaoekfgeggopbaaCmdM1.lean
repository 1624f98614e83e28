/-
  Several texts joined: CmdRefP, CmdRefL, CmdParse, CmdReadR.
-/
import Derived.Test.YtaoekfgeggopbaaCmdPlain
import Derived.Test.YtaoekfgeggopbaaCmdNums
import Derived.Test.YtaoekfgeggopbaaCmdRdB
import Derived.Test.YtaoekfgeggopbaaNumRef
import Derived.Test.YtaoekfgeggopbaaNumRefInts
import Derived.Test.YtaoekfgeggopbaaCmdRead
import Derived.Test.YtaoekfgeggopbaaCmdReadW
import Derived.Test.YtaoekfgeggopbaaCmdMayR
import Derived.Test.YtaoekfgeggopbaaCmdIn
namespace Go.Proofs.Ytaoekfgeggopbaa
open Go.RowKit
set_option linter.unusedVariables false
set_option linter.unusedSimpArgs false
namespace Cp
open Nm Rp
def isNum : Fld → Bool
  | .gs => false
  | .key => false
  | .body => false
  | .mem => false
  | _ => true
def setF : Fld → Int → Cmd → Cmd
  | .mi, x, c => { c with mi := x }
  | .mt, x, c => { c with mt := x }
  | .i, x, c => { c with i := x }
  | .tm, x, c => { c with tm := x }
  | .tp, x, c => { c with tp := x }
  | .who, x, c => { c with who := x }
  | .n, x, c => { c with n := x }
  | _, _, c => c
def cpN : List Fld → List Int → Cmd → Cmd
  | f :: r, x :: xs, c => cpN r xs (setF f x c)
  | _, _, c => c
theorem rd1_num {f : Fld} (h : isNum f = true) (c : Cmd) (p : St) : rd1 f c p = (setF f (next p).1 c, (next p).2) := by
  cases f <;> first | rfl | cases h
theorem nums_none {k : Nat} {l : List UInt8} (h : get l = none) : Wp.numsN (k + 1) l = none ∧ next (l, false) = (0, (l, true)) := by
  constructor
  · unfold Wp.numsN; rw [h]
  · simp [next, h]
theorem nums_some {k m j : Nat} {l : List UInt8} (h : get l = some (m, j)) : next (l, false) = (m, (l.drop j, false)) ∧ Wp.numsN (k + 1) l = (Wp.numsN k (l.drop j)).map fun p => ((m : Int) :: p.1, p.2) := by
  constructor
  · simp [next, h]
  · conv => lhs; unfold Wp.numsN
    rw [h]
    simp only
    cases hq : Wp.numsN k (l.drop j) with
    | none => rfl
    | some p => obtain ⟨a, b⟩ := p; rfl
theorem rdF_nums : ∀ (fs : List Fld) (c : Cmd) (l : List UInt8), (∀ f ∈ fs, isNum f = true) →
    (∀ xs r, Wp.numsN fs.length l = some (xs, r) → rdF fs c (l, false) = (cpN fs xs c, (r, false))) ∧ (Wp.numsN fs.length l = none → (rdF fs c (l, false)).2.2 = true)
  | [], c, l, _ => by
    refine ⟨fun xs r h => ?_, fun h => by simp [Wp.numsN] at h⟩
    simp only [List.length_nil, Wp.numsN, Option.some.injEq, Prod.mk.injEq] at h
    obtain ⟨rfl, rfl⟩ := h
    rfl
  | f :: fs, c, l, hf => by
    have h1 := hf f List.mem_cons_self
    have ih := fun c l => rdF_nums fs c l (fun g hg => hf g (List.mem_cons_of_mem _ hg))
    rw [List.length_cons]
    cases hg : get l with
    | none =>
      obtain ⟨e1, e2⟩ := nums_none (k := fs.length) hg
      refine ⟨fun xs r h => (by rw [e1] at h; cases h), fun _ => ?_⟩
      unfold rdF
      rw [rd1_num h1, e2]
      exact rdF_true _ _ _ rfl
    | some p =>
      obtain ⟨m, j⟩ := p
      obtain ⟨e1, e2⟩ := nums_some (k := fs.length) hg
      rw [e2]
      unfold rdF
      rw [rd1_num h1, e1]
      obtain ⟨i1, i2⟩ := ih (setF f m c) (l.drop j)
      refine ⟨fun xs r h => ?_, fun h => ?_⟩
      · cases hq : Wp.numsN fs.length (l.drop j) with
        | none => rw [hq] at h; cases h
        | some q =>
          obtain ⟨ys, r'⟩ := q
          rw [hq] at h
          simp only [Option.map_some, Option.some.injEq, Prod.mk.injEq] at h
          obtain ⟨rfl, rfl⟩ := h
          exact i1 ys _ hq
      · cases hq : Wp.numsN fs.length (l.drop j) with
        | none => exact i2 hq
        | some q => rw [hq] at h; cases h
theorem rdF_app : ∀ (r s : List Fld) (c : Cmd) (p : St), rdF (r ++ s) c p = rdF s (rdF r c p).1 (rdF r c p).2
  | [], _, _, _ => rfl
  | f :: r, s, c, p => by rw [List.cons_append, rdF, rdF_app r s, rdF]
theorem rd1_k (f : Fld) (c : Cmd) (p : St) : (rd1 f c p).1.k = c.k := by cases f <;> rfl
theorem rdF_k : ∀ (r : List Fld) (c : Cmd) (p : St), (rdF r c p).1.k = c.k
  | [], _, _ => rfl
  | f :: r, c, p => by rw [rdF, rdF_k r, rd1_k]
/-- The program's reading, ahead of its checks. -/
def rdC (l : List UInt8) : Cmd × St := rdF (fieldsC ((min (next (l, false)).1 255 : Nat) : Int)) (zeroC ((min (next (l, false)).1 255 : Nat) : Int)) (next (l, false)).2
theorem readC_rd (l : List UInt8) : readC l = if (rdC l).2.2 = false ∧ (rdC l).2.1 = [] ∧ mayC (rdC l).1 = true then some (rdC l).1 else none := rfl
theorem readC_bad {l : List UInt8} (h : (rdC l).2.2 = true) : readC l = none := by
  rw [readC_rd, if_neg]
  rw [h]
  exact fun x => by cases x.1
theorem readC_b0 {l : List UInt8} (h : (next (l, false)).2.2 = true) : readC l = none := readC_bad (rdF_true _ _ _ h)
theorem readC_big {l : List UInt8} (h : 6 < (next (l, false)).1) : readC l = none := by
  rw [readC_rd, if_neg]
  rintro ⟨-, -, hm⟩
  have h1 := (mayC_cases hm).2.1
  unfold rdC at h1
  rw [rdF_k] at h1
  simp only [zeroC] at h1
  omega
theorem rdC_is {l l0 : List UInt8} {m : Nat} (h : next (l, false) = (m, (l0, false))) (hm : m ≤ 6) : rdC l = rdF (fieldsC (m : Int)) (zeroC (m : Int)) (l0, false) := by
  unfold rdC
  rw [h]
  simp only
  rw [show min m 255 = m by omega]
/-- One number. -/
theorem nums1 (l : List UInt8) : (Wp.numsN 1 l = none ∧ (next (l, false)).2.2 = true) ∨ ∃ (m : Nat) (r : List UInt8), m ≤ 1099511627776 ∧ Wp.numsN 1 l = some ([(m : Int)], r) ∧ next (l, false) = (m, (r, false)) := by
  cases hg : get l with
  | none =>
    obtain ⟨e1, e2⟩ := nums_none (k := 0) hg
    exact Or.inl ⟨e1, by rw [e2]⟩
  | some p =>
    obtain ⟨m, j⟩ := p
    obtain ⟨e1, e2⟩ := nums_some (k := 0) hg
    exact Or.inr ⟨m, _, (get_back hg).1, by rw [e2]; rfl, e1⟩
theorem textK_none {l : List UInt8} (h : getText l = none) : Wp.textK (l, false) = ([], (l, true)) := by simp [Wp.textK, h]
theorem textK_is {l t : List UInt8} {k : Nat} (h : getText l = some (t, k)) : Wp.textK (l, false) = (t, (l.drop k, false)) := by simp [Wp.textK, h]
theorem intsK_none {l : List UInt8} {most : Nat} (h : getInts l most = none) : intsK most (l, false) = ([], (l, true)) := by simp [intsK, h]
theorem intsK_is {l : List UInt8} {most k : Nat} {r : List Int} (h : getInts l most = some (r, k)) : intsK most (l, false) = (r, (l.drop k, false)) := by simp [intsK, h]
end Cp
end Go.Proofs.Ytaoekfgeggopbaa

namespace Go.Proofs.Ytaoekfgeggopbaa
open Go.RowKit
set_option maxHeartbeats 8000000
set_option maxRecDepth 100000
set_option linter.unusedVariables false
set_option linter.unusedSimpArgs false

theorem results_tmp4 {fn : Func} {t u v x : Tmp} (h : fn.results = #[.tmp t, .tmp u, .tmp v, .tmp x]) (tmps : Array Value) (P : Program) (w : World) :
    (results fn tmps).run P w = .ok (.tuple #[tmps.getD t undef, tmps.getD u undef, tmps.getD v undef, tmps.getD x undef]) w := by
  simp [results, h]
/-- What a reading of the reference leaves: the bytes that are left. -/
def Left (w' : World) (B : Nat) (v : Value) (l' : List UInt8) : Prop := ∃ A n c, v = .slice A n c ∧ Reads w' B 1 A n (cb l') ∧ n ≤ c ∧ c ≤ 9223372036854775807 ∧ n ≤ 4096
def ListPost (most : Nat) (l : List UInt8) (B : Nat) (w : World) (e : Ending) (w' : World) : Prop := match Nm.getInts l most with
  | none => e = .returned (.tuple #[.slice none 0 0, .slice none 0 0, .bool false]) ∧ Below w.heap.size w w'
  | some (r, k) => ∃ A c A2 n2 c2, e = .returned (.tuple #[.slice A r.length c, .slice A2 n2 c2, .bool true]) ∧ w'.ownsRow w.heap.size 3 1 (.slice A r.length c) r.length (ci r) ∧ Reads w' B 1 A2 n2 (cb (l.drop k)) ∧ n2 ≤ c2 ∧ c2 ≤ 9223372036854775807 ∧ n2 ≤ 4096 ∧ Below w.heap.size w w'
theorem rlist12_any (A : Option Addr) (n c most : Nat) (l : List UInt8) (w : World) (B : Nat) (hB : B ≤ w.heap.size) (hr : Reads w B 1 A n (cb l)) (hnc : n ≤ c) (hc : c ≤ 9223372036854775807) (hn : n ≤ 4096) (hm : most ≤ 4096) :
    Calls Try.prog 85 #[.slice A n c, .int .i64 (most : Int)] w (ListPost most l B w) := by
  have HG := Lib.hid (rgetInts_any A n c l most w (hr.more hB) hnc (by omega) hm)
  have hl := hr.len_b
  have HR := Lib.hid hr
  clear hr
  unfold ListPost
  cases hg : Nm.getInts l most with
  | none =>
    rw [hg] at HG
    clear hg
    go_enter Try.func85, Try.ntmps85
    go_wp2_with fail
    refine HG.out.mono ?_
    rintro e w1 ⟨rfl, hb⟩
    have HB := Lib.hid hb
    clear hb
    go_wp2
    go_ret3
    exact ⟨rfl, HB.out⟩
  | some p =>
    obtain ⟨v, k⟩ := p
    rw [hg] at HG
    have hkl := (Nm.getInts_back hg).2.2.2.1
    have hkn : k ≤ n := by omega
    have hs := fun w => run_slice_from (P := Try.prog) Try.underlying46 A n c k hkn w u8_size
    clear hg hl
    go_enter Try.func85, Try.ntmps85
    go_wp2_with fail
    refine HG.out.mono ?_
    rintro e w1 ⟨A1, c1, rfl, ho, hb⟩
    have HB := Lib.hid hb
    have HO := Lib.hid ho
    have HR2 := Lib.hid ((HR.out.below (hb.mono hB)).rest (k := k) hkn hnc)
    rw [cb_drop] at HR2
    clear hb ho
    go_wp2_with fail
    go_quiet (fail)
    go_wp2
    go_ret3
    refine ⟨A1, c1, _, _, _, rfl, (show World.ownsRow _ _ _ _ _ _ _ from HO.out), HR2.out.drewN _, by omega, by omega, by omega, below_drewN HB.out _⟩

def TextsPost (l : List UInt8) (B : Nat) (w : World) (e : Ending) (w' : World) : Prop := match Nm.getText l with
  | none => e = .returned (.tuple #[.string ⟨#[]⟩, .string ⟨#[]⟩, .slice none 0 0, .bool false]) ∧ Below w.heap.size w w'
  | some (s, k) => match Nm.getText (l.drop k) with
    | none => e = .returned (.tuple #[.string ⟨#[]⟩, .string ⟨#[]⟩, .slice none 0 0, .bool false]) ∧ Below w.heap.size w w'
    | some (t, j) => ∃ A2 n2 c2, e = .returned (.tuple #[.string (S s), .string (S t), .slice A2 n2 c2, .bool true]) ∧ Reads w' B 1 A2 n2 (cb ((l.drop k).drop j)) ∧ n2 ≤ c2 ∧ c2 ≤ 9223372036854775807 ∧ n2 ≤ 4096 ∧ Below w.heap.size w w'
theorem rtexts12_any (A : Option Addr) (n c : Nat) (l : List UInt8) (w : World) (B : Nat) (hr : Reads w B 1 A n (cb l)) (hnc : n ≤ c) (hc : c ≤ 9223372036854775807) (hn : n ≤ 4096) :
    Calls Try.prog 86 #[.slice A n c] w (TextsPost l B w) := by
  have HG := Lib.hid (rgetText_any A n c B l w hr hnc (by omega))
  have hl := hr.len_b
  have HR := Lib.hid hr
  clear hr
  unfold TextsPost
  cases hg : Nm.getText l with
  | none =>
    rw [hg] at HG
    clear hg
    go_enter Try.func86, Try.ntmps86
    go_wp2_with fail
    refine HG.out.mono ?_
    rintro e w' ⟨rfl, rfl⟩
    simp only [getTextV]
    go_wp2
    (try simp only [Exit.inBlock, Exit.then])
    refine bodyPost_ret (results_tmp4 rfl _ _ _) rfl ?_
    exact ⟨rfl, Below.refl _ _⟩
  | some p =>
    obtain ⟨s, k⟩ := p
    rw [hg] at HG
    have hkl := (Nm.getText_back hg).2.2.1
    have hkn : k ≤ n := by omega
    have hs := fun w => run_slice_from (P := Try.prog) Try.underlying46 A n c k hkn w u8_size
    have HR2 := Lib.hid (HR.out.rest (k := k) hkn hnc)
    rw [cb_drop] at HR2
    have HG2 := Lib.hid (rgetText_any (cutA A c k) (n - k) (c - k) B (l.drop k) w HR2.out (by omega) (by omega))
    obtain ⟨U, hU⟩ : ∃ U, S s = U := ⟨_, rfl⟩
    rw [show getTextV (some (s, k)) = .tuple #[.string (S s), .int .i64 (k : Int), .int .i64 0] from rfl, hU] at HG
    clear hg
    simp only
    cases hg2 : Nm.getText (l.drop k) with
    | none =>
      rw [hg2] at HG2
      clear hg2
      go_enter Try.func86, Try.ntmps86
      go_wp2_with fail
      refine HG.out.mono ?_
      rintro e w' ⟨rfl, rfl⟩
      go_wp2_with fail
      refine HG2.out.mono ?_
      rintro e w' ⟨rfl, rfl⟩
      simp only [getTextV]
      go_wp2
      (try simp only [Exit.inBlock, Exit.then])
      refine bodyPost_ret (results_tmp4 rfl _ _ _) rfl ?_
      exact ⟨rfl, Below.refl _ _⟩
    | some q =>
      obtain ⟨t, j⟩ := q
      rw [hg2] at HG2
      have hjl := (Nm.getText_back hg2).2.2.1
      rw [List.length_drop] at hjl
      have hjn : k + j ≤ n := by omega
      have hs2 : ∀ w, (Instr.slice 46 (.slice A n c) (some (.int .i64 ((k : Int) + (j : Int)))) none none).run Try.prog w = .ok (.slice (cutA A c (k + j)) (n - (k + j)) (c - (k + j))) w := fun w => by
        rw [show ((k : Int) + (j : Int)) = ((k + j : Nat) : Int) by omega]
        exact run_slice_from (P := Try.prog) Try.underlying46 A n c (k + j) hjn w u8_size
      have HR3 := Lib.hid (HR.out.rest (k := k + j) hjn hnc)
      rw [cb_drop, ← List.drop_drop] at HR3
      obtain ⟨V, hV⟩ : ∃ V, S t = V := ⟨_, rfl⟩
      rw [show getTextV (some (t, j)) = .tuple #[.string (S t), .int .i64 (j : Int), .int .i64 0] from rfl, hV] at HG2
      simp only
      rw [hU, hV]
      clear hg2 hU hV
      go_enter Try.func86, Try.ntmps86
      go_wp2_with fail
      refine HG.out.mono ?_
      rintro e w' ⟨rfl, rfl⟩
      go_wp2_with fail
      refine HG2.out.mono ?_
      rintro e w' ⟨rfl, rfl⟩
      go_wp2_with fail
      go_quiet (fail)
      go_wp2
      (try simp only [Exit.inBlock, Exit.then])
      refine bodyPost_ret (results_tmp4 rfl _ _ _) rfl ?_
      exact ⟨_, _, _, rfl, HR3.out.drewN _, by omega, by omega, by omega, below_drewN (Below.refl _ _) _⟩
end Go.Proofs.Ytaoekfgeggopbaa

namespace Go.Proofs.Ytaoekfgeggopbaa
open Go.RowKit
set_option maxHeartbeats 8000000
set_option maxRecDepth 100000
set_option linter.unusedVariables false
set_option linter.unusedSimpArgs false

/-- What parse leaves. -/
def ParseP (l : List UInt8) (base B : Nat) (e : Ending) (w' : World) : Prop := ∃ (D : HC) (A : Option Addr) (n c : Nat) (is : Bool), e = .returned (.tuple #[.agg #[.int .u8 D.k, .int .i64 D.mi, .slice D.GA D.Gn D.Gc, .int .i64 D.mt, .string D.key, .string D.body, .int .i64 D.i, .int .i64 D.tm, .slice D.MA D.Mn D.Mc, .int .i64 D.tp, .int .i64 D.who, .int .i64 D.n], .slice A n c, .bool is]) ∧
  (is = true → ∃ l', Cp.rdC l = (D.cmd, (l', false)) ∧ l'.length = n ∧ OwnC w' base D) ∧ (is = false → Cp.readC l = none)

theorem own_get {w : World} {base n c : Nat} {A : Option Addr} {xs : List Int} (h : w.ownsRow base 3 1 (.slice A n c) n (ci xs)) (hn : 0 < n) :
    ∃ (g : Nat) (cs : Array Value), A = some ⟨g, 0, none⟩ ∧ Blk w g 3 cs ∧ ∀ (i : Nat) (x : Int), xs[i]? = some x → cs[i]? = some (Value.int .i64 x) := by
  obtain ⟨h1, h2⟩ := h
  rcases h2 with ⟨h2, h3⟩ | ⟨g, cap, cur, h2, h3, h4, h5, h6, h7, h8⟩
  · omega
  · injection h2 with h2
    refine ⟨g, cur, h2, h4, fun i x hx => ?_⟩
    have hi : i < xs.length := (List.getElem?_eq_some_iff.1 hx).1
    rw [ci_length] at h1
    have e := congrArg (fun l => l[i]?) h8
    simp only [ci_get, hx, Option.map_some] at e
    rw [List.getElem?_take, if_pos (by omega), Array.getElem?_toList] at e
    exact e
/-- The command's box, the result's box, what is left. -/
def PS (w0 : World) (B gc : Nat) (D : HC) (l' : List UInt8) (v : Value) (w : World) : Prop := Blk w gc 26 #[.int .u8 D.k, .int .i64 D.mi, .slice D.GA D.Gn D.Gc, .int .i64 D.mt, .string D.key, .string D.body, .int .i64 D.i, .int .i64 D.tm, .slice D.MA D.Mn D.Mc, .int .i64 D.tp, .int .i64 D.who, .int .i64 D.n] ∧ OwnC w w0.heap.size D ∧ Left w B v l' ∧ Below w0.heap.size w0 w ∧ w0.heap.size < gc ∧ B ≤ w0.heap.size ∧ Blk w w0.heap.size 26 #[.int .u8 (zeroHC 0).k, .int .i64 (zeroHC 0).mi, .slice (zeroHC 0).GA (zeroHC 0).Gn (zeroHC 0).Gc, .int .i64 (zeroHC 0).mt, .string (zeroHC 0).key, .string (zeroHC 0).body, .int .i64 (zeroHC 0).i, .int .i64 (zeroHC 0).tm, .slice (zeroHC 0).MA (zeroHC 0).Mn (zeroHC 0).Mc, .int .i64 (zeroHC 0).tp, .int .i64 (zeroHC 0).who, .int .i64 (zeroHC 0).n]
theorem Left.below {w w' : World} {B : Nat} {v : Value} {l' : List UInt8} (h : Left w B v l') (hb : Below B w w') : Left w' B v l' := by
  obtain ⟨A, n, c, h1, h2, h3⟩ := h
  exact ⟨A, n, c, h1, h2.below hb, h3⟩
section
variable {w0 w w' : World} {B gc : Nat} {D E : HC} {l' l2 : List UInt8} {v v2 : Value}
theorem PS.below (h : PS w0 B gc D l' v w) (hb : Below w.heap.size w w') : PS w0 B gc D l' v w' := by
  obtain ⟨h1, h2, h3, h4, h5, h6, h7⟩ := h
  exact ⟨h1.below hb h1.lt, h2.below hb, h3.below (hb.mono (by have := h4.size; omega)), h4.trans (hb.mono h4.size), h5, h6, h7.below hb h7.lt⟩
theorem PS.rest (h : PS w0 B gc D l' v w) (hl : Left w B v2 l2) : PS w0 B gc D l2 v2 w := by
  obtain ⟨h1, h2, h3, h4, h5, h6, h7⟩ := h
  exact ⟨h1, h2, hl, h4, h5, h6, h7⟩
theorem PS.set_ {i : Nat} {u : Value} (h : PS w0 B gc D l' v w) (he : (#[.int .u8 D.k, .int .i64 D.mi, .slice D.GA D.Gn D.Gc, .int .i64 D.mt, .string D.key, .string D.body, .int .i64 D.i, .int .i64 D.tm, .slice D.MA D.Mn D.Mc, .int .i64 D.tp, .int .i64 D.who, .int .i64 D.n]).setIfInBounds i u = #[.int .u8 E.k, .int .i64 E.mi, .slice E.GA E.Gn E.Gc, .int .i64 E.mt, .string E.key, .string E.body, .int .i64 E.i, .int .i64 E.tm, .slice E.MA E.Mn E.Mc, .int .i64 E.tp, .int .i64 E.who, .int .i64 E.n]) (ho : OwnC w w0.heap.size D → OwnC w w0.heap.size E) : PS w0 B gc E l' v (w.setCell ⟨gc, i, none⟩ u) := by
  obtain ⟨h1, h2, ⟨A, n, c, q1, q2, q3⟩, h4, h5, h6, h7⟩ := h
  refine ⟨?_, (ho h2).set_ h1 (by decide) i u, ⟨A, n, c, q1, q2.setCell (by show B ≤ gc; omega) u, q3⟩, h4.setCell (by show w0.heap.size ≤ gc; omega) u, h5, h6, h7.far (by show w0.heap.size ≠ gc; omega) u⟩
  rw [← he]
  exact h1.set_ i u
end
theorem textK_bad {p : Rp.St} (h : p.2 = true) : (Wp.textK p).2.2 = true := by
  obtain ⟨l, b⟩ := p
  obtain rfl : b = true := h
  exact Cp.textK_t l
theorem inR_nat {m : Nat} (h : m ≤ 1099511627776) : Nm.inR (m : Int) = true := decide_eq_true ⟨by omega, by omega⟩
theorem numsN_in {k : Nat} {l r : List UInt8} {xs : List Int} (h : Wp.numsN k l = some (xs, r)) : xs.length = k ∧ ∀ x ∈ xs, Nm.inR x = true := by
  obtain ⟨h1, -, h3⟩ := Wp.numsN_back _ _ _ _ h
  exact ⟨h1, fun x hx => decide_eq_true (h3 x hx)⟩
theorem len1 {xs : List Int} (h : xs.length = 1) : ∃ a, xs = [a] := by match xs, h with | [a], _ => exact ⟨a, rfl⟩
theorem len2 {xs : List Int} (h : xs.length = 2) : ∃ a b, xs = [a, b] := by match xs, h with | [a, b], _ => exact ⟨a, b, rfl⟩
theorem len3 {xs : List Int} (h : xs.length = 3) : ∃ a b c, xs = [a, b, c] := by match xs, h with | [a, b, c], _ => exact ⟨a, b, c, rfl⟩
theorem len4 {xs : List Int} (h : xs.length = 4) : ∃ a b c d, xs = [a, b, c, d] := by match xs, h with | [a, b, c, d], _ => exact ⟨a, b, c, d, rfl⟩

theorem rparse_any (A : Option Addr) (n c : Nat) (l : List UInt8) (w : World) (B : Nat) (hB : B ≤ w.heap.size) (hr : Reads w B 1 A n (cb l)) (hnc : n ≤ c) (hc : c ≤ 9223372036854775807) (hn : n ≤ 4096) :
    Calls Try.prog 56 #[.slice A n c] w fun e w' => ParseP l w.heap.size B e w' ∧ Below w.heap.size w w' := by
  obtain ⟨WZ, hWZ⟩ : ∃ WZ, w.alloc (.cells #[.int .u8 (zeroHC 0).k, .int .i64 (zeroHC 0).mi, .slice (zeroHC 0).GA (zeroHC 0).Gn (zeroHC 0).Gc, .int .i64 (zeroHC 0).mt, .string (zeroHC 0).key, .string (zeroHC 0).body, .int .i64 (zeroHC 0).i, .int .i64 (zeroHC 0).tm, .slice (zeroHC 0).MA (zeroHC 0).Mn (zeroHC 0).Mc, .int .i64 (zeroHC 0).tp, .int .i64 (zeroHC 0).who, .int .i64 (zeroHC 0).n] 26) = WZ := ⟨_, rfl⟩
  have KZ : Hid (Blk WZ w.heap.size 26 #[.int .u8 (zeroHC 0).k, .int .i64 (zeroHC 0).mi, .slice (zeroHC 0).GA (zeroHC 0).Gn (zeroHC 0).Gc, .int .i64 (zeroHC 0).mt, .string (zeroHC 0).key, .string (zeroHC 0).body, .int .i64 (zeroHC 0).i, .int .i64 (zeroHC 0).tm, .slice (zeroHC 0).MA (zeroHC 0).Mn (zeroHC 0).Mc, .int .i64 (zeroHC 0).tp, .int .i64 (zeroHC 0).who, .int .i64 (zeroHC 0).n]) := by rw [Hid, ← hWZ]; exact Blk.new w _ _
  have BZ : Hid (Below w.heap.size w WZ) := by rw [Hid, ← hWZ]; exact (Below.refl _ w).alloc (Nat.le_refl _) _
  have NZ : Hid (WZ.heap.size = w.heap.size + 1) := by rw [Hid, ← hWZ]; simp
  have HWZ : Hid (w.alloc (.cells #[.int .u8 0, .int .i64 0, .slice none 0 0, .int .i64 0, .string ⟨#[]⟩, .string ⟨#[]⟩, .int .i64 0, .int .i64 0, .slice none 0 0, .int .i64 0, .int .i64 0, .int .i64 0] 26) = WZ) := hWZ
  have HR := Lib.hid (hr.below (BZ.out.mono hB))
  obtain ⟨F, hF⟩ : ∃ F, Wp.numsN 1 l = F := ⟨_, rfl⟩
  have HF := Lib.hid hF
  have HC := Lib.hid (rnumbers12_any A n c 1 l WZ F hF B (by have := NZ.out; omega) HR.out hnc hc (by omega) (by omega))
  have HN1 := Lib.hid (Cp.nums1 l)
  clear hWZ hr hF
  go_enter Try.func56, Try.ntmps56
  go_wp2_with fail
  rw [HWZ.out]
  refine HC.out.mono ?_
  rintro e w1 hp
  rcases HN1.out with ⟨h1, h2⟩ | ⟨m, l0, hm, h1, h2⟩
  · obtain rfl : F = none := HF.out.symm.trans h1
    obtain ⟨rfl, hb⟩ := hp
    have B1 := Lib.hid (BZ.out.trans (hb.mono BZ.out.size))
    have K1 := Lib.hid (KZ.out.below hb KZ.out.lt)
    have POST := Lib.hid (Cp.readC_b0 h2)
    clear hb h1 h2
    have r0 : w1.cell? ⟨w.heap.size, 0, none⟩ = some (.int .u8 0) := K1.out.cell 0
    have r1 : w1.cell? ⟨w.heap.size, 1, none⟩ = some (.int .i64 0) := K1.out.cell 1
    have r2 : w1.cell? ⟨w.heap.size, 2, none⟩ = some (.slice none 0 0) := K1.out.cell 2
    have r3 : w1.cell? ⟨w.heap.size, 3, none⟩ = some (.int .i64 0) := K1.out.cell 3
    have r4 : w1.cell? ⟨w.heap.size, 4, none⟩ = some (.string ⟨#[]⟩) := K1.out.cell 4
    have r5 : w1.cell? ⟨w.heap.size, 5, none⟩ = some (.string ⟨#[]⟩) := K1.out.cell 5
    have r6 : w1.cell? ⟨w.heap.size, 6, none⟩ = some (.int .i64 0) := K1.out.cell 6
    have r7 : w1.cell? ⟨w.heap.size, 7, none⟩ = some (.int .i64 0) := K1.out.cell 7
    have r8 : w1.cell? ⟨w.heap.size, 8, none⟩ = some (.slice none 0 0) := K1.out.cell 8
    have r9 : w1.cell? ⟨w.heap.size, 9, none⟩ = some (.int .i64 0) := K1.out.cell 9
    have r10 : w1.cell? ⟨w.heap.size, 10, none⟩ = some (.int .i64 0) := K1.out.cell 10
    have r11 : w1.cell? ⟨w.heap.size, 11, none⟩ = some (.int .i64 0) := K1.out.cell 11
    have rf := K1.out.frozen
    go_wp2_with fail
    refine bodyPost_ret (v := .tuple #[.agg #[.int .u8 0, .int .i64 0, .slice none 0 0, .int .i64 0, .string ⟨#[]⟩, .string ⟨#[]⟩, .int .i64 0, .int .i64 0, .slice none 0 0, .int .i64 0, .int .i64 0, .int .i64 0], .slice none 0 0, .bool false]) (by simp [results, Try.results56, go_sem, r0, r1, r2, r3, r4, r5, r6, r7, r8, r9, r10, r11]) rfl ⟨⟨zeroHC 0, none, 0, 0, false, rfl, fun h => (by cases h), fun _ => POST.out⟩, below_set12 B1.out (Nat.le_refl _) _ _ _ _ _ _ _ _ _ _ _ _⟩
  obtain rfl : F = some ([(m : Int)], l0) := HF.out.symm.trans h1
  obtain ⟨A1, c1, A2, n2, c2, rfl, ho, hrl, hc1, hc2, hc3, hb⟩ := hp
  have H2 := Lib.hid h2
  have B1 := Lib.hid (BZ.out.trans (hb.mono BZ.out.size))
  have K1 := Lib.hid (KZ.out.below hb KZ.out.lt)
  have hll := hrl.len_b
  have hn2 : n2 ≤ 4096 := by
    have e := (Wp.numsN_back _ _ _ _ h1).2.1
    have e2 := congrArg List.length e
    rw [List.length_append] at e2
    have e3 := HR.out.len_b
    omega
  have LF : Hid (Left w1 B (.slice A2 n2 c2) l0) := ⟨A2, n2, c2, rfl, hrl, hc1, hc2, hn2⟩
  obtain ⟨g1, cs1, rfl, hbk, hcs⟩ := own_get ho (by omega)
  have x0 : w1.cell? ⟨g1, 0, none⟩ = some (.int .i64 (m : Int)) := (hbk.cell 0).trans (hcs 0 _ rfl)
  clear h1 h2 ho hrl hb hll hbk hcs HC HR HF HN1 BZ KZ HWZ
  by_cases hbig : (6 : Int) < (m : Int)
  · have POST : Hid (Cp.readC l = none) := Cp.readC_big (by rw [H2.out]; simp only; omega)
    have r0 : w1.cell? ⟨w.heap.size, 0, none⟩ = some (.int .u8 0) := K1.out.cell 0
    have r1 : w1.cell? ⟨w.heap.size, 1, none⟩ = some (.int .i64 0) := K1.out.cell 1
    have r2 : w1.cell? ⟨w.heap.size, 2, none⟩ = some (.slice none 0 0) := K1.out.cell 2
    have r3 : w1.cell? ⟨w.heap.size, 3, none⟩ = some (.int .i64 0) := K1.out.cell 3
    have r4 : w1.cell? ⟨w.heap.size, 4, none⟩ = some (.string ⟨#[]⟩) := K1.out.cell 4
    have r5 : w1.cell? ⟨w.heap.size, 5, none⟩ = some (.string ⟨#[]⟩) := K1.out.cell 5
    have r6 : w1.cell? ⟨w.heap.size, 6, none⟩ = some (.int .i64 0) := K1.out.cell 6
    have r7 : w1.cell? ⟨w.heap.size, 7, none⟩ = some (.int .i64 0) := K1.out.cell 7
    have r8 : w1.cell? ⟨w.heap.size, 8, none⟩ = some (.slice none 0 0) := K1.out.cell 8
    have r9 : w1.cell? ⟨w.heap.size, 9, none⟩ = some (.int .i64 0) := K1.out.cell 9
    have r10 : w1.cell? ⟨w.heap.size, 10, none⟩ = some (.int .i64 0) := K1.out.cell 10
    have r11 : w1.cell? ⟨w.heap.size, 11, none⟩ = some (.int .i64 0) := K1.out.cell 11
    have rf := K1.out.frozen
    go_wp2_with fail
    refine bodyPost_ret (v := .tuple #[.agg #[.int .u8 0, .int .i64 0, .slice none 0 0, .int .i64 0, .string ⟨#[]⟩, .string ⟨#[]⟩, .int .i64 0, .int .i64 0, .slice none 0 0, .int .i64 0, .int .i64 0, .int .i64 0], .slice none 0 0, .bool false]) (by simp [results, Try.results56, go_sem, r0, r1, r2, r3, r4, r5, r6, r7, r8, r9, r10, r11]) rfl ⟨⟨zeroHC 0, none, 0, 0, false, rfl, fun h => (by cases h), fun _ => POST.out⟩, below_set12 B1.out (Nat.le_refl _) _ _ _ _ _ _ _ _ _ _ _ _⟩
  have RC := Lib.hid (Cp.rdC_is H2.out (by omega))
  obtain ⟨κ, hκ⟩ : ∃ κ : Int, (m : Int) = κ := ⟨_, rfl⟩
  rw [hκ] at RC x0 hbig
  have hκ0 : 0 ≤ κ := by omega
  have hκ6 : κ ≤ 6 := by omega
  clear hκ H2 hm
  have S0 : Hid (PS w B w1.heap.size (zeroHC κ) l0 (.slice A2 n2 c2) (w1.alloc (.cells #[.int .u8 (zeroHC κ).k, .int .i64 (zeroHC κ).mi, .slice (zeroHC κ).GA (zeroHC κ).Gn (zeroHC κ).Gc, .int .i64 (zeroHC κ).mt, .string (zeroHC κ).key, .string (zeroHC κ).body, .int .i64 (zeroHC κ).i, .int .i64 (zeroHC κ).tm, .slice (zeroHC κ).MA (zeroHC κ).Mn (zeroHC κ).Mc, .int .i64 (zeroHC κ).tp, .int .i64 (zeroHC κ).who, .int .i64 (zeroHC κ).n] 26))) := by
    refine ⟨Blk.new w1 _ _, zeroHC_own _ _ (by omega), LF.out.below ((Below.refl _ w1).alloc (by have := B1.out.size; omega) _), B1.out.alloc B1.out.size _, by have := K1.out.lt; omega, hB, K1.out.alloc _⟩
  have hlt1 := K1.out.lt
  obtain ⟨gc, hgc⟩ : ∃ gc, w1.heap.size = gc := ⟨_, rfl⟩
  have HGC := Lib.hid hgc
  clear K1 LF B1
  go_upto_region 6 with fail
  generalize hX0 : w1.alloc (.cells #[.int .u8 κ, .int .i64 0, .slice none 0 0, .int .i64 0, .string ⟨#[]⟩, .string ⟨#[]⟩, .int .i64 0, .int .i64 0, .slice none 0 0, .int .i64 0, .int .i64 0, .int .i64 0] 26) = X0
  replace S0 : Hid (PS w B gc (zeroHC κ) l0 (.slice A2 n2 c2) X0) := by rw [Hid, ← hX0, ← hgc]; exact S0.out
  have hzz : w.heap.size < gc := by omega
  clear hX0 hgc HGC x0 hlt1 hbig
  rcases (by omega : κ = 0 ∨ κ = 1 ∨ κ = 2 ∨ κ = 3 ∨ κ = 4 ∨ κ = 5 ∨ κ = 6) with h | h | h | h | h | h | h
  · have HK := Lib.hid h
    clear h
    have q1 : (κ == 1) = false := beq_eq_false_iff_ne.2 (by have := HK.out; omega)
    have q2 : (κ == 2) = false := beq_eq_false_iff_ne.2 (by have := HK.out; omega)
    have q3 : (κ == 3) = false := beq_eq_false_iff_ne.2 (by have := HK.out; omega)
    have q4 : (κ == 4) = false := beq_eq_false_iff_ne.2 (by have := HK.out; omega)
    have q5 : (κ == 5) = false := beq_eq_false_iff_ne.2 (by have := HK.out; omega)
    have q6 : (κ == 6) = false := beq_eq_false_iff_ne.2 (by have := HK.out; omega)
    have d0 : X0.cell? ⟨gc, 0, none⟩ = some (.int .u8 κ) := S0.out.1.cell 0
    have E : Hid (Cp.rdC l = ((zeroHC κ).cmd, (l0, false))) := by rw [Hid, RC.out, HK.out, Cp.fields0]; rfl
    obtain ⟨_, _, _, he, hrl, _, _, _⟩ := S0.out.2.2.1
    injection he with he1 he2 he3
    have hll : l0.length = n2 := by rw [hrl.len_b, he2]
    have HLL := Lib.hid hll
    clear he1 he2 he3 hrl hll
    go_upto_region 41 with fail
    clear d0
    obtain ⟨z1, z2, z3, z4, z5, z6, z7⟩ := S0.out
    have Z2 := Lib.hid z2
    have Z4 := Lib.hid z4
    have Z7 := Lib.hid z7
    have d0 : X0.cell? ⟨gc, 0, none⟩ = some (.int .u8 κ) := z1.cell 0
    have d1 : X0.cell? ⟨gc, 1, none⟩ = some (.int .i64 0) := z1.cell 1
    have d2 : X0.cell? ⟨gc, 2, none⟩ = some (.slice none 0 0) := z1.cell 2
    have d3 : X0.cell? ⟨gc, 3, none⟩ = some (.int .i64 0) := z1.cell 3
    have d4 : X0.cell? ⟨gc, 4, none⟩ = some (.string ⟨#[]⟩) := z1.cell 4
    have d5 : X0.cell? ⟨gc, 5, none⟩ = some (.string ⟨#[]⟩) := z1.cell 5
    have d6 : X0.cell? ⟨gc, 6, none⟩ = some (.int .i64 0) := z1.cell 6
    have d7 : X0.cell? ⟨gc, 7, none⟩ = some (.int .i64 0) := z1.cell 7
    have d8 : X0.cell? ⟨gc, 8, none⟩ = some (.slice none 0 0) := z1.cell 8
    have d9 : X0.cell? ⟨gc, 9, none⟩ = some (.int .i64 0) := z1.cell 9
    have d10 : X0.cell? ⟨gc, 10, none⟩ = some (.int .i64 0) := z1.cell 10
    have d11 : X0.cell? ⟨gc, 11, none⟩ = some (.int .i64 0) := z1.cell 11
    have r0 : X0.cell? ⟨w.heap.size, 0, none⟩ = some (.int .u8 0) := z7.cell 0
    have r1 : X0.cell? ⟨w.heap.size, 1, none⟩ = some (.int .i64 0) := z7.cell 1
    have r2 : X0.cell? ⟨w.heap.size, 2, none⟩ = some (.slice none 0 0) := z7.cell 2
    have r3 : X0.cell? ⟨w.heap.size, 3, none⟩ = some (.int .i64 0) := z7.cell 3
    have r4 : X0.cell? ⟨w.heap.size, 4, none⟩ = some (.string ⟨#[]⟩) := z7.cell 4
    have r5 : X0.cell? ⟨w.heap.size, 5, none⟩ = some (.string ⟨#[]⟩) := z7.cell 5
    have r6 : X0.cell? ⟨w.heap.size, 6, none⟩ = some (.int .i64 0) := z7.cell 6
    have r7 : X0.cell? ⟨w.heap.size, 7, none⟩ = some (.int .i64 0) := z7.cell 7
    have r8 : X0.cell? ⟨w.heap.size, 8, none⟩ = some (.slice none 0 0) := z7.cell 8
    have r9 : X0.cell? ⟨w.heap.size, 9, none⟩ = some (.int .i64 0) := z7.cell 9
    have r10 : X0.cell? ⟨w.heap.size, 10, none⟩ = some (.int .i64 0) := z7.cell 10
    have r11 : X0.cell? ⟨w.heap.size, 11, none⟩ = some (.int .i64 0) := z7.cell 11
    have rf := z7.frozen
    clear z1 z2 z3 z4 z7
    go_wp2_with fail
    refine bodyPost_ret (v := .tuple #[.agg #[.int .u8 κ, .int .i64 0, .slice none 0 0, .int .i64 0, .string ⟨#[]⟩, .string ⟨#[]⟩, .int .i64 0, .int .i64 0, .slice none 0 0, .int .i64 0, .int .i64 0, .int .i64 0], .slice A2 n2 c2, .bool true]) (by simp [results, Try.results56, go_sem, r0, r1, r2, r3, r4, r5, r6, r7, r8, r9, r10, r11]) rfl ⟨⟨(⟨κ, 0, none, 0, 0, [], 0, ⟨#[]⟩, ⟨#[]⟩, 0, 0, none, 0, 0, [], 0, 0, 0⟩ : HC), A2, n2, c2, true, rfl, fun _ => ⟨l0, E.out, HLL.out, own12 Z2.out Z7.out _ _ _ _ _ _ _ _ _ _ _ _⟩, fun h => (by cases h)⟩, below_set12 Z4.out (Nat.le_refl _) _ _ _ _ _ _ _ _ _ _ _ _⟩
  · have HK := Lib.hid h
    clear h
    have q1 : (κ == 1) = true := beq_iff_eq.2 (by have := HK.out; omega)
    have q2 : (κ == 2) = false := beq_eq_false_iff_ne.2 (by have := HK.out; omega)
    have q3 : (κ == 3) = false := beq_eq_false_iff_ne.2 (by have := HK.out; omega)
    have q4 : (κ == 4) = false := beq_eq_false_iff_ne.2 (by have := HK.out; omega)
    have q5 : (κ == 5) = false := beq_eq_false_iff_ne.2 (by have := HK.out; omega)
    have q6 : (κ == 6) = false := beq_eq_false_iff_ne.2 (by have := HK.out; omega)
    have d0 : X0.cell? ⟨gc, 0, none⟩ = some (.int .u8 κ) := S0.out.1.cell 0
    obtain ⟨_, _, _, he, hrl, hl1, hl2, hl3⟩ := S0.out.2.2.1
    injection he with he1 he2 he3
    subst he1 he2 he3
    have HRL := Lib.hid hrl
    have hB0 : B ≤ X0.heap.size := by have := S0.out.2.2.2.1.size; omega
    clear hrl
    have hBx1 : B ≤ X0.heap.size := by have := S0.out.2.2.2.1.size; omega
    obtain ⟨F1, hF1⟩ : ∃ F, Wp.numsN 1 l0 = F := ⟨_, rfl⟩
    have HC := Lib.hid (rnumbers12_any A2 n2 c2 1 l0 X0 F1 hF1 B hBx1 HRL.out hl1 hl2 (by omega) (by omega))
    have HF1 := Lib.hid hF1
    have HN1 := Lib.hid (Cp.nums1 l0)
    clear hF1
    go_wp2_with fail
    refine HC.out.mono ?_
    rintro e u1 hp
    clear HC
    rcases HN1.out with ⟨h1, h2⟩ | ⟨m1, lp, hm1, h1, h2⟩
    · obtain rfl : F1 = none := HF1.out.symm.trans h1
      obtain ⟨rfl, hb⟩ := hp
      have S9 := Lib.hid (S0.out.below hb)
      have POST : Hid (Cp.readC l = none) := Cp.readC_bad (by rw [RC.out]; rw [HK.out, Cp.fields1]; simp only [Cp.rdF]; rw [Cp.rd1_num (f := .mi) rfl]; exact Cp.rdF_true [.gs, .mt, .key, .body] _ _ h2)
      clear hb h1 h2
      obtain ⟨z1, z2, z3, z4, z5, z6, z7⟩ := S9.out
      have Z2 := Lib.hid z2
      have Z4 := Lib.hid z4
      have Z7 := Lib.hid z7
      have d0 : u1.cell? ⟨gc, 0, none⟩ = some (.int .u8 κ) := z1.cell 0
      have d1 : u1.cell? ⟨gc, 1, none⟩ = some (.int .i64 0) := z1.cell 1
      have d2 : u1.cell? ⟨gc, 2, none⟩ = some (.slice none 0 0) := z1.cell 2
      have d3 : u1.cell? ⟨gc, 3, none⟩ = some (.int .i64 0) := z1.cell 3
      have d4 : u1.cell? ⟨gc, 4, none⟩ = some (.string ⟨#[]⟩) := z1.cell 4
      have d5 : u1.cell? ⟨gc, 5, none⟩ = some (.string ⟨#[]⟩) := z1.cell 5
      have d6 : u1.cell? ⟨gc, 6, none⟩ = some (.int .i64 0) := z1.cell 6
      have d7 : u1.cell? ⟨gc, 7, none⟩ = some (.int .i64 0) := z1.cell 7
      have d8 : u1.cell? ⟨gc, 8, none⟩ = some (.slice none 0 0) := z1.cell 8
      have d9 : u1.cell? ⟨gc, 9, none⟩ = some (.int .i64 0) := z1.cell 9
      have d10 : u1.cell? ⟨gc, 10, none⟩ = some (.int .i64 0) := z1.cell 10
      have d11 : u1.cell? ⟨gc, 11, none⟩ = some (.int .i64 0) := z1.cell 11
      have r0 : u1.cell? ⟨w.heap.size, 0, none⟩ = some (.int .u8 0) := z7.cell 0
      have r1 : u1.cell? ⟨w.heap.size, 1, none⟩ = some (.int .i64 0) := z7.cell 1
      have r2 : u1.cell? ⟨w.heap.size, 2, none⟩ = some (.slice none 0 0) := z7.cell 2
      have r3 : u1.cell? ⟨w.heap.size, 3, none⟩ = some (.int .i64 0) := z7.cell 3
      have r4 : u1.cell? ⟨w.heap.size, 4, none⟩ = some (.string ⟨#[]⟩) := z7.cell 4
      have r5 : u1.cell? ⟨w.heap.size, 5, none⟩ = some (.string ⟨#[]⟩) := z7.cell 5
      have r6 : u1.cell? ⟨w.heap.size, 6, none⟩ = some (.int .i64 0) := z7.cell 6
      have r7 : u1.cell? ⟨w.heap.size, 7, none⟩ = some (.int .i64 0) := z7.cell 7
      have r8 : u1.cell? ⟨w.heap.size, 8, none⟩ = some (.slice none 0 0) := z7.cell 8
      have r9 : u1.cell? ⟨w.heap.size, 9, none⟩ = some (.int .i64 0) := z7.cell 9
      have r10 : u1.cell? ⟨w.heap.size, 10, none⟩ = some (.int .i64 0) := z7.cell 10
      have r11 : u1.cell? ⟨w.heap.size, 11, none⟩ = some (.int .i64 0) := z7.cell 11
      have rf := z7.frozen
      clear z1 z2 z3 z4 z7
      go_wp2_with fail
      refine bodyPost_ret (v := .tuple #[.agg #[.int .u8 κ, .int .i64 0, .slice none 0 0, .int .i64 0, .string ⟨#[]⟩, .string ⟨#[]⟩, .int .i64 0, .int .i64 0, .slice none 0 0, .int .i64 0, .int .i64 0, .int .i64 0], .slice none 0 0, .bool false]) (by simp [results, Try.results56, go_sem, r0, r1, r2, r3, r4, r5, r6, r7, r8, r9, r10, r11]) rfl ⟨⟨(⟨κ, 0, none, 0, 0, [], 0, ⟨#[]⟩, ⟨#[]⟩, 0, 0, none, 0, 0, [], 0, 0, 0⟩ : HC), none, 0, 0, false, rfl, fun h => (by cases h), fun _ => POST.out⟩, below_set12 Z4.out (Nat.le_refl _) _ _ _ _ _ _ _ _ _ _ _ _⟩
    obtain rfl : F1 = some ([(m1 : Int)], lp) := HF1.out.symm.trans h1
    obtain ⟨Ap, cpx, Bp, np, cp, rfl, ho, hrl, hc1, hc2, hc3, hb⟩ := hp
    have Hp := Lib.hid h2
    have hnp : np ≤ 4096 := by
      have e := (Wp.numsN_back _ _ _ _ h1).2.1
      have e2 := congrArg List.length e
      rw [List.length_append] at e2
      have e3 := HRL.out.len_b
      have e4 := hrl.len_b
      omega
    have Spa := Lib.hid (S0.out.below hb)
    replace HRL := Lib.hid hrl
    obtain ⟨gp, csp, rfl, hbk, hcs⟩ := own_get ho (by omega)
    have y0 : u1.cell? ⟨gp, 0, none⟩ = some (.int .i64 (m1 : Int)) := (hbk.cell 0).trans (hcs 0 _ rfl)
    have e0 := Spa.out.1.cell 1
    have f0 := Spa.out.1.frozen 1
    clear h1 h2 ho hrl hb hbk hcs HF1 HN1 hBx1 hl1 hl2 hl3 S0
    have hl1 := hc1
    have hl2 := hc2
    have hl3 := hnp
    clear hc1 hc2 hc3
    go_upto_region 12 with fail
    have Sp : Hid (PS w B gc (⟨κ, (m1 : Int), none, 0, 0, [], 0, ⟨#[]⟩, ⟨#[]⟩, 0, 0, none, 0, 0, [], 0, 0, 0⟩ : HC) l0 (.slice A2 n2 c2) (u1.setCell ⟨gc, 1, none⟩ (.int .i64 (m1 : Int)))) := PS.set_ Spa.out rfl (fun ho => ⟨ho.og, ho.om, ho.kk, ho.bk, ho.bb, ho.ig, ho.im, inR_nat hm1, ho.a2, ho.a3, ho.a4, ho.a5, ho.a6, ho.a7⟩)
    replace HRL := Lib.hid (HRL.out.setCell (p := ⟨gc, 1, none⟩) (by show B ≤ gc; omega) (.int .i64 (m1 : Int)))
    clear y0 e0 f0 Spa
    generalize u1.setCell ⟨gc, 1, none⟩ (.int .i64 (m1 : Int)) = Vp at *
    have hBl : B ≤ Vp.heap.size := by have := Sp.out.2.2.2.1.size; omega
    have HC := Lib.hid (rlist12_any Bp np cp 4 lp Vp B hBl HRL.out hl1 hl2 hl3 (by omega))
    have e0 := Sp.out.1.cell 2
    have f0 := Sp.out.1.frozen 2
    go_wp2_with fail
    refine HC.out.mono ?_
    rintro e wl hp
    clear HC e0 f0
    unfold ListPost at hp
    cases hg : Nm.getInts lp 4 with
    | none =>
      rw [hg] at hp
      obtain ⟨rfl, hb⟩ := hp
      have S1 := Lib.hid (Sp.out.below hb)
      have POST : Hid (Cp.readC l = none) := Cp.readC_bad (by rw [RC.out]; rw [HK.out, Cp.fields1]; simp only [Cp.rdF]; rw [Cp.rd1_num (f := .mi) rfl, Hp.out]; exact Cp.rdF_true [.mt, .key, .body] _ _ (by simp only [Cp.rd1, Cp.intsK_none hg]))
      clear hb hg
      have e0 := S1.out.1.cell 2
      have f0 := S1.out.1.frozen 2
      go_upto_region 14 with fail
      have S2 : Hid (PS w B gc (⟨κ, (m1 : Int), none, 0, 0, [], 0, ⟨#[]⟩, ⟨#[]⟩, 0, 0, none, 0, 0, [], 0, 0, 0⟩ : HC) l0 (.slice A2 n2 c2) (wl.setCell ⟨gc, 2, none⟩ (.slice none 0 0))) := PS.set_ S1.out rfl (fun ho => ho)
      clear e0 f0 S1
      generalize wl.setCell ⟨gc, 2, none⟩ (.slice none 0 0) = Y1 at *
      obtain ⟨z1, z2, z3, z4, z5, z6, z7⟩ := S2.out
      have Z2 := Lib.hid z2
      have Z4 := Lib.hid z4
      have Z7 := Lib.hid z7
      have d0 : Y1.cell? ⟨gc, 0, none⟩ = some (.int .u8 κ) := z1.cell 0
      have d1 : Y1.cell? ⟨gc, 1, none⟩ = some (.int .i64 (m1 : Int)) := z1.cell 1
      have d2 : Y1.cell? ⟨gc, 2, none⟩ = some (.slice none 0 0) := z1.cell 2
      have d3 : Y1.cell? ⟨gc, 3, none⟩ = some (.int .i64 0) := z1.cell 3
      have d4 : Y1.cell? ⟨gc, 4, none⟩ = some (.string ⟨#[]⟩) := z1.cell 4
      have d5 : Y1.cell? ⟨gc, 5, none⟩ = some (.string ⟨#[]⟩) := z1.cell 5
      have d6 : Y1.cell? ⟨gc, 6, none⟩ = some (.int .i64 0) := z1.cell 6
      have d7 : Y1.cell? ⟨gc, 7, none⟩ = some (.int .i64 0) := z1.cell 7
      have d8 : Y1.cell? ⟨gc, 8, none⟩ = some (.slice none 0 0) := z1.cell 8
      have d9 : Y1.cell? ⟨gc, 9, none⟩ = some (.int .i64 0) := z1.cell 9
      have d10 : Y1.cell? ⟨gc, 10, none⟩ = some (.int .i64 0) := z1.cell 10
      have d11 : Y1.cell? ⟨gc, 11, none⟩ = some (.int .i64 0) := z1.cell 11
      have r0 : Y1.cell? ⟨w.heap.size, 0, none⟩ = some (.int .u8 0) := z7.cell 0
      have r1 : Y1.cell? ⟨w.heap.size, 1, none⟩ = some (.int .i64 0) := z7.cell 1
      have r2 : Y1.cell? ⟨w.heap.size, 2, none⟩ = some (.slice none 0 0) := z7.cell 2
      have r3 : Y1.cell? ⟨w.heap.size, 3, none⟩ = some (.int .i64 0) := z7.cell 3
      have r4 : Y1.cell? ⟨w.heap.size, 4, none⟩ = some (.string ⟨#[]⟩) := z7.cell 4
      have r5 : Y1.cell? ⟨w.heap.size, 5, none⟩ = some (.string ⟨#[]⟩) := z7.cell 5
      have r6 : Y1.cell? ⟨w.heap.size, 6, none⟩ = some (.int .i64 0) := z7.cell 6
      have r7 : Y1.cell? ⟨w.heap.size, 7, none⟩ = some (.int .i64 0) := z7.cell 7
      have r8 : Y1.cell? ⟨w.heap.size, 8, none⟩ = some (.slice none 0 0) := z7.cell 8
      have r9 : Y1.cell? ⟨w.heap.size, 9, none⟩ = some (.int .i64 0) := z7.cell 9
      have r10 : Y1.cell? ⟨w.heap.size, 10, none⟩ = some (.int .i64 0) := z7.cell 10
      have r11 : Y1.cell? ⟨w.heap.size, 11, none⟩ = some (.int .i64 0) := z7.cell 11
      have rf := z7.frozen
      clear z1 z2 z3 z4 z7
      go_wp2_with fail
      refine bodyPost_ret (v := .tuple #[.agg #[.int .u8 κ, .int .i64 (m1 : Int), .slice none 0 0, .int .i64 0, .string ⟨#[]⟩, .string ⟨#[]⟩, .int .i64 0, .int .i64 0, .slice none 0 0, .int .i64 0, .int .i64 0, .int .i64 0], .slice none 0 0, .bool false]) (by simp [results, Try.results56, go_sem, r0, r1, r2, r3, r4, r5, r6, r7, r8, r9, r10, r11]) rfl ⟨⟨(⟨κ, (m1 : Int), none, 0, 0, [], 0, ⟨#[]⟩, ⟨#[]⟩, 0, 0, none, 0, 0, [], 0, 0, 0⟩ : HC), none, 0, 0, false, rfl, fun h => (by cases h), fun _ => POST.out⟩, below_set12 Z4.out (Nat.le_refl _) _ _ _ _ _ _ _ _ _ _ _ _⟩
    | some p =>
      obtain ⟨r, k⟩ := p
      rw [hg] at hp
      obtain ⟨A3, c3, A4, n4, c4, rfl, ho, hrl, hd1, hd2, hd3, hb⟩ := hp
      have S1 := Lib.hid (Sp.out.below hb)
      have O1 : Hid (wl.ownsRow w.heap.size 3 1 (.slice A3 r.length c3) r.length (ci r)) := own_mono ho Sp.out.2.2.2.1.size
      have HI := Lib.hid (Nm.getInts_back hg).2.1
      have HG := Lib.hid (Cp.intsK_is hg)
      replace HRL := Lib.hid hrl
      clear hb hg ho hrl hl1 hl2 hl3
      have hl1 := hd1
      have hl2 := hd2
      have hl3 := hd3
      clear hd1 hd2 hd3
      have e0 := S1.out.1.cell 2
      have f0 := S1.out.1.frozen 2
      go_upto_region 15 with fail
      have S2 : Hid (PS w B gc (⟨κ, (m1 : Int), A3, r.length, c3, r, 0, ⟨#[]⟩, ⟨#[]⟩, 0, 0, none, 0, 0, [], 0, 0, 0⟩ : HC) l0 (.slice A2 n2 c2) (wl.setCell ⟨gc, 2, none⟩ (.slice A3 r.length c3))) := PS.set_ S1.out rfl (fun ho => ⟨O1.out, ho.om, ho.kk, ho.bk, ho.bb, HI.out, ho.im, ho.a1, ho.a2, ho.a3, ho.a4, ho.a5, ho.a6, ho.a7⟩)
      replace HRL := Lib.hid (HRL.out.setCell (p := ⟨gc, 2, none⟩) (by show B ≤ gc; omega) (.slice A3 r.length c3))
      clear e0 f0 S1 O1 Sp
      generalize wl.setCell ⟨gc, 2, none⟩ (.slice A3 r.length c3) = Y1 at *
      obtain ⟨lg, hlg⟩ : ∃ x, lp.drop k = x := ⟨_, rfl⟩
      rw [hlg] at HG HRL
      clear hlg
      have hBx2 : B ≤ Y1.heap.size := by have := S2.out.2.2.2.1.size; omega
      obtain ⟨F2, hF2⟩ : ∃ F, Wp.numsN 1 lg = F := ⟨_, rfl⟩
      have HC := Lib.hid (rnumbers12_any A4 n4 c4 1 lg Y1 F2 hF2 B hBx2 HRL.out hl1 hl2 (by omega) (by omega))
      have HF2 := Lib.hid hF2
      have HN2 := Lib.hid (Cp.nums1 lg)
      clear hF2
      go_wp2_with fail
      refine HC.out.mono ?_
      rintro e u2 hp
      clear HC
      rcases HN2.out with ⟨h1, h2⟩ | ⟨m2, lq, hm2, h1, h2⟩
      · obtain rfl : F2 = none := HF2.out.symm.trans h1
        obtain ⟨rfl, hb⟩ := hp
        have S9 := Lib.hid (S2.out.below hb)
        have POST : Hid (Cp.readC l = none) := Cp.readC_bad (by rw [RC.out]; rw [HK.out, Cp.fields1]; simp only [Cp.rdF]; rw [Cp.rd1_num (f := .mi) rfl, Hp.out]; simp only [Cp.rd1, HG.out]; exact textK_bad (textK_bad h2))
        clear hb h1 h2
        obtain ⟨z1, z2, z3, z4, z5, z6, z7⟩ := S9.out
        have Z2 := Lib.hid z2
        have Z4 := Lib.hid z4
        have Z7 := Lib.hid z7
        have d0 : u2.cell? ⟨gc, 0, none⟩ = some (.int .u8 κ) := z1.cell 0
        have d1 : u2.cell? ⟨gc, 1, none⟩ = some (.int .i64 (m1 : Int)) := z1.cell 1
        have d2 : u2.cell? ⟨gc, 2, none⟩ = some (.slice A3 (r.length) c3) := z1.cell 2
        have d3 : u2.cell? ⟨gc, 3, none⟩ = some (.int .i64 0) := z1.cell 3
        have d4 : u2.cell? ⟨gc, 4, none⟩ = some (.string ⟨#[]⟩) := z1.cell 4
        have d5 : u2.cell? ⟨gc, 5, none⟩ = some (.string ⟨#[]⟩) := z1.cell 5
        have d6 : u2.cell? ⟨gc, 6, none⟩ = some (.int .i64 0) := z1.cell 6
        have d7 : u2.cell? ⟨gc, 7, none⟩ = some (.int .i64 0) := z1.cell 7
        have d8 : u2.cell? ⟨gc, 8, none⟩ = some (.slice none 0 0) := z1.cell 8
        have d9 : u2.cell? ⟨gc, 9, none⟩ = some (.int .i64 0) := z1.cell 9
        have d10 : u2.cell? ⟨gc, 10, none⟩ = some (.int .i64 0) := z1.cell 10
        have d11 : u2.cell? ⟨gc, 11, none⟩ = some (.int .i64 0) := z1.cell 11
        have r0 : u2.cell? ⟨w.heap.size, 0, none⟩ = some (.int .u8 0) := z7.cell 0
        have r1 : u2.cell? ⟨w.heap.size, 1, none⟩ = some (.int .i64 0) := z7.cell 1
        have r2 : u2.cell? ⟨w.heap.size, 2, none⟩ = some (.slice none 0 0) := z7.cell 2
        have r3 : u2.cell? ⟨w.heap.size, 3, none⟩ = some (.int .i64 0) := z7.cell 3
        have r4 : u2.cell? ⟨w.heap.size, 4, none⟩ = some (.string ⟨#[]⟩) := z7.cell 4
        have r5 : u2.cell? ⟨w.heap.size, 5, none⟩ = some (.string ⟨#[]⟩) := z7.cell 5
        have r6 : u2.cell? ⟨w.heap.size, 6, none⟩ = some (.int .i64 0) := z7.cell 6
        have r7 : u2.cell? ⟨w.heap.size, 7, none⟩ = some (.int .i64 0) := z7.cell 7
        have r8 : u2.cell? ⟨w.heap.size, 8, none⟩ = some (.slice none 0 0) := z7.cell 8
        have r9 : u2.cell? ⟨w.heap.size, 9, none⟩ = some (.int .i64 0) := z7.cell 9
        have r10 : u2.cell? ⟨w.heap.size, 10, none⟩ = some (.int .i64 0) := z7.cell 10
        have r11 : u2.cell? ⟨w.heap.size, 11, none⟩ = some (.int .i64 0) := z7.cell 11
        have rf := z7.frozen
        clear z1 z2 z3 z4 z7
        go_wp2_with fail
        refine bodyPost_ret (v := .tuple #[.agg #[.int .u8 κ, .int .i64 (m1 : Int), .slice A3 (r.length) c3, .int .i64 0, .string ⟨#[]⟩, .string ⟨#[]⟩, .int .i64 0, .int .i64 0, .slice none 0 0, .int .i64 0, .int .i64 0, .int .i64 0], .slice none 0 0, .bool false]) (by simp [results, Try.results56, go_sem, r0, r1, r2, r3, r4, r5, r6, r7, r8, r9, r10, r11]) rfl ⟨⟨(⟨κ, (m1 : Int), A3, r.length, c3, r, 0, ⟨#[]⟩, ⟨#[]⟩, 0, 0, none, 0, 0, [], 0, 0, 0⟩ : HC), none, 0, 0, false, rfl, fun h => (by cases h), fun _ => POST.out⟩, below_set12 Z4.out (Nat.le_refl _) _ _ _ _ _ _ _ _ _ _ _ _⟩
      obtain rfl : F2 = some ([(m2 : Int)], lq) := HF2.out.symm.trans h1
      obtain ⟨Aq, cqx, Bq, nq, cq, rfl, ho, hrl, hc1, hc2, hc3, hb⟩ := hp
      have Hq := Lib.hid h2
      have hnq : nq ≤ 4096 := by
        have e := (Wp.numsN_back _ _ _ _ h1).2.1
        have e2 := congrArg List.length e
        rw [List.length_append] at e2
        have e3 := HRL.out.len_b
        have e4 := hrl.len_b
        omega
      have Sqa := Lib.hid (S2.out.below hb)
      replace HRL := Lib.hid hrl
      obtain ⟨gq, csq, rfl, hbk, hcs⟩ := own_get ho (by omega)
      have y0 : u2.cell? ⟨gq, 0, none⟩ = some (.int .i64 (m2 : Int)) := (hbk.cell 0).trans (hcs 0 _ rfl)
      have e0 := Sqa.out.1.cell 3
      have f0 := Sqa.out.1.frozen 3
      clear h1 h2 ho hrl hb hbk hcs HF2 HN2 hBx2 hl1 hl2 hl3 S2
      have hl1 := hc1
      have hl2 := hc2
      have hl3 := hnq
      clear hc1 hc2 hc3
      go_upto_region 19 with fail
      have Sq : Hid (PS w B gc (⟨κ, (m1 : Int), A3, r.length, c3, r, (m2 : Int), ⟨#[]⟩, ⟨#[]⟩, 0, 0, none, 0, 0, [], 0, 0, 0⟩ : HC) l0 (.slice A2 n2 c2) (u2.setCell ⟨gc, 3, none⟩ (.int .i64 (m2 : Int)))) := PS.set_ Sqa.out rfl (fun ho => ⟨ho.og, ho.om, ho.kk, ho.bk, ho.bb, ho.ig, ho.im, ho.a1, inR_nat hm2, ho.a3, ho.a4, ho.a5, ho.a6, ho.a7⟩)
      replace HRL := Lib.hid (HRL.out.setCell (p := ⟨gc, 3, none⟩) (by show B ≤ gc; omega) (.int .i64 (m2 : Int)))
      clear y0 e0 f0 Sqa
      generalize u2.setCell ⟨gc, 3, none⟩ (.int .i64 (m2 : Int)) = Vq at *
      have HC := Lib.hid (rtexts12_any Bq nq cq lq Vq B HRL.out hl1 hl2 hl3)
      have e0 := Sq.out.1.cell 4
      have f0 := Sq.out.1.frozen 4
      have e1 := Sq.out.1.cell 5
      have f1 := Sq.out.1.frozen 5
      go_wp2_with fail
      refine HC.out.mono ?_
      rintro e wt hp
      clear HC e0 f0 e1 f1
      unfold TextsPost at hp
      cases hg1 : Nm.getText lq with
      | none =>
        rw [hg1] at hp
        obtain ⟨rfl, hb⟩ := hp
        have S4 := Lib.hid (Sq.out.below hb)
        have POST : Hid (Cp.readC l = none) := Cp.readC_bad (by rw [RC.out]; rw [HK.out, Cp.fields1]; simp only [Cp.rdF]; rw [Cp.rd1_num (f := .mi) rfl, Hp.out]; simp only [Cp.rd1, HG.out, Hq.out]; exact textK_bad (by rw [Cp.textK_none hg1]))
        clear hb
        have e0 := S4.out.1.cell 4
        have f0 := S4.out.1.frozen 4
        have e1 := S4.out.1.cell 5
        have f1 := S4.out.1.frozen 5
        go_upto_region 41 with fail
        have S5 : Hid (PS w B gc (⟨κ, (m1 : Int), A3, r.length, c3, r, (m2 : Int), ⟨#[]⟩, ⟨#[]⟩, 0, 0, none, 0, 0, [], 0, 0, 0⟩ : HC) l0 (.slice A2 n2 c2) ((wt.setCell ⟨gc, 4, none⟩ (.string ⟨#[]⟩)).setCell ⟨gc, 5, none⟩ (.string ⟨#[]⟩))) := PS.set_ (D := (⟨κ, (m1 : Int), A3, r.length, c3, r, (m2 : Int), ⟨#[]⟩, ⟨#[]⟩, 0, 0, none, 0, 0, [], 0, 0, 0⟩ : HC)) (PS.set_ S4.out rfl (fun ho => ho)) rfl (fun ho => ho)
        clear e0 f0 e1 f1 S4
        generalize (wt.setCell ⟨gc, 4, none⟩ (.string ⟨#[]⟩)).setCell ⟨gc, 5, none⟩ (.string ⟨#[]⟩) = Y2 at *
        obtain ⟨z1, z2, z3, z4, z5, z6, z7⟩ := S5.out
        have Z2 := Lib.hid z2
        have Z4 := Lib.hid z4
        have Z7 := Lib.hid z7
        have d0 : Y2.cell? ⟨gc, 0, none⟩ = some (.int .u8 κ) := z1.cell 0
        have d1 : Y2.cell? ⟨gc, 1, none⟩ = some (.int .i64 (m1 : Int)) := z1.cell 1
        have d2 : Y2.cell? ⟨gc, 2, none⟩ = some (.slice A3 (r.length) c3) := z1.cell 2
        have d3 : Y2.cell? ⟨gc, 3, none⟩ = some (.int .i64 (m2 : Int)) := z1.cell 3
        have d4 : Y2.cell? ⟨gc, 4, none⟩ = some (.string ⟨#[]⟩) := z1.cell 4
        have d5 : Y2.cell? ⟨gc, 5, none⟩ = some (.string ⟨#[]⟩) := z1.cell 5
        have d6 : Y2.cell? ⟨gc, 6, none⟩ = some (.int .i64 0) := z1.cell 6
        have d7 : Y2.cell? ⟨gc, 7, none⟩ = some (.int .i64 0) := z1.cell 7
        have d8 : Y2.cell? ⟨gc, 8, none⟩ = some (.slice none 0 0) := z1.cell 8
        have d9 : Y2.cell? ⟨gc, 9, none⟩ = some (.int .i64 0) := z1.cell 9
        have d10 : Y2.cell? ⟨gc, 10, none⟩ = some (.int .i64 0) := z1.cell 10
        have d11 : Y2.cell? ⟨gc, 11, none⟩ = some (.int .i64 0) := z1.cell 11
        have r0 : Y2.cell? ⟨w.heap.size, 0, none⟩ = some (.int .u8 0) := z7.cell 0
        have r1 : Y2.cell? ⟨w.heap.size, 1, none⟩ = some (.int .i64 0) := z7.cell 1
        have r2 : Y2.cell? ⟨w.heap.size, 2, none⟩ = some (.slice none 0 0) := z7.cell 2
        have r3 : Y2.cell? ⟨w.heap.size, 3, none⟩ = some (.int .i64 0) := z7.cell 3
        have r4 : Y2.cell? ⟨w.heap.size, 4, none⟩ = some (.string ⟨#[]⟩) := z7.cell 4
        have r5 : Y2.cell? ⟨w.heap.size, 5, none⟩ = some (.string ⟨#[]⟩) := z7.cell 5
        have r6 : Y2.cell? ⟨w.heap.size, 6, none⟩ = some (.int .i64 0) := z7.cell 6
        have r7 : Y2.cell? ⟨w.heap.size, 7, none⟩ = some (.int .i64 0) := z7.cell 7
        have r8 : Y2.cell? ⟨w.heap.size, 8, none⟩ = some (.slice none 0 0) := z7.cell 8
        have r9 : Y2.cell? ⟨w.heap.size, 9, none⟩ = some (.int .i64 0) := z7.cell 9
        have r10 : Y2.cell? ⟨w.heap.size, 10, none⟩ = some (.int .i64 0) := z7.cell 10
        have r11 : Y2.cell? ⟨w.heap.size, 11, none⟩ = some (.int .i64 0) := z7.cell 11
        have rf := z7.frozen
        clear z1 z2 z3 z4 z7
        go_wp2_with fail
        refine bodyPost_ret (v := .tuple #[.agg #[.int .u8 κ, .int .i64 (m1 : Int), .slice A3 (r.length) c3, .int .i64 (m2 : Int), .string ⟨#[]⟩, .string ⟨#[]⟩, .int .i64 0, .int .i64 0, .slice none 0 0, .int .i64 0, .int .i64 0, .int .i64 0], .slice none 0 0, .bool false]) (by simp [results, Try.results56, go_sem, r0, r1, r2, r3, r4, r5, r6, r7, r8, r9, r10, r11]) rfl ⟨⟨(⟨κ, (m1 : Int), A3, r.length, c3, r, (m2 : Int), ⟨#[]⟩, ⟨#[]⟩, 0, 0, none, 0, 0, [], 0, 0, 0⟩ : HC), none, 0, 0, false, rfl, fun h => (by cases h), fun _ => POST.out⟩, below_set12 Z4.out (Nat.le_refl _) _ _ _ _ _ _ _ _ _ _ _ _⟩
      | some p =>
        obtain ⟨s, j⟩ := p
        rw [hg1] at hp
        simp only at hp
        cases hg2 : Nm.getText (lq.drop j) with
        | none =>
          rw [hg2] at hp
          simp only at hp
          obtain ⟨rfl, hb⟩ := hp
          have S4 := Lib.hid (Sq.out.below hb)
          have POST : Hid (Cp.readC l = none) := Cp.readC_bad (by rw [RC.out]; rw [HK.out, Cp.fields1]; simp only [Cp.rdF]; rw [Cp.rd1_num (f := .mi) rfl, Hp.out]; simp only [Cp.rd1, HG.out, Hq.out]; rw [Cp.textK_is hg1]; simp only [Cp.textK_none hg2])
          clear hb
          have e0 := S4.out.1.cell 4
          have f0 := S4.out.1.frozen 4
          have e1 := S4.out.1.cell 5
          have f1 := S4.out.1.frozen 5
          go_upto_region 41 with fail
          have S5 : Hid (PS w B gc (⟨κ, (m1 : Int), A3, r.length, c3, r, (m2 : Int), ⟨#[]⟩, ⟨#[]⟩, 0, 0, none, 0, 0, [], 0, 0, 0⟩ : HC) l0 (.slice A2 n2 c2) ((wt.setCell ⟨gc, 4, none⟩ (.string ⟨#[]⟩)).setCell ⟨gc, 5, none⟩ (.string ⟨#[]⟩))) := PS.set_ (D := (⟨κ, (m1 : Int), A3, r.length, c3, r, (m2 : Int), ⟨#[]⟩, ⟨#[]⟩, 0, 0, none, 0, 0, [], 0, 0, 0⟩ : HC)) (PS.set_ S4.out rfl (fun ho => ho)) rfl (fun ho => ho)
          clear e0 f0 e1 f1 S4
          generalize (wt.setCell ⟨gc, 4, none⟩ (.string ⟨#[]⟩)).setCell ⟨gc, 5, none⟩ (.string ⟨#[]⟩) = Y2 at *
          obtain ⟨z1, z2, z3, z4, z5, z6, z7⟩ := S5.out
          have Z2 := Lib.hid z2
          have Z4 := Lib.hid z4
          have Z7 := Lib.hid z7
          have d0 : Y2.cell? ⟨gc, 0, none⟩ = some (.int .u8 κ) := z1.cell 0
          have d1 : Y2.cell? ⟨gc, 1, none⟩ = some (.int .i64 (m1 : Int)) := z1.cell 1
          have d2 : Y2.cell? ⟨gc, 2, none⟩ = some (.slice A3 (r.length) c3) := z1.cell 2
          have d3 : Y2.cell? ⟨gc, 3, none⟩ = some (.int .i64 (m2 : Int)) := z1.cell 3
          have d4 : Y2.cell? ⟨gc, 4, none⟩ = some (.string ⟨#[]⟩) := z1.cell 4
          have d5 : Y2.cell? ⟨gc, 5, none⟩ = some (.string ⟨#[]⟩) := z1.cell 5
          have d6 : Y2.cell? ⟨gc, 6, none⟩ = some (.int .i64 0) := z1.cell 6
          have d7 : Y2.cell? ⟨gc, 7, none⟩ = some (.int .i64 0) := z1.cell 7
          have d8 : Y2.cell? ⟨gc, 8, none⟩ = some (.slice none 0 0) := z1.cell 8
          have d9 : Y2.cell? ⟨gc, 9, none⟩ = some (.int .i64 0) := z1.cell 9
          have d10 : Y2.cell? ⟨gc, 10, none⟩ = some (.int .i64 0) := z1.cell 10
          have d11 : Y2.cell? ⟨gc, 11, none⟩ = some (.int .i64 0) := z1.cell 11
          have r0 : Y2.cell? ⟨w.heap.size, 0, none⟩ = some (.int .u8 0) := z7.cell 0
          have r1 : Y2.cell? ⟨w.heap.size, 1, none⟩ = some (.int .i64 0) := z7.cell 1
          have r2 : Y2.cell? ⟨w.heap.size, 2, none⟩ = some (.slice none 0 0) := z7.cell 2
          have r3 : Y2.cell? ⟨w.heap.size, 3, none⟩ = some (.int .i64 0) := z7.cell 3
          have r4 : Y2.cell? ⟨w.heap.size, 4, none⟩ = some (.string ⟨#[]⟩) := z7.cell 4
          have r5 : Y2.cell? ⟨w.heap.size, 5, none⟩ = some (.string ⟨#[]⟩) := z7.cell 5
          have r6 : Y2.cell? ⟨w.heap.size, 6, none⟩ = some (.int .i64 0) := z7.cell 6
          have r7 : Y2.cell? ⟨w.heap.size, 7, none⟩ = some (.int .i64 0) := z7.cell 7
          have r8 : Y2.cell? ⟨w.heap.size, 8, none⟩ = some (.slice none 0 0) := z7.cell 8
          have r9 : Y2.cell? ⟨w.heap.size, 9, none⟩ = some (.int .i64 0) := z7.cell 9
          have r10 : Y2.cell? ⟨w.heap.size, 10, none⟩ = some (.int .i64 0) := z7.cell 10
          have r11 : Y2.cell? ⟨w.heap.size, 11, none⟩ = some (.int .i64 0) := z7.cell 11
          have rf := z7.frozen
          clear z1 z2 z3 z4 z7
          go_wp2_with fail
          refine bodyPost_ret (v := .tuple #[.agg #[.int .u8 κ, .int .i64 (m1 : Int), .slice A3 (r.length) c3, .int .i64 (m2 : Int), .string ⟨#[]⟩, .string ⟨#[]⟩, .int .i64 0, .int .i64 0, .slice none 0 0, .int .i64 0, .int .i64 0, .int .i64 0], .slice none 0 0, .bool false]) (by simp [results, Try.results56, go_sem, r0, r1, r2, r3, r4, r5, r6, r7, r8, r9, r10, r11]) rfl ⟨⟨(⟨κ, (m1 : Int), A3, r.length, c3, r, (m2 : Int), ⟨#[]⟩, ⟨#[]⟩, 0, 0, none, 0, 0, [], 0, 0, 0⟩ : HC), none, 0, 0, false, rfl, fun h => (by cases h), fun _ => POST.out⟩, below_set12 Z4.out (Nat.le_refl _) _ _ _ _ _ _ _ _ _ _ _ _⟩
        | some p =>
          obtain ⟨tt, jj⟩ := p
          rw [hg2] at hp
          simp only at hp
          obtain ⟨A5, n5, c5, rfl, hrl, hd1, hd2, hd3, hb⟩ := hp
          have S4 := Lib.hid (Sq.out.below hb)
          have T1 := Lib.hid (Cp.textK_is hg1)
          have T2 := Lib.hid (Cp.textK_is hg2)
          have HLL := Lib.hid hrl.len_b
          clear hb hg1 hg2 hrl hd1 hd2 hd3
          have e0 := S4.out.1.cell 4
          have f0 := S4.out.1.frozen 4
          have e1 := S4.out.1.cell 5
          have f1 := S4.out.1.frozen 5
          go_upto_region 41 with fail
          have S5 : Hid (PS w B gc (⟨κ, (m1 : Int), A3, r.length, c3, r, (m2 : Int), (S s), (S tt), 0, 0, none, 0, 0, [], 0, 0, 0⟩ : HC) l0 (.slice A2 n2 c2) ((wt.setCell ⟨gc, 4, none⟩ (.string (S s))).setCell ⟨gc, 5, none⟩ (.string (S tt)))) := PS.set_ (D := (⟨κ, (m1 : Int), A3, r.length, c3, r, (m2 : Int), (S s), ⟨#[]⟩, 0, 0, none, 0, 0, [], 0, 0, 0⟩ : HC)) (PS.set_ S4.out rfl (fun ho => ⟨ho.og, ho.om, ho.kk, text_le T1.out, ho.bb, ho.ig, ho.im, ho.a1, ho.a2, ho.a3, ho.a4, ho.a5, ho.a6, ho.a7⟩)) rfl (fun ho => ⟨ho.og, ho.om, ho.kk, ho.bk, text_le T2.out, ho.ig, ho.im, ho.a1, ho.a2, ho.a3, ho.a4, ho.a5, ho.a6, ho.a7⟩)
          clear e0 f0 e1 f1 S4
          generalize (wt.setCell ⟨gc, 4, none⟩ (.string (S s))).setCell ⟨gc, 5, none⟩ (.string (S tt)) = Y2 at *
          have EE : Hid (Cp.rdC l = (HC.cmd (⟨κ, (m1 : Int), A3, r.length, c3, r, (m2 : Int), (S s), (S tt), 0, 0, none, 0, 0, [], 0, 0, 0⟩ : HC), ((lq.drop j).drop jj, false))) := by
            rw [Hid, RC.out, HK.out, Cp.fields1]
            simp only [Cp.rdF, Cp.rd1, Hp.out, HG.out, Hq.out, T1.out, T2.out]
            rfl
          obtain ⟨z1, z2, z3, z4, z5, z6, z7⟩ := S5.out
          have Z2 := Lib.hid z2
          have Z4 := Lib.hid z4
          have Z7 := Lib.hid z7
          have d0 : Y2.cell? ⟨gc, 0, none⟩ = some (.int .u8 κ) := z1.cell 0
          have d1 : Y2.cell? ⟨gc, 1, none⟩ = some (.int .i64 (m1 : Int)) := z1.cell 1
          have d2 : Y2.cell? ⟨gc, 2, none⟩ = some (.slice A3 (r.length) c3) := z1.cell 2
          have d3 : Y2.cell? ⟨gc, 3, none⟩ = some (.int .i64 (m2 : Int)) := z1.cell 3
          have d4 : Y2.cell? ⟨gc, 4, none⟩ = some (.string (S s)) := z1.cell 4
          have d5 : Y2.cell? ⟨gc, 5, none⟩ = some (.string (S tt)) := z1.cell 5
          have d6 : Y2.cell? ⟨gc, 6, none⟩ = some (.int .i64 0) := z1.cell 6
          have d7 : Y2.cell? ⟨gc, 7, none⟩ = some (.int .i64 0) := z1.cell 7
          have d8 : Y2.cell? ⟨gc, 8, none⟩ = some (.slice none 0 0) := z1.cell 8
          have d9 : Y2.cell? ⟨gc, 9, none⟩ = some (.int .i64 0) := z1.cell 9
          have d10 : Y2.cell? ⟨gc, 10, none⟩ = some (.int .i64 0) := z1.cell 10
          have d11 : Y2.cell? ⟨gc, 11, none⟩ = some (.int .i64 0) := z1.cell 11
          have r0 : Y2.cell? ⟨w.heap.size, 0, none⟩ = some (.int .u8 0) := z7.cell 0
          have r1 : Y2.cell? ⟨w.heap.size, 1, none⟩ = some (.int .i64 0) := z7.cell 1
          have r2 : Y2.cell? ⟨w.heap.size, 2, none⟩ = some (.slice none 0 0) := z7.cell 2
          have r3 : Y2.cell? ⟨w.heap.size, 3, none⟩ = some (.int .i64 0) := z7.cell 3
          have r4 : Y2.cell? ⟨w.heap.size, 4, none⟩ = some (.string ⟨#[]⟩) := z7.cell 4
          have r5 : Y2.cell? ⟨w.heap.size, 5, none⟩ = some (.string ⟨#[]⟩) := z7.cell 5
          have r6 : Y2.cell? ⟨w.heap.size, 6, none⟩ = some (.int .i64 0) := z7.cell 6
          have r7 : Y2.cell? ⟨w.heap.size, 7, none⟩ = some (.int .i64 0) := z7.cell 7
          have r8 : Y2.cell? ⟨w.heap.size, 8, none⟩ = some (.slice none 0 0) := z7.cell 8
          have r9 : Y2.cell? ⟨w.heap.size, 9, none⟩ = some (.int .i64 0) := z7.cell 9
          have r10 : Y2.cell? ⟨w.heap.size, 10, none⟩ = some (.int .i64 0) := z7.cell 10
          have r11 : Y2.cell? ⟨w.heap.size, 11, none⟩ = some (.int .i64 0) := z7.cell 11
          have rf := z7.frozen
          clear z1 z2 z3 z4 z7
          go_wp2_with fail
          refine bodyPost_ret (v := .tuple #[.agg #[.int .u8 κ, .int .i64 (m1 : Int), .slice A3 (r.length) c3, .int .i64 (m2 : Int), .string (S s), .string (S tt), .int .i64 0, .int .i64 0, .slice none 0 0, .int .i64 0, .int .i64 0, .int .i64 0], .slice A5 n5 c5, .bool true]) (by simp [results, Try.results56, go_sem, r0, r1, r2, r3, r4, r5, r6, r7, r8, r9, r10, r11]) rfl ⟨⟨(⟨κ, (m1 : Int), A3, r.length, c3, r, (m2 : Int), (S s), (S tt), 0, 0, none, 0, 0, [], 0, 0, 0⟩ : HC), A5, n5, c5, true, rfl, fun _ => ⟨(lq.drop j).drop jj, EE.out, HLL.out, own12 Z2.out Z7.out _ _ _ _ _ _ _ _ _ _ _ _⟩, fun h => (by cases h)⟩, below_set12 Z4.out (Nat.le_refl _) _ _ _ _ _ _ _ _ _ _ _ _⟩
  · have HK := Lib.hid h
    clear h
    have q1 : (κ == 1) = false := beq_eq_false_iff_ne.2 (by have := HK.out; omega)
    have q2 : (κ == 2) = true := beq_iff_eq.2 (by have := HK.out; omega)
    have q3 : (κ == 3) = false := beq_eq_false_iff_ne.2 (by have := HK.out; omega)
    have q4 : (κ == 4) = false := beq_eq_false_iff_ne.2 (by have := HK.out; omega)
    have q5 : (κ == 5) = false := beq_eq_false_iff_ne.2 (by have := HK.out; omega)
    have q6 : (κ == 6) = false := beq_eq_false_iff_ne.2 (by have := HK.out; omega)
    have d0 : X0.cell? ⟨gc, 0, none⟩ = some (.int .u8 κ) := S0.out.1.cell 0
    obtain ⟨_, _, _, he, hrl, hl1, hl2, hl3⟩ := S0.out.2.2.1
    injection he with he1 he2 he3
    subst he1 he2 he3
    have HRL := Lib.hid hrl
    have hB0 : B ≤ X0.heap.size := by have := S0.out.2.2.2.1.size; omega
    clear hrl
    obtain ⟨F, hF⟩ : ∃ F, Wp.numsN 2 l0 = F := ⟨_, rfl⟩
    have HC := Lib.hid (rnumbers12_any A2 n2 c2 2 l0 X0 F hF B hB0 HRL.out hl1 hl2 (by omega) (by omega))
    have HNU := Lib.hid (Cp.rdF_nums [.i, .tm] (Cp.zeroC κ) l0 (by intro f hf; simp only [List.mem_cons, List.not_mem_nil, or_false] at hf; rcases hf with rfl | rfl <;> rfl))
    have HF := Lib.hid hF
    clear hF
    go_wp2_with fail
    refine HC.out.mono ?_
    rintro e w2 hp
    clear d0 HC
    cases F with
    | none =>
      obtain ⟨rfl, hb⟩ := hp
      have S1 := Lib.hid (S0.out.below hb)
      have POST : Hid (Cp.readC l = none) := Cp.readC_bad (by rw [RC.out, HK.out, Cp.fields2]; have := HNU.out.2 HF.out; rw [HK.out] at this; exact this)
      clear hb
      go_upto_region 41 with fail
      obtain ⟨z1, z2, z3, z4, z5, z6, z7⟩ := S1.out
      have Z2 := Lib.hid z2
      have Z4 := Lib.hid z4
      have Z7 := Lib.hid z7
      have d0 : w2.cell? ⟨gc, 0, none⟩ = some (.int .u8 κ) := z1.cell 0
      have d1 : w2.cell? ⟨gc, 1, none⟩ = some (.int .i64 0) := z1.cell 1
      have d2 : w2.cell? ⟨gc, 2, none⟩ = some (.slice none 0 0) := z1.cell 2
      have d3 : w2.cell? ⟨gc, 3, none⟩ = some (.int .i64 0) := z1.cell 3
      have d4 : w2.cell? ⟨gc, 4, none⟩ = some (.string ⟨#[]⟩) := z1.cell 4
      have d5 : w2.cell? ⟨gc, 5, none⟩ = some (.string ⟨#[]⟩) := z1.cell 5
      have d6 : w2.cell? ⟨gc, 6, none⟩ = some (.int .i64 0) := z1.cell 6
      have d7 : w2.cell? ⟨gc, 7, none⟩ = some (.int .i64 0) := z1.cell 7
      have d8 : w2.cell? ⟨gc, 8, none⟩ = some (.slice none 0 0) := z1.cell 8
      have d9 : w2.cell? ⟨gc, 9, none⟩ = some (.int .i64 0) := z1.cell 9
      have d10 : w2.cell? ⟨gc, 10, none⟩ = some (.int .i64 0) := z1.cell 10
      have d11 : w2.cell? ⟨gc, 11, none⟩ = some (.int .i64 0) := z1.cell 11
      have r0 : w2.cell? ⟨w.heap.size, 0, none⟩ = some (.int .u8 0) := z7.cell 0
      have r1 : w2.cell? ⟨w.heap.size, 1, none⟩ = some (.int .i64 0) := z7.cell 1
      have r2 : w2.cell? ⟨w.heap.size, 2, none⟩ = some (.slice none 0 0) := z7.cell 2
      have r3 : w2.cell? ⟨w.heap.size, 3, none⟩ = some (.int .i64 0) := z7.cell 3
      have r4 : w2.cell? ⟨w.heap.size, 4, none⟩ = some (.string ⟨#[]⟩) := z7.cell 4
      have r5 : w2.cell? ⟨w.heap.size, 5, none⟩ = some (.string ⟨#[]⟩) := z7.cell 5
      have r6 : w2.cell? ⟨w.heap.size, 6, none⟩ = some (.int .i64 0) := z7.cell 6
      have r7 : w2.cell? ⟨w.heap.size, 7, none⟩ = some (.int .i64 0) := z7.cell 7
      have r8 : w2.cell? ⟨w.heap.size, 8, none⟩ = some (.slice none 0 0) := z7.cell 8
      have r9 : w2.cell? ⟨w.heap.size, 9, none⟩ = some (.int .i64 0) := z7.cell 9
      have r10 : w2.cell? ⟨w.heap.size, 10, none⟩ = some (.int .i64 0) := z7.cell 10
      have r11 : w2.cell? ⟨w.heap.size, 11, none⟩ = some (.int .i64 0) := z7.cell 11
      have rf := z7.frozen
      clear z1 z2 z3 z4 z7
      go_wp2_with fail
      refine bodyPost_ret (v := .tuple #[.agg #[.int .u8 κ, .int .i64 0, .slice none 0 0, .int .i64 0, .string ⟨#[]⟩, .string ⟨#[]⟩, .int .i64 0, .int .i64 0, .slice none 0 0, .int .i64 0, .int .i64 0, .int .i64 0], .slice none 0 0, .bool false]) (by simp [results, Try.results56, go_sem, r0, r1, r2, r3, r4, r5, r6, r7, r8, r9, r10, r11]) rfl ⟨⟨(⟨κ, 0, none, 0, 0, [], 0, ⟨#[]⟩, ⟨#[]⟩, 0, 0, none, 0, 0, [], 0, 0, 0⟩ : HC), none, 0, 0, false, rfl, fun h => (by cases h), fun _ => POST.out⟩, below_set12 Z4.out (Nat.le_refl _) _ _ _ _ _ _ _ _ _ _ _ _⟩
    | some p =>
      obtain ⟨xs, l1⟩ := p
      obtain ⟨A3, c3, A4, n4, c4, rfl, ho, hrl, hd1, hd2, hd3, hb⟩ := hp
      obtain ⟨hxl, hxi⟩ := numsN_in HF.out
      obtain ⟨a, b, rfl⟩ := len2 hxl
      have HXI := Lib.hid hxi
      obtain ⟨g2, cs2, rfl, hbk, hcs⟩ := own_get ho (by omega)
      have S1 := Lib.hid (S0.out.below hb)
      have G2 := Lib.hid hbk
      have CS := Lib.hid hcs
      have E1 := Lib.hid (HNU.out.1 _ _ HF.out)
      have HLL := Lib.hid hrl.len_b
      clear hb hrl hbk hcs hxl hxi ho hd1 hd2 hd3 HNU
      have gne : gc ≠ g2 := Blk.ne_ S1.out.1 G2.out (by decide)
      have gne2 : g2 ≠ gc := Ne.symm gne
      have y0 : w2.cell? ⟨g2, 0, none⟩ = some (.int .i64 a) := (G2.out.cell 0).trans (CS.out 0 _ rfl)
      have e0 := S1.out.1.cell 6
      have f0 := S1.out.1.frozen 6
      go_upto_region 24 with fail
      have S2 : Hid (PS w B gc (⟨κ, 0, none, 0, 0, [], 0, ⟨#[]⟩, ⟨#[]⟩, a, 0, none, 0, 0, [], 0, 0, 0⟩ : HC) l0 (.slice A2 n2 c2) (w2.setCell ⟨gc, 6, none⟩ (.int .i64 a))) := PS.set_ S1.out rfl (fun ho => ⟨ho.og, ho.om, ho.kk, ho.bk, ho.bb, ho.ig, ho.im, ho.a1, ho.a2, HXI.out a (by simp), ho.a4, ho.a5, ho.a6, ho.a7⟩)
      replace G2 := Lib.hid (G2.out.far (p := ⟨gc, 6, none⟩) gne2 (.int .i64 a))
      clear y0 e0 f0 S1
      generalize w2.setCell ⟨gc, 6, none⟩ (.int .i64 a) = Y1 at *
      have y1 : Y1.cell? ⟨g2, 1, none⟩ = some (.int .i64 b) := (G2.out.cell 1).trans (CS.out 1 _ rfl)
      have e1 := S2.out.1.cell 7
      have f1 := S2.out.1.frozen 7
      go_upto_region 41 with fail
      have S3 : Hid (PS w B gc (⟨κ, 0, none, 0, 0, [], 0, ⟨#[]⟩, ⟨#[]⟩, a, b, none, 0, 0, [], 0, 0, 0⟩ : HC) l0 (.slice A2 n2 c2) (Y1.setCell ⟨gc, 7, none⟩ (.int .i64 b))) := PS.set_ S2.out rfl (fun ho => ⟨ho.og, ho.om, ho.kk, ho.bk, ho.bb, ho.ig, ho.im, ho.a1, ho.a2, ho.a3, HXI.out b (by simp), ho.a5, ho.a6, ho.a7⟩)
      replace G2 := Lib.hid (G2.out.far (p := ⟨gc, 7, none⟩) gne2 (.int .i64 b))
      clear y1 e1 f1 S2
      generalize Y1.setCell ⟨gc, 7, none⟩ (.int .i64 b) = Y2 at *
      have EE : Hid (Cp.rdC l = (HC.cmd (⟨κ, 0, none, 0, 0, [], 0, ⟨#[]⟩, ⟨#[]⟩, a, b, none, 0, 0, [], 0, 0, 0⟩ : HC), (l1, false))) := by
        rw [Hid, RC.out, HK.out, Cp.fields2]
        have := E1.out
        rw [HK.out] at this
        rw [this]
        rfl
      obtain ⟨z1, z2, z3, z4, z5, z6, z7⟩ := S3.out
      have Z2 := Lib.hid z2
      have Z4 := Lib.hid z4
      have Z7 := Lib.hid z7
      have d0 : Y2.cell? ⟨gc, 0, none⟩ = some (.int .u8 κ) := z1.cell 0
      have d1 : Y2.cell? ⟨gc, 1, none⟩ = some (.int .i64 0) := z1.cell 1
      have d2 : Y2.cell? ⟨gc, 2, none⟩ = some (.slice none 0 0) := z1.cell 2
      have d3 : Y2.cell? ⟨gc, 3, none⟩ = some (.int .i64 0) := z1.cell 3
      have d4 : Y2.cell? ⟨gc, 4, none⟩ = some (.string ⟨#[]⟩) := z1.cell 4
      have d5 : Y2.cell? ⟨gc, 5, none⟩ = some (.string ⟨#[]⟩) := z1.cell 5
      have d6 : Y2.cell? ⟨gc, 6, none⟩ = some (.int .i64 a) := z1.cell 6
      have d7 : Y2.cell? ⟨gc, 7, none⟩ = some (.int .i64 b) := z1.cell 7
      have d8 : Y2.cell? ⟨gc, 8, none⟩ = some (.slice none 0 0) := z1.cell 8
      have d9 : Y2.cell? ⟨gc, 9, none⟩ = some (.int .i64 0) := z1.cell 9
      have d10 : Y2.cell? ⟨gc, 10, none⟩ = some (.int .i64 0) := z1.cell 10
      have d11 : Y2.cell? ⟨gc, 11, none⟩ = some (.int .i64 0) := z1.cell 11
      have r0 : Y2.cell? ⟨w.heap.size, 0, none⟩ = some (.int .u8 0) := z7.cell 0
      have r1 : Y2.cell? ⟨w.heap.size, 1, none⟩ = some (.int .i64 0) := z7.cell 1
      have r2 : Y2.cell? ⟨w.heap.size, 2, none⟩ = some (.slice none 0 0) := z7.cell 2
      have r3 : Y2.cell? ⟨w.heap.size, 3, none⟩ = some (.int .i64 0) := z7.cell 3
      have r4 : Y2.cell? ⟨w.heap.size, 4, none⟩ = some (.string ⟨#[]⟩) := z7.cell 4
      have r5 : Y2.cell? ⟨w.heap.size, 5, none⟩ = some (.string ⟨#[]⟩) := z7.cell 5
      have r6 : Y2.cell? ⟨w.heap.size, 6, none⟩ = some (.int .i64 0) := z7.cell 6
      have r7 : Y2.cell? ⟨w.heap.size, 7, none⟩ = some (.int .i64 0) := z7.cell 7
      have r8 : Y2.cell? ⟨w.heap.size, 8, none⟩ = some (.slice none 0 0) := z7.cell 8
      have r9 : Y2.cell? ⟨w.heap.size, 9, none⟩ = some (.int .i64 0) := z7.cell 9
      have r10 : Y2.cell? ⟨w.heap.size, 10, none⟩ = some (.int .i64 0) := z7.cell 10
      have r11 : Y2.cell? ⟨w.heap.size, 11, none⟩ = some (.int .i64 0) := z7.cell 11
      have rf := z7.frozen
      clear z1 z2 z3 z4 z7
      go_wp2_with fail
      refine bodyPost_ret (v := .tuple #[.agg #[.int .u8 κ, .int .i64 0, .slice none 0 0, .int .i64 0, .string ⟨#[]⟩, .string ⟨#[]⟩, .int .i64 a, .int .i64 b, .slice none 0 0, .int .i64 0, .int .i64 0, .int .i64 0], .slice A4 n4 c4, .bool true]) (by simp [results, Try.results56, go_sem, r0, r1, r2, r3, r4, r5, r6, r7, r8, r9, r10, r11]) rfl ⟨⟨(⟨κ, 0, none, 0, 0, [], 0, ⟨#[]⟩, ⟨#[]⟩, a, b, none, 0, 0, [], 0, 0, 0⟩ : HC), A4, n4, c4, true, rfl, fun _ => ⟨l1, EE.out, HLL.out, own12 Z2.out Z7.out _ _ _ _ _ _ _ _ _ _ _ _⟩, fun h => (by cases h)⟩, below_set12 Z4.out (Nat.le_refl _) _ _ _ _ _ _ _ _ _ _ _ _⟩
  · have HK := Lib.hid h
    clear h
    have q1 : (κ == 1) = false := beq_eq_false_iff_ne.2 (by have := HK.out; omega)
    have q2 : (κ == 2) = false := beq_eq_false_iff_ne.2 (by have := HK.out; omega)
    have q3 : (κ == 3) = true := beq_iff_eq.2 (by have := HK.out; omega)
    have q4 : (κ == 4) = false := beq_eq_false_iff_ne.2 (by have := HK.out; omega)
    have q5 : (κ == 5) = false := beq_eq_false_iff_ne.2 (by have := HK.out; omega)
    have q6 : (κ == 6) = false := beq_eq_false_iff_ne.2 (by have := HK.out; omega)
    have d0 : X0.cell? ⟨gc, 0, none⟩ = some (.int .u8 κ) := S0.out.1.cell 0
    obtain ⟨_, _, _, he, hrl, hl1, hl2, hl3⟩ := S0.out.2.2.1
    injection he with he1 he2 he3
    subst he1 he2 he3
    have HRL := Lib.hid hrl
    have hB0 : B ≤ X0.heap.size := by have := S0.out.2.2.2.1.size; omega
    clear hrl
    have HC := Lib.hid (rlist12_any A2 n2 c2 6 l0 X0 B hB0 HRL.out hl1 hl2 hl3 (by omega))
    have e8 := S0.out.1.cell 8
    have f8 := S0.out.1.frozen 8
    go_wp2_with fail
    refine HC.out.mono ?_
    rintro e w2 hp
    clear d0 HC e8 f8
    unfold ListPost at hp
    cases hg : Nm.getInts l0 6 with
    | none =>
      rw [hg] at hp
      obtain ⟨rfl, hb⟩ := hp
      have S1 := Lib.hid (S0.out.below hb)
      have POST : Hid (Cp.readC l = none) := Cp.readC_bad (by rw [RC.out, HK.out, Cp.fields3]; simp only [Cp.rdF, Cp.rd1, Cp.intsK_none hg])
      clear hb hg
      have e8 := S1.out.1.cell 8
      have f8 := S1.out.1.frozen 8
      go_upto_region 41 with fail
      have S2 : Hid (PS w B gc (zeroHC κ) l0 (.slice A2 n2 c2) (w2.setCell ⟨gc, 8, none⟩ (.slice none 0 0))) := PS.set_ S1.out rfl (fun ho => ho)
      clear e8 f8 S1
      generalize w2.setCell ⟨gc, 8, none⟩ (.slice none 0 0) = Y1 at *
      obtain ⟨z1, z2, z3, z4, z5, z6, z7⟩ := S2.out
      have Z2 := Lib.hid z2
      have Z4 := Lib.hid z4
      have Z7 := Lib.hid z7
      have d0 : Y1.cell? ⟨gc, 0, none⟩ = some (.int .u8 κ) := z1.cell 0
      have d1 : Y1.cell? ⟨gc, 1, none⟩ = some (.int .i64 0) := z1.cell 1
      have d2 : Y1.cell? ⟨gc, 2, none⟩ = some (.slice none 0 0) := z1.cell 2
      have d3 : Y1.cell? ⟨gc, 3, none⟩ = some (.int .i64 0) := z1.cell 3
      have d4 : Y1.cell? ⟨gc, 4, none⟩ = some (.string ⟨#[]⟩) := z1.cell 4
      have d5 : Y1.cell? ⟨gc, 5, none⟩ = some (.string ⟨#[]⟩) := z1.cell 5
      have d6 : Y1.cell? ⟨gc, 6, none⟩ = some (.int .i64 0) := z1.cell 6
      have d7 : Y1.cell? ⟨gc, 7, none⟩ = some (.int .i64 0) := z1.cell 7
      have d8 : Y1.cell? ⟨gc, 8, none⟩ = some (.slice none 0 0) := z1.cell 8
      have d9 : Y1.cell? ⟨gc, 9, none⟩ = some (.int .i64 0) := z1.cell 9
      have d10 : Y1.cell? ⟨gc, 10, none⟩ = some (.int .i64 0) := z1.cell 10
      have d11 : Y1.cell? ⟨gc, 11, none⟩ = some (.int .i64 0) := z1.cell 11
      have r0 : Y1.cell? ⟨w.heap.size, 0, none⟩ = some (.int .u8 0) := z7.cell 0
      have r1 : Y1.cell? ⟨w.heap.size, 1, none⟩ = some (.int .i64 0) := z7.cell 1
      have r2 : Y1.cell? ⟨w.heap.size, 2, none⟩ = some (.slice none 0 0) := z7.cell 2
      have r3 : Y1.cell? ⟨w.heap.size, 3, none⟩ = some (.int .i64 0) := z7.cell 3
      have r4 : Y1.cell? ⟨w.heap.size, 4, none⟩ = some (.string ⟨#[]⟩) := z7.cell 4
      have r5 : Y1.cell? ⟨w.heap.size, 5, none⟩ = some (.string ⟨#[]⟩) := z7.cell 5
      have r6 : Y1.cell? ⟨w.heap.size, 6, none⟩ = some (.int .i64 0) := z7.cell 6
      have r7 : Y1.cell? ⟨w.heap.size, 7, none⟩ = some (.int .i64 0) := z7.cell 7
      have r8 : Y1.cell? ⟨w.heap.size, 8, none⟩ = some (.slice none 0 0) := z7.cell 8
      have r9 : Y1.cell? ⟨w.heap.size, 9, none⟩ = some (.int .i64 0) := z7.cell 9
      have r10 : Y1.cell? ⟨w.heap.size, 10, none⟩ = some (.int .i64 0) := z7.cell 10
      have r11 : Y1.cell? ⟨w.heap.size, 11, none⟩ = some (.int .i64 0) := z7.cell 11
      have rf := z7.frozen
      clear z1 z2 z3 z4 z7
      go_wp2_with fail
      refine bodyPost_ret (v := .tuple #[.agg #[.int .u8 κ, .int .i64 0, .slice none 0 0, .int .i64 0, .string ⟨#[]⟩, .string ⟨#[]⟩, .int .i64 0, .int .i64 0, .slice none 0 0, .int .i64 0, .int .i64 0, .int .i64 0], .slice none 0 0, .bool false]) (by simp [results, Try.results56, go_sem, r0, r1, r2, r3, r4, r5, r6, r7, r8, r9, r10, r11]) rfl ⟨⟨(⟨κ, 0, none, 0, 0, [], 0, ⟨#[]⟩, ⟨#[]⟩, 0, 0, none, 0, 0, [], 0, 0, 0⟩ : HC), none, 0, 0, false, rfl, fun h => (by cases h), fun _ => POST.out⟩, below_set12 Z4.out (Nat.le_refl _) _ _ _ _ _ _ _ _ _ _ _ _⟩
    | some p =>
      obtain ⟨r, k⟩ := p
      rw [hg] at hp
      obtain ⟨A3, c3, A4, n4, c4, rfl, ho, hrl, hd1, hd2, hd3, hb⟩ := hp
      have S1 := Lib.hid (S0.out.below hb)
      have O1 : Hid (w2.ownsRow w.heap.size 3 1 (.slice A3 r.length c3) r.length (ci r)) := own_mono ho S0.out.2.2.2.1.size
      have HI := Lib.hid (Nm.getInts_back hg).2.1
      have HLL := Lib.hid hrl.len_b
      have EE : Hid (Cp.rdC l = (HC.cmd (⟨κ, 0, none, 0, 0, [], 0, ⟨#[]⟩, ⟨#[]⟩, 0, 0, A3, r.length, c3, r, 0, 0, 0⟩ : HC), (l0.drop k, false))) := by
        rw [Hid, RC.out, HK.out, Cp.fields3]
        simp only [Cp.rdF, Cp.rd1, Cp.intsK_is hg]
        rfl
      clear hb hg ho hrl hd1 hd2 hd3
      have e8 := S1.out.1.cell 8
      have f8 := S1.out.1.frozen 8
      go_upto_region 41 with fail
      have S2 : Hid (PS w B gc (⟨κ, 0, none, 0, 0, [], 0, ⟨#[]⟩, ⟨#[]⟩, 0, 0, A3, r.length, c3, r, 0, 0, 0⟩ : HC) l0 (.slice A2 n2 c2) (w2.setCell ⟨gc, 8, none⟩ (.slice A3 r.length c3))) := PS.set_ S1.out rfl (fun ho => ⟨ho.og, O1.out, ho.kk, ho.bk, ho.bb, ho.ig, HI.out, ho.a1, ho.a2, ho.a3, ho.a4, ho.a5, ho.a6, ho.a7⟩)
      clear e8 f8 S1 O1
      generalize w2.setCell ⟨gc, 8, none⟩ (.slice A3 r.length c3) = Y1 at *
      obtain ⟨z1, z2, z3, z4, z5, z6, z7⟩ := S2.out
      have Z2 := Lib.hid z2
      have Z4 := Lib.hid z4
      have Z7 := Lib.hid z7
      have d0 : Y1.cell? ⟨gc, 0, none⟩ = some (.int .u8 κ) := z1.cell 0
      have d1 : Y1.cell? ⟨gc, 1, none⟩ = some (.int .i64 0) := z1.cell 1
      have d2 : Y1.cell? ⟨gc, 2, none⟩ = some (.slice none 0 0) := z1.cell 2
      have d3 : Y1.cell? ⟨gc, 3, none⟩ = some (.int .i64 0) := z1.cell 3
      have d4 : Y1.cell? ⟨gc, 4, none⟩ = some (.string ⟨#[]⟩) := z1.cell 4
      have d5 : Y1.cell? ⟨gc, 5, none⟩ = some (.string ⟨#[]⟩) := z1.cell 5
      have d6 : Y1.cell? ⟨gc, 6, none⟩ = some (.int .i64 0) := z1.cell 6
      have d7 : Y1.cell? ⟨gc, 7, none⟩ = some (.int .i64 0) := z1.cell 7
      have d8 : Y1.cell? ⟨gc, 8, none⟩ = some (.slice A3 (r.length) c3) := z1.cell 8
      have d9 : Y1.cell? ⟨gc, 9, none⟩ = some (.int .i64 0) := z1.cell 9
      have d10 : Y1.cell? ⟨gc, 10, none⟩ = some (.int .i64 0) := z1.cell 10
      have d11 : Y1.cell? ⟨gc, 11, none⟩ = some (.int .i64 0) := z1.cell 11
      have r0 : Y1.cell? ⟨w.heap.size, 0, none⟩ = some (.int .u8 0) := z7.cell 0
      have r1 : Y1.cell? ⟨w.heap.size, 1, none⟩ = some (.int .i64 0) := z7.cell 1
      have r2 : Y1.cell? ⟨w.heap.size, 2, none⟩ = some (.slice none 0 0) := z7.cell 2
      have r3 : Y1.cell? ⟨w.heap.size, 3, none⟩ = some (.int .i64 0) := z7.cell 3
      have r4 : Y1.cell? ⟨w.heap.size, 4, none⟩ = some (.string ⟨#[]⟩) := z7.cell 4
      have r5 : Y1.cell? ⟨w.heap.size, 5, none⟩ = some (.string ⟨#[]⟩) := z7.cell 5
      have r6 : Y1.cell? ⟨w.heap.size, 6, none⟩ = some (.int .i64 0) := z7.cell 6
      have r7 : Y1.cell? ⟨w.heap.size, 7, none⟩ = some (.int .i64 0) := z7.cell 7
      have r8 : Y1.cell? ⟨w.heap.size, 8, none⟩ = some (.slice none 0 0) := z7.cell 8
      have r9 : Y1.cell? ⟨w.heap.size, 9, none⟩ = some (.int .i64 0) := z7.cell 9
      have r10 : Y1.cell? ⟨w.heap.size, 10, none⟩ = some (.int .i64 0) := z7.cell 10
      have r11 : Y1.cell? ⟨w.heap.size, 11, none⟩ = some (.int .i64 0) := z7.cell 11
      have rf := z7.frozen
      clear z1 z2 z3 z4 z7
      go_wp2_with fail
      refine bodyPost_ret (v := .tuple #[.agg #[.int .u8 κ, .int .i64 0, .slice none 0 0, .int .i64 0, .string ⟨#[]⟩, .string ⟨#[]⟩, .int .i64 0, .int .i64 0, .slice A3 (r.length) c3, .int .i64 0, .int .i64 0, .int .i64 0], .slice A4 n4 c4, .bool true]) (by simp [results, Try.results56, go_sem, r0, r1, r2, r3, r4, r5, r6, r7, r8, r9, r10, r11]) rfl ⟨⟨(⟨κ, 0, none, 0, 0, [], 0, ⟨#[]⟩, ⟨#[]⟩, 0, 0, A3, r.length, c3, r, 0, 0, 0⟩ : HC), A4, n4, c4, true, rfl, fun _ => ⟨l0.drop k, EE.out, HLL.out, own12 Z2.out Z7.out _ _ _ _ _ _ _ _ _ _ _ _⟩, fun h => (by cases h)⟩, below_set12 Z4.out (Nat.le_refl _) _ _ _ _ _ _ _ _ _ _ _ _⟩
  · have HK := Lib.hid h
    clear h
    have q1 : (κ == 1) = false := beq_eq_false_iff_ne.2 (by have := HK.out; omega)
    have q2 : (κ == 2) = false := beq_eq_false_iff_ne.2 (by have := HK.out; omega)
    have q3 : (κ == 3) = false := beq_eq_false_iff_ne.2 (by have := HK.out; omega)
    have q4 : (κ == 4) = true := beq_iff_eq.2 (by have := HK.out; omega)
    have q5 : (κ == 5) = false := beq_eq_false_iff_ne.2 (by have := HK.out; omega)
    have q6 : (κ == 6) = false := beq_eq_false_iff_ne.2 (by have := HK.out; omega)
    have d0 : X0.cell? ⟨gc, 0, none⟩ = some (.int .u8 κ) := S0.out.1.cell 0
    obtain ⟨_, _, _, he, hrl, hl1, hl2, hl3⟩ := S0.out.2.2.1
    injection he with he1 he2 he3
    subst he1 he2 he3
    have HRL := Lib.hid hrl
    have hB0 : B ≤ X0.heap.size := by have := S0.out.2.2.2.1.size; omega
    clear hrl
    obtain ⟨F, hF⟩ : ∃ F, Wp.numsN 4 l0 = F := ⟨_, rfl⟩
    have HC := Lib.hid (rnumbers12_any A2 n2 c2 4 l0 X0 F hF B hB0 HRL.out hl1 hl2 (by omega) (by omega))
    have HNU := Lib.hid (Cp.rdF_nums [.i, .tp, .who, .n] (Cp.zeroC κ) l0 (by intro f hf; simp only [List.mem_cons, List.not_mem_nil, or_false] at hf; rcases hf with rfl | rfl | rfl | rfl <;> rfl))
    have HF := Lib.hid hF
    clear hF
    go_wp2_with fail
    refine HC.out.mono ?_
    rintro e w2 hp
    clear d0 HC
    cases F with
    | none =>
      obtain ⟨rfl, hb⟩ := hp
      have S1 := Lib.hid (S0.out.below hb)
      have POST : Hid (Cp.readC l = none) := Cp.readC_bad (by rw [RC.out, HK.out, Cp.fields4]; have := HNU.out.2 HF.out; rw [HK.out] at this; exact this)
      clear hb
      go_upto_region 41 with fail
      obtain ⟨z1, z2, z3, z4, z5, z6, z7⟩ := S1.out
      have Z2 := Lib.hid z2
      have Z4 := Lib.hid z4
      have Z7 := Lib.hid z7
      have d0 : w2.cell? ⟨gc, 0, none⟩ = some (.int .u8 κ) := z1.cell 0
      have d1 : w2.cell? ⟨gc, 1, none⟩ = some (.int .i64 0) := z1.cell 1
      have d2 : w2.cell? ⟨gc, 2, none⟩ = some (.slice none 0 0) := z1.cell 2
      have d3 : w2.cell? ⟨gc, 3, none⟩ = some (.int .i64 0) := z1.cell 3
      have d4 : w2.cell? ⟨gc, 4, none⟩ = some (.string ⟨#[]⟩) := z1.cell 4
      have d5 : w2.cell? ⟨gc, 5, none⟩ = some (.string ⟨#[]⟩) := z1.cell 5
      have d6 : w2.cell? ⟨gc, 6, none⟩ = some (.int .i64 0) := z1.cell 6
      have d7 : w2.cell? ⟨gc, 7, none⟩ = some (.int .i64 0) := z1.cell 7
      have d8 : w2.cell? ⟨gc, 8, none⟩ = some (.slice none 0 0) := z1.cell 8
      have d9 : w2.cell? ⟨gc, 9, none⟩ = some (.int .i64 0) := z1.cell 9
      have d10 : w2.cell? ⟨gc, 10, none⟩ = some (.int .i64 0) := z1.cell 10
      have d11 : w2.cell? ⟨gc, 11, none⟩ = some (.int .i64 0) := z1.cell 11
      have r0 : w2.cell? ⟨w.heap.size, 0, none⟩ = some (.int .u8 0) := z7.cell 0
      have r1 : w2.cell? ⟨w.heap.size, 1, none⟩ = some (.int .i64 0) := z7.cell 1
      have r2 : w2.cell? ⟨w.heap.size, 2, none⟩ = some (.slice none 0 0) := z7.cell 2
      have r3 : w2.cell? ⟨w.heap.size, 3, none⟩ = some (.int .i64 0) := z7.cell 3
      have r4 : w2.cell? ⟨w.heap.size, 4, none⟩ = some (.string ⟨#[]⟩) := z7.cell 4
      have r5 : w2.cell? ⟨w.heap.size, 5, none⟩ = some (.string ⟨#[]⟩) := z7.cell 5
      have r6 : w2.cell? ⟨w.heap.size, 6, none⟩ = some (.int .i64 0) := z7.cell 6
      have r7 : w2.cell? ⟨w.heap.size, 7, none⟩ = some (.int .i64 0) := z7.cell 7
      have r8 : w2.cell? ⟨w.heap.size, 8, none⟩ = some (.slice none 0 0) := z7.cell 8
      have r9 : w2.cell? ⟨w.heap.size, 9, none⟩ = some (.int .i64 0) := z7.cell 9
      have r10 : w2.cell? ⟨w.heap.size, 10, none⟩ = some (.int .i64 0) := z7.cell 10
      have r11 : w2.cell? ⟨w.heap.size, 11, none⟩ = some (.int .i64 0) := z7.cell 11
      have rf := z7.frozen
      clear z1 z2 z3 z4 z7
      go_wp2_with fail
      refine bodyPost_ret (v := .tuple #[.agg #[.int .u8 κ, .int .i64 0, .slice none 0 0, .int .i64 0, .string ⟨#[]⟩, .string ⟨#[]⟩, .int .i64 0, .int .i64 0, .slice none 0 0, .int .i64 0, .int .i64 0, .int .i64 0], .slice none 0 0, .bool false]) (by simp [results, Try.results56, go_sem, r0, r1, r2, r3, r4, r5, r6, r7, r8, r9, r10, r11]) rfl ⟨⟨(⟨κ, 0, none, 0, 0, [], 0, ⟨#[]⟩, ⟨#[]⟩, 0, 0, none, 0, 0, [], 0, 0, 0⟩ : HC), none, 0, 0, false, rfl, fun h => (by cases h), fun _ => POST.out⟩, below_set12 Z4.out (Nat.le_refl _) _ _ _ _ _ _ _ _ _ _ _ _⟩
    | some p =>
      obtain ⟨xs, l1⟩ := p
      obtain ⟨A3, c3, A4, n4, c4, rfl, ho, hrl, hd1, hd2, hd3, hb⟩ := hp
      obtain ⟨hxl, hxi⟩ := numsN_in HF.out
      obtain ⟨a, b, cc, dd, rfl⟩ := len4 hxl
      have HXI := Lib.hid hxi
      obtain ⟨g2, cs2, rfl, hbk, hcs⟩ := own_get ho (by omega)
      have S1 := Lib.hid (S0.out.below hb)
      have G2 := Lib.hid hbk
      have CS := Lib.hid hcs
      have E1 := Lib.hid (HNU.out.1 _ _ HF.out)
      have HLL := Lib.hid hrl.len_b
      clear hb hrl hbk hcs hxl hxi ho hd1 hd2 hd3 HNU
      have gne : gc ≠ g2 := Blk.ne_ S1.out.1 G2.out (by decide)
      have gne2 : g2 ≠ gc := Ne.symm gne
      have y0 : w2.cell? ⟨g2, 0, none⟩ = some (.int .i64 a) := (G2.out.cell 0).trans (CS.out 0 _ rfl)
      have e0 := S1.out.1.cell 6
      have f0 := S1.out.1.frozen 6
      go_upto_region 31 with fail
      have S2 : Hid (PS w B gc (⟨κ, 0, none, 0, 0, [], 0, ⟨#[]⟩, ⟨#[]⟩, a, 0, none, 0, 0, [], 0, 0, 0⟩ : HC) l0 (.slice A2 n2 c2) (w2.setCell ⟨gc, 6, none⟩ (.int .i64 a))) := PS.set_ S1.out rfl (fun ho => ⟨ho.og, ho.om, ho.kk, ho.bk, ho.bb, ho.ig, ho.im, ho.a1, ho.a2, HXI.out a (by simp), ho.a4, ho.a5, ho.a6, ho.a7⟩)
      replace G2 := Lib.hid (G2.out.far (p := ⟨gc, 6, none⟩) gne2 (.int .i64 a))
      clear y0 e0 f0 S1
      generalize w2.setCell ⟨gc, 6, none⟩ (.int .i64 a) = Y1 at *
      have y1 : Y1.cell? ⟨g2, 1, none⟩ = some (.int .i64 b) := (G2.out.cell 1).trans (CS.out 1 _ rfl)
      have e1 := S2.out.1.cell 9
      have f1 := S2.out.1.frozen 9
      go_upto_region 32 with fail
      have S3 : Hid (PS w B gc (⟨κ, 0, none, 0, 0, [], 0, ⟨#[]⟩, ⟨#[]⟩, a, 0, none, 0, 0, [], b, 0, 0⟩ : HC) l0 (.slice A2 n2 c2) (Y1.setCell ⟨gc, 9, none⟩ (.int .i64 b))) := PS.set_ S2.out rfl (fun ho => ⟨ho.og, ho.om, ho.kk, ho.bk, ho.bb, ho.ig, ho.im, ho.a1, ho.a2, ho.a3, ho.a4, HXI.out b (by simp), ho.a6, ho.a7⟩)
      replace G2 := Lib.hid (G2.out.far (p := ⟨gc, 9, none⟩) gne2 (.int .i64 b))
      clear y1 e1 f1 S2
      generalize Y1.setCell ⟨gc, 9, none⟩ (.int .i64 b) = Y2 at *
      have y2 : Y2.cell? ⟨g2, 2, none⟩ = some (.int .i64 cc) := (G2.out.cell 2).trans (CS.out 2 _ rfl)
      have e2 := S3.out.1.cell 10
      have f2 := S3.out.1.frozen 10
      go_upto_region 33 with fail
      have S4 : Hid (PS w B gc (⟨κ, 0, none, 0, 0, [], 0, ⟨#[]⟩, ⟨#[]⟩, a, 0, none, 0, 0, [], b, cc, 0⟩ : HC) l0 (.slice A2 n2 c2) (Y2.setCell ⟨gc, 10, none⟩ (.int .i64 cc))) := PS.set_ S3.out rfl (fun ho => ⟨ho.og, ho.om, ho.kk, ho.bk, ho.bb, ho.ig, ho.im, ho.a1, ho.a2, ho.a3, ho.a4, ho.a5, HXI.out cc (by simp), ho.a7⟩)
      replace G2 := Lib.hid (G2.out.far (p := ⟨gc, 10, none⟩) gne2 (.int .i64 cc))
      clear y2 e2 f2 S3
      generalize Y2.setCell ⟨gc, 10, none⟩ (.int .i64 cc) = Y3 at *
      have y3 : Y3.cell? ⟨g2, 3, none⟩ = some (.int .i64 dd) := (G2.out.cell 3).trans (CS.out 3 _ rfl)
      have e3 := S4.out.1.cell 11
      have f3 := S4.out.1.frozen 11
      go_upto_region 41 with fail
      have S5 : Hid (PS w B gc (⟨κ, 0, none, 0, 0, [], 0, ⟨#[]⟩, ⟨#[]⟩, a, 0, none, 0, 0, [], b, cc, dd⟩ : HC) l0 (.slice A2 n2 c2) (Y3.setCell ⟨gc, 11, none⟩ (.int .i64 dd))) := PS.set_ S4.out rfl (fun ho => ⟨ho.og, ho.om, ho.kk, ho.bk, ho.bb, ho.ig, ho.im, ho.a1, ho.a2, ho.a3, ho.a4, ho.a5, ho.a6, HXI.out dd (by simp)⟩)
      replace G2 := Lib.hid (G2.out.far (p := ⟨gc, 11, none⟩) gne2 (.int .i64 dd))
      clear y3 e3 f3 S4
      generalize Y3.setCell ⟨gc, 11, none⟩ (.int .i64 dd) = Y4 at *
      have EE : Hid (Cp.rdC l = (HC.cmd (⟨κ, 0, none, 0, 0, [], 0, ⟨#[]⟩, ⟨#[]⟩, a, 0, none, 0, 0, [], b, cc, dd⟩ : HC), (l1, false))) := by
        rw [Hid, RC.out, HK.out, Cp.fields4]
        have := E1.out
        rw [HK.out] at this
        rw [this]
        rfl
      obtain ⟨z1, z2, z3, z4, z5, z6, z7⟩ := S5.out
      have Z2 := Lib.hid z2
      have Z4 := Lib.hid z4
      have Z7 := Lib.hid z7
      have d0 : Y4.cell? ⟨gc, 0, none⟩ = some (.int .u8 κ) := z1.cell 0
      have d1 : Y4.cell? ⟨gc, 1, none⟩ = some (.int .i64 0) := z1.cell 1
      have d2 : Y4.cell? ⟨gc, 2, none⟩ = some (.slice none 0 0) := z1.cell 2
      have d3 : Y4.cell? ⟨gc, 3, none⟩ = some (.int .i64 0) := z1.cell 3
      have d4 : Y4.cell? ⟨gc, 4, none⟩ = some (.string ⟨#[]⟩) := z1.cell 4
      have d5 : Y4.cell? ⟨gc, 5, none⟩ = some (.string ⟨#[]⟩) := z1.cell 5
      have d6 : Y4.cell? ⟨gc, 6, none⟩ = some (.int .i64 a) := z1.cell 6
      have d7 : Y4.cell? ⟨gc, 7, none⟩ = some (.int .i64 0) := z1.cell 7
      have d8 : Y4.cell? ⟨gc, 8, none⟩ = some (.slice none 0 0) := z1.cell 8
      have d9 : Y4.cell? ⟨gc, 9, none⟩ = some (.int .i64 b) := z1.cell 9
      have d10 : Y4.cell? ⟨gc, 10, none⟩ = some (.int .i64 cc) := z1.cell 10
      have d11 : Y4.cell? ⟨gc, 11, none⟩ = some (.int .i64 dd) := z1.cell 11
      have r0 : Y4.cell? ⟨w.heap.size, 0, none⟩ = some (.int .u8 0) := z7.cell 0
      have r1 : Y4.cell? ⟨w.heap.size, 1, none⟩ = some (.int .i64 0) := z7.cell 1
      have r2 : Y4.cell? ⟨w.heap.size, 2, none⟩ = some (.slice none 0 0) := z7.cell 2
      have r3 : Y4.cell? ⟨w.heap.size, 3, none⟩ = some (.int .i64 0) := z7.cell 3
      have r4 : Y4.cell? ⟨w.heap.size, 4, none⟩ = some (.string ⟨#[]⟩) := z7.cell 4
      have r5 : Y4.cell? ⟨w.heap.size, 5, none⟩ = some (.string ⟨#[]⟩) := z7.cell 5
      have r6 : Y4.cell? ⟨w.heap.size, 6, none⟩ = some (.int .i64 0) := z7.cell 6
      have r7 : Y4.cell? ⟨w.heap.size, 7, none⟩ = some (.int .i64 0) := z7.cell 7
      have r8 : Y4.cell? ⟨w.heap.size, 8, none⟩ = some (.slice none 0 0) := z7.cell 8
      have r9 : Y4.cell? ⟨w.heap.size, 9, none⟩ = some (.int .i64 0) := z7.cell 9
      have r10 : Y4.cell? ⟨w.heap.size, 10, none⟩ = some (.int .i64 0) := z7.cell 10
      have r11 : Y4.cell? ⟨w.heap.size, 11, none⟩ = some (.int .i64 0) := z7.cell 11
      have rf := z7.frozen
      clear z1 z2 z3 z4 z7
      go_wp2_with fail
      refine bodyPost_ret (v := .tuple #[.agg #[.int .u8 κ, .int .i64 0, .slice none 0 0, .int .i64 0, .string ⟨#[]⟩, .string ⟨#[]⟩, .int .i64 a, .int .i64 0, .slice none 0 0, .int .i64 b, .int .i64 cc, .int .i64 dd], .slice A4 n4 c4, .bool true]) (by simp [results, Try.results56, go_sem, r0, r1, r2, r3, r4, r5, r6, r7, r8, r9, r10, r11]) rfl ⟨⟨(⟨κ, 0, none, 0, 0, [], 0, ⟨#[]⟩, ⟨#[]⟩, a, 0, none, 0, 0, [], b, cc, dd⟩ : HC), A4, n4, c4, true, rfl, fun _ => ⟨l1, EE.out, HLL.out, own12 Z2.out Z7.out _ _ _ _ _ _ _ _ _ _ _ _⟩, fun h => (by cases h)⟩, below_set12 Z4.out (Nat.le_refl _) _ _ _ _ _ _ _ _ _ _ _ _⟩
  · have HK := Lib.hid h
    clear h
    have q1 : (κ == 1) = false := beq_eq_false_iff_ne.2 (by have := HK.out; omega)
    have q2 : (κ == 2) = false := beq_eq_false_iff_ne.2 (by have := HK.out; omega)
    have q3 : (κ == 3) = false := beq_eq_false_iff_ne.2 (by have := HK.out; omega)
    have q4 : (κ == 4) = false := beq_eq_false_iff_ne.2 (by have := HK.out; omega)
    have q5 : (κ == 5) = true := beq_iff_eq.2 (by have := HK.out; omega)
    have q6 : (κ == 6) = false := beq_eq_false_iff_ne.2 (by have := HK.out; omega)
    have d0 : X0.cell? ⟨gc, 0, none⟩ = some (.int .u8 κ) := S0.out.1.cell 0
    obtain ⟨_, _, _, he, hrl, hl1, hl2, hl3⟩ := S0.out.2.2.1
    injection he with he1 he2 he3
    subst he1 he2 he3
    have HRL := Lib.hid hrl
    have hB0 : B ≤ X0.heap.size := by have := S0.out.2.2.2.1.size; omega
    clear hrl
    obtain ⟨F, hF⟩ : ∃ F, Wp.numsN 3 l0 = F := ⟨_, rfl⟩
    have HC := Lib.hid (rnumbers12_any A2 n2 c2 3 l0 X0 F hF B hB0 HRL.out hl1 hl2 (by omega) (by omega))
    have HNU := Lib.hid (Cp.rdF_nums [.i, .tp, .n] (Cp.zeroC κ) l0 (by intro f hf; simp only [List.mem_cons, List.not_mem_nil, or_false] at hf; rcases hf with rfl | rfl | rfl <;> rfl))
    have HF := Lib.hid hF
    clear hF
    go_wp2_with fail
    refine HC.out.mono ?_
    rintro e w2 hp
    clear d0 HC
    cases F with
    | none =>
      obtain ⟨rfl, hb⟩ := hp
      have S1 := Lib.hid (S0.out.below hb)
      have POST : Hid (Cp.readC l = none) := Cp.readC_bad (by rw [RC.out, HK.out, Cp.fields5]; have := HNU.out.2 HF.out; rw [HK.out] at this; exact this)
      clear hb
      go_upto_region 41 with fail
      obtain ⟨z1, z2, z3, z4, z5, z6, z7⟩ := S1.out
      have Z2 := Lib.hid z2
      have Z4 := Lib.hid z4
      have Z7 := Lib.hid z7
      have d0 : w2.cell? ⟨gc, 0, none⟩ = some (.int .u8 κ) := z1.cell 0
      have d1 : w2.cell? ⟨gc, 1, none⟩ = some (.int .i64 0) := z1.cell 1
      have d2 : w2.cell? ⟨gc, 2, none⟩ = some (.slice none 0 0) := z1.cell 2
      have d3 : w2.cell? ⟨gc, 3, none⟩ = some (.int .i64 0) := z1.cell 3
      have d4 : w2.cell? ⟨gc, 4, none⟩ = some (.string ⟨#[]⟩) := z1.cell 4
      have d5 : w2.cell? ⟨gc, 5, none⟩ = some (.string ⟨#[]⟩) := z1.cell 5
      have d6 : w2.cell? ⟨gc, 6, none⟩ = some (.int .i64 0) := z1.cell 6
      have d7 : w2.cell? ⟨gc, 7, none⟩ = some (.int .i64 0) := z1.cell 7
      have d8 : w2.cell? ⟨gc, 8, none⟩ = some (.slice none 0 0) := z1.cell 8
      have d9 : w2.cell? ⟨gc, 9, none⟩ = some (.int .i64 0) := z1.cell 9
      have d10 : w2.cell? ⟨gc, 10, none⟩ = some (.int .i64 0) := z1.cell 10
      have d11 : w2.cell? ⟨gc, 11, none⟩ = some (.int .i64 0) := z1.cell 11
      have r0 : w2.cell? ⟨w.heap.size, 0, none⟩ = some (.int .u8 0) := z7.cell 0
      have r1 : w2.cell? ⟨w.heap.size, 1, none⟩ = some (.int .i64 0) := z7.cell 1
      have r2 : w2.cell? ⟨w.heap.size, 2, none⟩ = some (.slice none 0 0) := z7.cell 2
      have r3 : w2.cell? ⟨w.heap.size, 3, none⟩ = some (.int .i64 0) := z7.cell 3
      have r4 : w2.cell? ⟨w.heap.size, 4, none⟩ = some (.string ⟨#[]⟩) := z7.cell 4
      have r5 : w2.cell? ⟨w.heap.size, 5, none⟩ = some (.string ⟨#[]⟩) := z7.cell 5
      have r6 : w2.cell? ⟨w.heap.size, 6, none⟩ = some (.int .i64 0) := z7.cell 6
      have r7 : w2.cell? ⟨w.heap.size, 7, none⟩ = some (.int .i64 0) := z7.cell 7
      have r8 : w2.cell? ⟨w.heap.size, 8, none⟩ = some (.slice none 0 0) := z7.cell 8
      have r9 : w2.cell? ⟨w.heap.size, 9, none⟩ = some (.int .i64 0) := z7.cell 9
      have r10 : w2.cell? ⟨w.heap.size, 10, none⟩ = some (.int .i64 0) := z7.cell 10
      have r11 : w2.cell? ⟨w.heap.size, 11, none⟩ = some (.int .i64 0) := z7.cell 11
      have rf := z7.frozen
      clear z1 z2 z3 z4 z7
      go_wp2_with fail
      refine bodyPost_ret (v := .tuple #[.agg #[.int .u8 κ, .int .i64 0, .slice none 0 0, .int .i64 0, .string ⟨#[]⟩, .string ⟨#[]⟩, .int .i64 0, .int .i64 0, .slice none 0 0, .int .i64 0, .int .i64 0, .int .i64 0], .slice none 0 0, .bool false]) (by simp [results, Try.results56, go_sem, r0, r1, r2, r3, r4, r5, r6, r7, r8, r9, r10, r11]) rfl ⟨⟨(⟨κ, 0, none, 0, 0, [], 0, ⟨#[]⟩, ⟨#[]⟩, 0, 0, none, 0, 0, [], 0, 0, 0⟩ : HC), none, 0, 0, false, rfl, fun h => (by cases h), fun _ => POST.out⟩, below_set12 Z4.out (Nat.le_refl _) _ _ _ _ _ _ _ _ _ _ _ _⟩
    | some p =>
      obtain ⟨xs, l1⟩ := p
      obtain ⟨A3, c3, A4, n4, c4, rfl, ho, hrl, hd1, hd2, hd3, hb⟩ := hp
      obtain ⟨hxl, hxi⟩ := numsN_in HF.out
      obtain ⟨a, b, cc, rfl⟩ := len3 hxl
      have HXI := Lib.hid hxi
      obtain ⟨g2, cs2, rfl, hbk, hcs⟩ := own_get ho (by omega)
      have S1 := Lib.hid (S0.out.below hb)
      have G2 := Lib.hid hbk
      have CS := Lib.hid hcs
      have E1 := Lib.hid (HNU.out.1 _ _ HF.out)
      have HLL := Lib.hid hrl.len_b
      clear hb hrl hbk hcs hxl hxi ho hd1 hd2 hd3 HNU
      have gne : gc ≠ g2 := Blk.ne_ S1.out.1 G2.out (by decide)
      have gne2 : g2 ≠ gc := Ne.symm gne
      have y0 : w2.cell? ⟨g2, 0, none⟩ = some (.int .i64 a) := (G2.out.cell 0).trans (CS.out 0 _ rfl)
      have e0 := S1.out.1.cell 6
      have f0 := S1.out.1.frozen 6
      go_upto_region 39 with fail
      have S2 : Hid (PS w B gc (⟨κ, 0, none, 0, 0, [], 0, ⟨#[]⟩, ⟨#[]⟩, a, 0, none, 0, 0, [], 0, 0, 0⟩ : HC) l0 (.slice A2 n2 c2) (w2.setCell ⟨gc, 6, none⟩ (.int .i64 a))) := PS.set_ S1.out rfl (fun ho => ⟨ho.og, ho.om, ho.kk, ho.bk, ho.bb, ho.ig, ho.im, ho.a1, ho.a2, HXI.out a (by simp), ho.a4, ho.a5, ho.a6, ho.a7⟩)
      replace G2 := Lib.hid (G2.out.far (p := ⟨gc, 6, none⟩) gne2 (.int .i64 a))
      clear y0 e0 f0 S1
      generalize w2.setCell ⟨gc, 6, none⟩ (.int .i64 a) = Y1 at *
      have y1 : Y1.cell? ⟨g2, 1, none⟩ = some (.int .i64 b) := (G2.out.cell 1).trans (CS.out 1 _ rfl)
      have e1 := S2.out.1.cell 9
      have f1 := S2.out.1.frozen 9
      go_upto_region 40 with fail
      have S3 : Hid (PS w B gc (⟨κ, 0, none, 0, 0, [], 0, ⟨#[]⟩, ⟨#[]⟩, a, 0, none, 0, 0, [], b, 0, 0⟩ : HC) l0 (.slice A2 n2 c2) (Y1.setCell ⟨gc, 9, none⟩ (.int .i64 b))) := PS.set_ S2.out rfl (fun ho => ⟨ho.og, ho.om, ho.kk, ho.bk, ho.bb, ho.ig, ho.im, ho.a1, ho.a2, ho.a3, ho.a4, HXI.out b (by simp), ho.a6, ho.a7⟩)
      replace G2 := Lib.hid (G2.out.far (p := ⟨gc, 9, none⟩) gne2 (.int .i64 b))
      clear y1 e1 f1 S2
      generalize Y1.setCell ⟨gc, 9, none⟩ (.int .i64 b) = Y2 at *
      have y2 : Y2.cell? ⟨g2, 2, none⟩ = some (.int .i64 cc) := (G2.out.cell 2).trans (CS.out 2 _ rfl)
      have e2 := S3.out.1.cell 11
      have f2 := S3.out.1.frozen 11
      go_upto_region 41 with fail
      have S4 : Hid (PS w B gc (⟨κ, 0, none, 0, 0, [], 0, ⟨#[]⟩, ⟨#[]⟩, a, 0, none, 0, 0, [], b, 0, cc⟩ : HC) l0 (.slice A2 n2 c2) (Y2.setCell ⟨gc, 11, none⟩ (.int .i64 cc))) := PS.set_ S3.out rfl (fun ho => ⟨ho.og, ho.om, ho.kk, ho.bk, ho.bb, ho.ig, ho.im, ho.a1, ho.a2, ho.a3, ho.a4, ho.a5, ho.a6, HXI.out cc (by simp)⟩)
      replace G2 := Lib.hid (G2.out.far (p := ⟨gc, 11, none⟩) gne2 (.int .i64 cc))
      clear y2 e2 f2 S3
      generalize Y2.setCell ⟨gc, 11, none⟩ (.int .i64 cc) = Y3 at *
      have EE : Hid (Cp.rdC l = (HC.cmd (⟨κ, 0, none, 0, 0, [], 0, ⟨#[]⟩, ⟨#[]⟩, a, 0, none, 0, 0, [], b, 0, cc⟩ : HC), (l1, false))) := by
        rw [Hid, RC.out, HK.out, Cp.fields5]
        have := E1.out
        rw [HK.out] at this
        rw [this]
        rfl
      obtain ⟨z1, z2, z3, z4, z5, z6, z7⟩ := S4.out
      have Z2 := Lib.hid z2
      have Z4 := Lib.hid z4
      have Z7 := Lib.hid z7
      have d0 : Y3.cell? ⟨gc, 0, none⟩ = some (.int .u8 κ) := z1.cell 0
      have d1 : Y3.cell? ⟨gc, 1, none⟩ = some (.int .i64 0) := z1.cell 1
      have d2 : Y3.cell? ⟨gc, 2, none⟩ = some (.slice none 0 0) := z1.cell 2
      have d3 : Y3.cell? ⟨gc, 3, none⟩ = some (.int .i64 0) := z1.cell 3
      have d4 : Y3.cell? ⟨gc, 4, none⟩ = some (.string ⟨#[]⟩) := z1.cell 4
      have d5 : Y3.cell? ⟨gc, 5, none⟩ = some (.string ⟨#[]⟩) := z1.cell 5
      have d6 : Y3.cell? ⟨gc, 6, none⟩ = some (.int .i64 a) := z1.cell 6
      have d7 : Y3.cell? ⟨gc, 7, none⟩ = some (.int .i64 0) := z1.cell 7
      have d8 : Y3.cell? ⟨gc, 8, none⟩ = some (.slice none 0 0) := z1.cell 8
      have d9 : Y3.cell? ⟨gc, 9, none⟩ = some (.int .i64 b) := z1.cell 9
      have d10 : Y3.cell? ⟨gc, 10, none⟩ = some (.int .i64 0) := z1.cell 10
      have d11 : Y3.cell? ⟨gc, 11, none⟩ = some (.int .i64 cc) := z1.cell 11
      have r0 : Y3.cell? ⟨w.heap.size, 0, none⟩ = some (.int .u8 0) := z7.cell 0
      have r1 : Y3.cell? ⟨w.heap.size, 1, none⟩ = some (.int .i64 0) := z7.cell 1
      have r2 : Y3.cell? ⟨w.heap.size, 2, none⟩ = some (.slice none 0 0) := z7.cell 2
      have r3 : Y3.cell? ⟨w.heap.size, 3, none⟩ = some (.int .i64 0) := z7.cell 3
      have r4 : Y3.cell? ⟨w.heap.size, 4, none⟩ = some (.string ⟨#[]⟩) := z7.cell 4
      have r5 : Y3.cell? ⟨w.heap.size, 5, none⟩ = some (.string ⟨#[]⟩) := z7.cell 5
      have r6 : Y3.cell? ⟨w.heap.size, 6, none⟩ = some (.int .i64 0) := z7.cell 6
      have r7 : Y3.cell? ⟨w.heap.size, 7, none⟩ = some (.int .i64 0) := z7.cell 7
      have r8 : Y3.cell? ⟨w.heap.size, 8, none⟩ = some (.slice none 0 0) := z7.cell 8
      have r9 : Y3.cell? ⟨w.heap.size, 9, none⟩ = some (.int .i64 0) := z7.cell 9
      have r10 : Y3.cell? ⟨w.heap.size, 10, none⟩ = some (.int .i64 0) := z7.cell 10
      have r11 : Y3.cell? ⟨w.heap.size, 11, none⟩ = some (.int .i64 0) := z7.cell 11
      have rf := z7.frozen
      clear z1 z2 z3 z4 z7
      go_wp2_with fail
      refine bodyPost_ret (v := .tuple #[.agg #[.int .u8 κ, .int .i64 0, .slice none 0 0, .int .i64 0, .string ⟨#[]⟩, .string ⟨#[]⟩, .int .i64 a, .int .i64 0, .slice none 0 0, .int .i64 b, .int .i64 0, .int .i64 cc], .slice A4 n4 c4, .bool true]) (by simp [results, Try.results56, go_sem, r0, r1, r2, r3, r4, r5, r6, r7, r8, r9, r10, r11]) rfl ⟨⟨(⟨κ, 0, none, 0, 0, [], 0, ⟨#[]⟩, ⟨#[]⟩, a, 0, none, 0, 0, [], b, 0, cc⟩ : HC), A4, n4, c4, true, rfl, fun _ => ⟨l1, EE.out, HLL.out, own12 Z2.out Z7.out _ _ _ _ _ _ _ _ _ _ _ _⟩, fun h => (by cases h)⟩, below_set12 Z4.out (Nat.le_refl _) _ _ _ _ _ _ _ _ _ _ _ _⟩
  · have HK := Lib.hid h
    clear h
    have q1 : (κ == 1) = false := beq_eq_false_iff_ne.2 (by have := HK.out; omega)
    have q2 : (κ == 2) = false := beq_eq_false_iff_ne.2 (by have := HK.out; omega)
    have q3 : (κ == 3) = false := beq_eq_false_iff_ne.2 (by have := HK.out; omega)
    have q4 : (κ == 4) = false := beq_eq_false_iff_ne.2 (by have := HK.out; omega)
    have q5 : (κ == 5) = false := beq_eq_false_iff_ne.2 (by have := HK.out; omega)
    have q6 : (κ == 6) = true := beq_iff_eq.2 (by have := HK.out; omega)
    have d0 : X0.cell? ⟨gc, 0, none⟩ = some (.int .u8 κ) := S0.out.1.cell 0
    obtain ⟨_, _, _, he, hrl, hl1, hl2, hl3⟩ := S0.out.2.2.1
    injection he with he1 he2 he3
    subst he1 he2 he3
    have HRL := Lib.hid hrl
    have hB0 : B ≤ X0.heap.size := by have := S0.out.2.2.2.1.size; omega
    clear hrl
    obtain ⟨F, hF⟩ : ∃ F, Wp.numsN 3 l0 = F := ⟨_, rfl⟩
    have HC := Lib.hid (rnumbers12_any A2 n2 c2 3 l0 X0 F hF B hB0 HRL.out hl1 hl2 (by omega) (by omega))
    have HNU := Lib.hid (Cp.rdF_nums [.i, .tp, .n] (Cp.zeroC κ) l0 (by intro f hf; simp only [List.mem_cons, List.not_mem_nil, or_false] at hf; rcases hf with rfl | rfl | rfl <;> rfl))
    have HF := Lib.hid hF
    clear hF
    go_wp2_with fail
    refine HC.out.mono ?_
    rintro e w2 hp
    clear d0 HC
    cases F with
    | none =>
      obtain ⟨rfl, hb⟩ := hp
      have S1 := Lib.hid (S0.out.below hb)
      have POST : Hid (Cp.readC l = none) := Cp.readC_bad (by rw [RC.out, HK.out, Cp.fields6]; have := HNU.out.2 HF.out; rw [HK.out] at this; exact this)
      clear hb
      go_upto_region 41 with fail
      obtain ⟨z1, z2, z3, z4, z5, z6, z7⟩ := S1.out
      have Z2 := Lib.hid z2
      have Z4 := Lib.hid z4
      have Z7 := Lib.hid z7
      have d0 : w2.cell? ⟨gc, 0, none⟩ = some (.int .u8 κ) := z1.cell 0
      have d1 : w2.cell? ⟨gc, 1, none⟩ = some (.int .i64 0) := z1.cell 1
      have d2 : w2.cell? ⟨gc, 2, none⟩ = some (.slice none 0 0) := z1.cell 2
      have d3 : w2.cell? ⟨gc, 3, none⟩ = some (.int .i64 0) := z1.cell 3
      have d4 : w2.cell? ⟨gc, 4, none⟩ = some (.string ⟨#[]⟩) := z1.cell 4
      have d5 : w2.cell? ⟨gc, 5, none⟩ = some (.string ⟨#[]⟩) := z1.cell 5
      have d6 : w2.cell? ⟨gc, 6, none⟩ = some (.int .i64 0) := z1.cell 6
      have d7 : w2.cell? ⟨gc, 7, none⟩ = some (.int .i64 0) := z1.cell 7
      have d8 : w2.cell? ⟨gc, 8, none⟩ = some (.slice none 0 0) := z1.cell 8
      have d9 : w2.cell? ⟨gc, 9, none⟩ = some (.int .i64 0) := z1.cell 9
      have d10 : w2.cell? ⟨gc, 10, none⟩ = some (.int .i64 0) := z1.cell 10
      have d11 : w2.cell? ⟨gc, 11, none⟩ = some (.int .i64 0) := z1.cell 11
      have r0 : w2.cell? ⟨w.heap.size, 0, none⟩ = some (.int .u8 0) := z7.cell 0
      have r1 : w2.cell? ⟨w.heap.size, 1, none⟩ = some (.int .i64 0) := z7.cell 1
      have r2 : w2.cell? ⟨w.heap.size, 2, none⟩ = some (.slice none 0 0) := z7.cell 2
      have r3 : w2.cell? ⟨w.heap.size, 3, none⟩ = some (.int .i64 0) := z7.cell 3
      have r4 : w2.cell? ⟨w.heap.size, 4, none⟩ = some (.string ⟨#[]⟩) := z7.cell 4
      have r5 : w2.cell? ⟨w.heap.size, 5, none⟩ = some (.string ⟨#[]⟩) := z7.cell 5
      have r6 : w2.cell? ⟨w.heap.size, 6, none⟩ = some (.int .i64 0) := z7.cell 6
      have r7 : w2.cell? ⟨w.heap.size, 7, none⟩ = some (.int .i64 0) := z7.cell 7
      have r8 : w2.cell? ⟨w.heap.size, 8, none⟩ = some (.slice none 0 0) := z7.cell 8
      have r9 : w2.cell? ⟨w.heap.size, 9, none⟩ = some (.int .i64 0) := z7.cell 9
      have r10 : w2.cell? ⟨w.heap.size, 10, none⟩ = some (.int .i64 0) := z7.cell 10
      have r11 : w2.cell? ⟨w.heap.size, 11, none⟩ = some (.int .i64 0) := z7.cell 11
      have rf := z7.frozen
      clear z1 z2 z3 z4 z7
      go_wp2_with fail
      refine bodyPost_ret (v := .tuple #[.agg #[.int .u8 κ, .int .i64 0, .slice none 0 0, .int .i64 0, .string ⟨#[]⟩, .string ⟨#[]⟩, .int .i64 0, .int .i64 0, .slice none 0 0, .int .i64 0, .int .i64 0, .int .i64 0], .slice none 0 0, .bool false]) (by simp [results, Try.results56, go_sem, r0, r1, r2, r3, r4, r5, r6, r7, r8, r9, r10, r11]) rfl ⟨⟨(⟨κ, 0, none, 0, 0, [], 0, ⟨#[]⟩, ⟨#[]⟩, 0, 0, none, 0, 0, [], 0, 0, 0⟩ : HC), none, 0, 0, false, rfl, fun h => (by cases h), fun _ => POST.out⟩, below_set12 Z4.out (Nat.le_refl _) _ _ _ _ _ _ _ _ _ _ _ _⟩
    | some p =>
      obtain ⟨xs, l1⟩ := p
      obtain ⟨A3, c3, A4, n4, c4, rfl, ho, hrl, hd1, hd2, hd3, hb⟩ := hp
      obtain ⟨hxl, hxi⟩ := numsN_in HF.out
      obtain ⟨a, b, cc, rfl⟩ := len3 hxl
      have HXI := Lib.hid hxi
      obtain ⟨g2, cs2, rfl, hbk, hcs⟩ := own_get ho (by omega)
      have S1 := Lib.hid (S0.out.below hb)
      have G2 := Lib.hid hbk
      have CS := Lib.hid hcs
      have E1 := Lib.hid (HNU.out.1 _ _ HF.out)
      have HLL := Lib.hid hrl.len_b
      clear hb hrl hbk hcs hxl hxi ho hd1 hd2 hd3 HNU
      have gne : gc ≠ g2 := Blk.ne_ S1.out.1 G2.out (by decide)
      have gne2 : g2 ≠ gc := Ne.symm gne
      have y0 : w2.cell? ⟨g2, 0, none⟩ = some (.int .i64 a) := (G2.out.cell 0).trans (CS.out 0 _ rfl)
      have e0 := S1.out.1.cell 6
      have f0 := S1.out.1.frozen 6
      go_upto_region 39 with fail
      have S2 : Hid (PS w B gc (⟨κ, 0, none, 0, 0, [], 0, ⟨#[]⟩, ⟨#[]⟩, a, 0, none, 0, 0, [], 0, 0, 0⟩ : HC) l0 (.slice A2 n2 c2) (w2.setCell ⟨gc, 6, none⟩ (.int .i64 a))) := PS.set_ S1.out rfl (fun ho => ⟨ho.og, ho.om, ho.kk, ho.bk, ho.bb, ho.ig, ho.im, ho.a1, ho.a2, HXI.out a (by simp), ho.a4, ho.a5, ho.a6, ho.a7⟩)
      replace G2 := Lib.hid (G2.out.far (p := ⟨gc, 6, none⟩) gne2 (.int .i64 a))
      clear y0 e0 f0 S1
      generalize w2.setCell ⟨gc, 6, none⟩ (.int .i64 a) = Y1 at *
      have y1 : Y1.cell? ⟨g2, 1, none⟩ = some (.int .i64 b) := (G2.out.cell 1).trans (CS.out 1 _ rfl)
      have e1 := S2.out.1.cell 9
      have f1 := S2.out.1.frozen 9
      go_upto_region 40 with fail
      have S3 : Hid (PS w B gc (⟨κ, 0, none, 0, 0, [], 0, ⟨#[]⟩, ⟨#[]⟩, a, 0, none, 0, 0, [], b, 0, 0⟩ : HC) l0 (.slice A2 n2 c2) (Y1.setCell ⟨gc, 9, none⟩ (.int .i64 b))) := PS.set_ S2.out rfl (fun ho => ⟨ho.og, ho.om, ho.kk, ho.bk, ho.bb, ho.ig, ho.im, ho.a1, ho.a2, ho.a3, ho.a4, HXI.out b (by simp), ho.a6, ho.a7⟩)
      replace G2 := Lib.hid (G2.out.far (p := ⟨gc, 9, none⟩) gne2 (.int .i64 b))
      clear y1 e1 f1 S2
      generalize Y1.setCell ⟨gc, 9, none⟩ (.int .i64 b) = Y2 at *
      have y2 : Y2.cell? ⟨g2, 2, none⟩ = some (.int .i64 cc) := (G2.out.cell 2).trans (CS.out 2 _ rfl)
      have e2 := S3.out.1.cell 11
      have f2 := S3.out.1.frozen 11
      go_upto_region 41 with fail
      have S4 : Hid (PS w B gc (⟨κ, 0, none, 0, 0, [], 0, ⟨#[]⟩, ⟨#[]⟩, a, 0, none, 0, 0, [], b, 0, cc⟩ : HC) l0 (.slice A2 n2 c2) (Y2.setCell ⟨gc, 11, none⟩ (.int .i64 cc))) := PS.set_ S3.out rfl (fun ho => ⟨ho.og, ho.om, ho.kk, ho.bk, ho.bb, ho.ig, ho.im, ho.a1, ho.a2, ho.a3, ho.a4, ho.a5, ho.a6, HXI.out cc (by simp)⟩)
      replace G2 := Lib.hid (G2.out.far (p := ⟨gc, 11, none⟩) gne2 (.int .i64 cc))
      clear y2 e2 f2 S3
      generalize Y2.setCell ⟨gc, 11, none⟩ (.int .i64 cc) = Y3 at *
      have EE : Hid (Cp.rdC l = (HC.cmd (⟨κ, 0, none, 0, 0, [], 0, ⟨#[]⟩, ⟨#[]⟩, a, 0, none, 0, 0, [], b, 0, cc⟩ : HC), (l1, false))) := by
        rw [Hid, RC.out, HK.out, Cp.fields6]
        have := E1.out
        rw [HK.out] at this
        rw [this]
        rfl
      obtain ⟨z1, z2, z3, z4, z5, z6, z7⟩ := S4.out
      have Z2 := Lib.hid z2
      have Z4 := Lib.hid z4
      have Z7 := Lib.hid z7
      have d0 : Y3.cell? ⟨gc, 0, none⟩ = some (.int .u8 κ) := z1.cell 0
      have d1 : Y3.cell? ⟨gc, 1, none⟩ = some (.int .i64 0) := z1.cell 1
      have d2 : Y3.cell? ⟨gc, 2, none⟩ = some (.slice none 0 0) := z1.cell 2
      have d3 : Y3.cell? ⟨gc, 3, none⟩ = some (.int .i64 0) := z1.cell 3
      have d4 : Y3.cell? ⟨gc, 4, none⟩ = some (.string ⟨#[]⟩) := z1.cell 4
      have d5 : Y3.cell? ⟨gc, 5, none⟩ = some (.string ⟨#[]⟩) := z1.cell 5
      have d6 : Y3.cell? ⟨gc, 6, none⟩ = some (.int .i64 a) := z1.cell 6
      have d7 : Y3.cell? ⟨gc, 7, none⟩ = some (.int .i64 0) := z1.cell 7
      have d8 : Y3.cell? ⟨gc, 8, none⟩ = some (.slice none 0 0) := z1.cell 8
      have d9 : Y3.cell? ⟨gc, 9, none⟩ = some (.int .i64 b) := z1.cell 9
      have d10 : Y3.cell? ⟨gc, 10, none⟩ = some (.int .i64 0) := z1.cell 10
      have d11 : Y3.cell? ⟨gc, 11, none⟩ = some (.int .i64 cc) := z1.cell 11
      have r0 : Y3.cell? ⟨w.heap.size, 0, none⟩ = some (.int .u8 0) := z7.cell 0
      have r1 : Y3.cell? ⟨w.heap.size, 1, none⟩ = some (.int .i64 0) := z7.cell 1
      have r2 : Y3.cell? ⟨w.heap.size, 2, none⟩ = some (.slice none 0 0) := z7.cell 2
      have r3 : Y3.cell? ⟨w.heap.size, 3, none⟩ = some (.int .i64 0) := z7.cell 3
      have r4 : Y3.cell? ⟨w.heap.size, 4, none⟩ = some (.string ⟨#[]⟩) := z7.cell 4
      have r5 : Y3.cell? ⟨w.heap.size, 5, none⟩ = some (.string ⟨#[]⟩) := z7.cell 5
      have r6 : Y3.cell? ⟨w.heap.size, 6, none⟩ = some (.int .i64 0) := z7.cell 6
      have r7 : Y3.cell? ⟨w.heap.size, 7, none⟩ = some (.int .i64 0) := z7.cell 7
      have r8 : Y3.cell? ⟨w.heap.size, 8, none⟩ = some (.slice none 0 0) := z7.cell 8
      have r9 : Y3.cell? ⟨w.heap.size, 9, none⟩ = some (.int .i64 0) := z7.cell 9
      have r10 : Y3.cell? ⟨w.heap.size, 10, none⟩ = some (.int .i64 0) := z7.cell 10
      have r11 : Y3.cell? ⟨w.heap.size, 11, none⟩ = some (.int .i64 0) := z7.cell 11
      have rf := z7.frozen
      clear z1 z2 z3 z4 z7
      go_wp2_with fail
      refine bodyPost_ret (v := .tuple #[.agg #[.int .u8 κ, .int .i64 0, .slice none 0 0, .int .i64 0, .string ⟨#[]⟩, .string ⟨#[]⟩, .int .i64 a, .int .i64 0, .slice none 0 0, .int .i64 b, .int .i64 0, .int .i64 cc], .slice A4 n4 c4, .bool true]) (by simp [results, Try.results56, go_sem, r0, r1, r2, r3, r4, r5, r6, r7, r8, r9, r10, r11]) rfl ⟨⟨(⟨κ, 0, none, 0, 0, [], 0, ⟨#[]⟩, ⟨#[]⟩, a, 0, none, 0, 0, [], b, 0, cc⟩ : HC), A4, n4, c4, true, rfl, fun _ => ⟨l1, EE.out, HLL.out, own12 Z2.out Z7.out _ _ _ _ _ _ _ _ _ _ _ _⟩, fun h => (by cases h)⟩, below_set12 Z4.out (Nat.le_refl _) _ _ _ _ _ _ _ _ _ _ _ _⟩
end Go.Proofs.Ytaoekfgeggopbaa

namespace Go.Proofs.Ytaoekfgeggopbaa
open Go.RowKit
set_option maxHeartbeats 8000000
set_option maxRecDepth 100000
set_option linter.unusedVariables false
set_option linter.unusedSimpArgs false

theorem rread12_any (s : ByteArray) (l : List UInt8) (w : World) (hs : s.size ≤ maxLen) (hl : s.data.toList = l) :
    Calls Try.prog 25 #[.string s] w fun e w' => ∃ (D : HC) (x : Int), e = .returned (.tuple #[.agg #[.int .u8 D.k, .int .i64 D.mi, .slice D.GA D.Gn D.Gc, .int .i64 D.mt, .string D.key, .string D.body, .int .i64 D.i, .int .i64 D.tm, .slice D.MA D.Mn D.Mc, .int .i64 D.tp, .int .i64 D.who, .int .i64 D.n], .int .i64 x]) ∧ (D.cmd, x) = Cp.readX l ∧ OwnC w' w.heap.size D ∧ Below w.heap.size w w' := by
  have hsz := size_data s
  rw [hl] at hsz
  obtain ⟨WZ, hWZ⟩ : ∃ WZ, w.alloc (.cells #[.int .u8 (zeroHC 0).k, .int .i64 (zeroHC 0).mi, .slice (zeroHC 0).GA (zeroHC 0).Gn (zeroHC 0).Gc, .int .i64 (zeroHC 0).mt, .string (zeroHC 0).key, .string (zeroHC 0).body, .int .i64 (zeroHC 0).i, .int .i64 (zeroHC 0).tm, .slice (zeroHC 0).MA (zeroHC 0).Mn (zeroHC 0).Mc, .int .i64 (zeroHC 0).tp, .int .i64 (zeroHC 0).who, .int .i64 (zeroHC 0).n] 26) = WZ := ⟨_, rfl⟩
  have KZ : Hid (Blk WZ w.heap.size 26 #[.int .u8 (zeroHC 0).k, .int .i64 (zeroHC 0).mi, .slice (zeroHC 0).GA (zeroHC 0).Gn (zeroHC 0).Gc, .int .i64 (zeroHC 0).mt, .string (zeroHC 0).key, .string (zeroHC 0).body, .int .i64 (zeroHC 0).i, .int .i64 (zeroHC 0).tm, .slice (zeroHC 0).MA (zeroHC 0).Mn (zeroHC 0).Mc, .int .i64 (zeroHC 0).tp, .int .i64 (zeroHC 0).who, .int .i64 (zeroHC 0).n]) := by rw [Hid, ← hWZ]; exact Blk.new w _ _
  have BZ : Hid (Below w.heap.size w WZ) := by rw [Hid, ← hWZ]; exact (Below.refl _ w).alloc (Nat.le_refl _) _
  have NZ : Hid (WZ.heap.size = w.heap.size + 1) := by rw [Hid, ← hWZ]; simp
  have HWZ : Hid (w.alloc (.cells #[.int .u8 0, .int .i64 0, .slice none 0 0, .int .i64 0, .string ⟨#[]⟩, .string ⟨#[]⟩, .int .i64 0, .int .i64 0, .slice none 0 0, .int .i64 0, .int .i64 0, .int .i64 0] 26) = WZ) := hWZ
  have HL := Lib.hid hl
  have HSZ := Lib.hid hsz
  unfold maxLen at hs
  clear hWZ hl hsz
  by_cases hbig : (1024 : Int) < (s.size : Int)
  · go_enter Try.func25, Try.ntmps25
    go_upto_region 2 with fail
    rw [HWZ.out]
    have k0 : WZ.cell? ⟨w.heap.size, 0, none⟩ = some (.int .u8 0) := KZ.out.cell 0
    have k1 : WZ.cell? ⟨w.heap.size, 1, none⟩ = some (.int .i64 0) := KZ.out.cell 1
    have k2 : WZ.cell? ⟨w.heap.size, 2, none⟩ = some (.slice none 0 0) := KZ.out.cell 2
    have k3 : WZ.cell? ⟨w.heap.size, 3, none⟩ = some (.int .i64 0) := KZ.out.cell 3
    have k4 : WZ.cell? ⟨w.heap.size, 4, none⟩ = some (.string ⟨#[]⟩) := KZ.out.cell 4
    have k5 : WZ.cell? ⟨w.heap.size, 5, none⟩ = some (.string ⟨#[]⟩) := KZ.out.cell 5
    have k6 : WZ.cell? ⟨w.heap.size, 6, none⟩ = some (.int .i64 0) := KZ.out.cell 6
    have k7 : WZ.cell? ⟨w.heap.size, 7, none⟩ = some (.int .i64 0) := KZ.out.cell 7
    have k8 : WZ.cell? ⟨w.heap.size, 8, none⟩ = some (.slice none 0 0) := KZ.out.cell 8
    have k9 : WZ.cell? ⟨w.heap.size, 9, none⟩ = some (.int .i64 0) := KZ.out.cell 9
    have k10 : WZ.cell? ⟨w.heap.size, 10, none⟩ = some (.int .i64 0) := KZ.out.cell 10
    have k11 : WZ.cell? ⟨w.heap.size, 11, none⟩ = some (.int .i64 0) := KZ.out.cell 11
    have kf := KZ.out.frozen
    go_wp2_with fail
    refine bodyPost_ret (v := .tuple #[.agg #[.int .u8 0, .int .i64 0, .slice none 0 0, .int .i64 0, .string ⟨#[]⟩, .string ⟨#[]⟩, .int .i64 0, .int .i64 0, .slice none 0 0, .int .i64 0, .int .i64 0, .int .i64 0], .int .i64 3]) (by simp [results, Try.results25, go_sem, k0, k1, k2, k3, k4, k5, k6, k7, k8, k9, k10, k11]) rfl ⟨zeroHC 0, 3, rfl, (Cp.readX_long (by have := HSZ.out; omega)).symm, zeroHC_own _ _ (by omega), below_set12 BZ.out (Nat.le_refl _) _ _ _ _ _ _ _ _ _ _ _ _⟩
  have hcv := run_conv_to WZ s
  have R0 := convW_reads WZ s
  have hz := convW_size WZ s
  have hbw := convW_below WZ s
  have hq0 := convC_ge WZ s
  have hq1 := convC_le WZ s (by unfold maxLen; omega)
  unfold maxLen at hq1
  rw [HL.out] at R0
  generalize convW WZ s = W1 at *
  generalize convC WZ s = c0 at *
  rw [NZ.out] at hcv R0 hz hbw
  have KZ1 := Lib.hid (KZ.out.below hbw (by omega))
  have BZ1 := Lib.hid (BZ.out.trans (hbw.mono (by omega)))
  have NW : Hid (w.heap.size < W1.heap.size) := by rw [Hid, hz]; omega
  have HPA := Lib.hid (rparse_any (some ⟨w.heap.size + 1, 0, none⟩) s.size c0 l W1 _ (by rw [hz]; exact Nat.le_refl _) R0 hq0 hq1 (by omega))
  clear R0 hz hbw hq0 hq1 KZ BZ
  go_enter Try.func25, Try.ntmps25
  go_upto_region 3 with fail
  rw [HWZ.out]
  go_wp2_with fail
  refine HPA.out.mono ?_
  rintro e w2 ⟨⟨D, A, n, c, is, rfl, hyes, hno⟩, hb⟩
  have HY := Lib.hid hyes
  have HN := Lib.hid hno
  have K2 := Lib.hid (KZ1.out.below hb KZ1.out.lt)
  have B2 := Lib.hid (BZ1.out.trans (hb.mono BZ1.out.size))
  clear hyes hno hb KZ1 BZ1 hcv HPA HWZ
  have K3 := Lib.hid (K2.out.alloc (.cells #[.int .u8 D.k, .int .i64 D.mi, .slice D.GA D.Gn D.Gc, .int .i64 D.mt, .string D.key, .string D.body, .int .i64 D.i, .int .i64 D.tm, .slice D.MA D.Mn D.Mc, .int .i64 D.tp, .int .i64 D.who, .int .i64 D.n] 26))
  have B3 := Lib.hid (B2.out.alloc B2.out.size (.cells #[.int .u8 D.k, .int .i64 D.mi, .slice D.GA D.Gn D.Gc, .int .i64 D.mt, .string D.key, .string D.body, .int .i64 D.i, .int .i64 D.tm, .slice D.MA D.Mn D.Mc, .int .i64 D.tp, .int .i64 D.who, .int .i64 D.n] 26))
  have KD := Lib.hid (Blk.new w2 26 #[.int .u8 D.k, .int .i64 D.mi, .slice D.GA D.Gn D.Gc, .int .i64 D.mt, .string D.key, .string D.body, .int .i64 D.i, .int .i64 D.tm, .slice D.MA D.Mn D.Mc, .int .i64 D.tp, .int .i64 D.who, .int .i64 D.n])
  clear K2 B2
  have d0 : (w2.alloc (.cells #[.int .u8 D.k, .int .i64 D.mi, .slice D.GA D.Gn D.Gc, .int .i64 D.mt, .string D.key, .string D.body, .int .i64 D.i, .int .i64 D.tm, .slice D.MA D.Mn D.Mc, .int .i64 D.tp, .int .i64 D.who, .int .i64 D.n] 26)).cell? ⟨w2.heap.size, 0, none⟩ = some (.int .u8 D.k) := KD.out.cell 0
  have d1 : (w2.alloc (.cells #[.int .u8 D.k, .int .i64 D.mi, .slice D.GA D.Gn D.Gc, .int .i64 D.mt, .string D.key, .string D.body, .int .i64 D.i, .int .i64 D.tm, .slice D.MA D.Mn D.Mc, .int .i64 D.tp, .int .i64 D.who, .int .i64 D.n] 26)).cell? ⟨w2.heap.size, 1, none⟩ = some (.int .i64 D.mi) := KD.out.cell 1
  have d2 : (w2.alloc (.cells #[.int .u8 D.k, .int .i64 D.mi, .slice D.GA D.Gn D.Gc, .int .i64 D.mt, .string D.key, .string D.body, .int .i64 D.i, .int .i64 D.tm, .slice D.MA D.Mn D.Mc, .int .i64 D.tp, .int .i64 D.who, .int .i64 D.n] 26)).cell? ⟨w2.heap.size, 2, none⟩ = some (.slice D.GA D.Gn D.Gc) := KD.out.cell 2
  have d3 : (w2.alloc (.cells #[.int .u8 D.k, .int .i64 D.mi, .slice D.GA D.Gn D.Gc, .int .i64 D.mt, .string D.key, .string D.body, .int .i64 D.i, .int .i64 D.tm, .slice D.MA D.Mn D.Mc, .int .i64 D.tp, .int .i64 D.who, .int .i64 D.n] 26)).cell? ⟨w2.heap.size, 3, none⟩ = some (.int .i64 D.mt) := KD.out.cell 3
  have d4 : (w2.alloc (.cells #[.int .u8 D.k, .int .i64 D.mi, .slice D.GA D.Gn D.Gc, .int .i64 D.mt, .string D.key, .string D.body, .int .i64 D.i, .int .i64 D.tm, .slice D.MA D.Mn D.Mc, .int .i64 D.tp, .int .i64 D.who, .int .i64 D.n] 26)).cell? ⟨w2.heap.size, 4, none⟩ = some (.string D.key) := KD.out.cell 4
  have d5 : (w2.alloc (.cells #[.int .u8 D.k, .int .i64 D.mi, .slice D.GA D.Gn D.Gc, .int .i64 D.mt, .string D.key, .string D.body, .int .i64 D.i, .int .i64 D.tm, .slice D.MA D.Mn D.Mc, .int .i64 D.tp, .int .i64 D.who, .int .i64 D.n] 26)).cell? ⟨w2.heap.size, 5, none⟩ = some (.string D.body) := KD.out.cell 5
  have d6 : (w2.alloc (.cells #[.int .u8 D.k, .int .i64 D.mi, .slice D.GA D.Gn D.Gc, .int .i64 D.mt, .string D.key, .string D.body, .int .i64 D.i, .int .i64 D.tm, .slice D.MA D.Mn D.Mc, .int .i64 D.tp, .int .i64 D.who, .int .i64 D.n] 26)).cell? ⟨w2.heap.size, 6, none⟩ = some (.int .i64 D.i) := KD.out.cell 6
  have d7 : (w2.alloc (.cells #[.int .u8 D.k, .int .i64 D.mi, .slice D.GA D.Gn D.Gc, .int .i64 D.mt, .string D.key, .string D.body, .int .i64 D.i, .int .i64 D.tm, .slice D.MA D.Mn D.Mc, .int .i64 D.tp, .int .i64 D.who, .int .i64 D.n] 26)).cell? ⟨w2.heap.size, 7, none⟩ = some (.int .i64 D.tm) := KD.out.cell 7
  have d8 : (w2.alloc (.cells #[.int .u8 D.k, .int .i64 D.mi, .slice D.GA D.Gn D.Gc, .int .i64 D.mt, .string D.key, .string D.body, .int .i64 D.i, .int .i64 D.tm, .slice D.MA D.Mn D.Mc, .int .i64 D.tp, .int .i64 D.who, .int .i64 D.n] 26)).cell? ⟨w2.heap.size, 8, none⟩ = some (.slice D.MA D.Mn D.Mc) := KD.out.cell 8
  have d9 : (w2.alloc (.cells #[.int .u8 D.k, .int .i64 D.mi, .slice D.GA D.Gn D.Gc, .int .i64 D.mt, .string D.key, .string D.body, .int .i64 D.i, .int .i64 D.tm, .slice D.MA D.Mn D.Mc, .int .i64 D.tp, .int .i64 D.who, .int .i64 D.n] 26)).cell? ⟨w2.heap.size, 9, none⟩ = some (.int .i64 D.tp) := KD.out.cell 9
  have d10 : (w2.alloc (.cells #[.int .u8 D.k, .int .i64 D.mi, .slice D.GA D.Gn D.Gc, .int .i64 D.mt, .string D.key, .string D.body, .int .i64 D.i, .int .i64 D.tm, .slice D.MA D.Mn D.Mc, .int .i64 D.tp, .int .i64 D.who, .int .i64 D.n] 26)).cell? ⟨w2.heap.size, 10, none⟩ = some (.int .i64 D.who) := KD.out.cell 10
  have d11 : (w2.alloc (.cells #[.int .u8 D.k, .int .i64 D.mi, .slice D.GA D.Gn D.Gc, .int .i64 D.mt, .string D.key, .string D.body, .int .i64 D.i, .int .i64 D.tm, .slice D.MA D.Mn D.Mc, .int .i64 D.tp, .int .i64 D.who, .int .i64 D.n] 26)).cell? ⟨w2.heap.size, 11, none⟩ = some (.int .i64 D.n) := KD.out.cell 11
  have k0 : (w2.alloc (.cells #[.int .u8 D.k, .int .i64 D.mi, .slice D.GA D.Gn D.Gc, .int .i64 D.mt, .string D.key, .string D.body, .int .i64 D.i, .int .i64 D.tm, .slice D.MA D.Mn D.Mc, .int .i64 D.tp, .int .i64 D.who, .int .i64 D.n] 26)).cell? ⟨w.heap.size, 0, none⟩ = some (.int .u8 0) := K3.out.cell 0
  have k1 : (w2.alloc (.cells #[.int .u8 D.k, .int .i64 D.mi, .slice D.GA D.Gn D.Gc, .int .i64 D.mt, .string D.key, .string D.body, .int .i64 D.i, .int .i64 D.tm, .slice D.MA D.Mn D.Mc, .int .i64 D.tp, .int .i64 D.who, .int .i64 D.n] 26)).cell? ⟨w.heap.size, 1, none⟩ = some (.int .i64 0) := K3.out.cell 1
  have k2 : (w2.alloc (.cells #[.int .u8 D.k, .int .i64 D.mi, .slice D.GA D.Gn D.Gc, .int .i64 D.mt, .string D.key, .string D.body, .int .i64 D.i, .int .i64 D.tm, .slice D.MA D.Mn D.Mc, .int .i64 D.tp, .int .i64 D.who, .int .i64 D.n] 26)).cell? ⟨w.heap.size, 2, none⟩ = some (.slice none 0 0) := K3.out.cell 2
  have k3 : (w2.alloc (.cells #[.int .u8 D.k, .int .i64 D.mi, .slice D.GA D.Gn D.Gc, .int .i64 D.mt, .string D.key, .string D.body, .int .i64 D.i, .int .i64 D.tm, .slice D.MA D.Mn D.Mc, .int .i64 D.tp, .int .i64 D.who, .int .i64 D.n] 26)).cell? ⟨w.heap.size, 3, none⟩ = some (.int .i64 0) := K3.out.cell 3
  have k4 : (w2.alloc (.cells #[.int .u8 D.k, .int .i64 D.mi, .slice D.GA D.Gn D.Gc, .int .i64 D.mt, .string D.key, .string D.body, .int .i64 D.i, .int .i64 D.tm, .slice D.MA D.Mn D.Mc, .int .i64 D.tp, .int .i64 D.who, .int .i64 D.n] 26)).cell? ⟨w.heap.size, 4, none⟩ = some (.string ⟨#[]⟩) := K3.out.cell 4
  have k5 : (w2.alloc (.cells #[.int .u8 D.k, .int .i64 D.mi, .slice D.GA D.Gn D.Gc, .int .i64 D.mt, .string D.key, .string D.body, .int .i64 D.i, .int .i64 D.tm, .slice D.MA D.Mn D.Mc, .int .i64 D.tp, .int .i64 D.who, .int .i64 D.n] 26)).cell? ⟨w.heap.size, 5, none⟩ = some (.string ⟨#[]⟩) := K3.out.cell 5
  have k6 : (w2.alloc (.cells #[.int .u8 D.k, .int .i64 D.mi, .slice D.GA D.Gn D.Gc, .int .i64 D.mt, .string D.key, .string D.body, .int .i64 D.i, .int .i64 D.tm, .slice D.MA D.Mn D.Mc, .int .i64 D.tp, .int .i64 D.who, .int .i64 D.n] 26)).cell? ⟨w.heap.size, 6, none⟩ = some (.int .i64 0) := K3.out.cell 6
  have k7 : (w2.alloc (.cells #[.int .u8 D.k, .int .i64 D.mi, .slice D.GA D.Gn D.Gc, .int .i64 D.mt, .string D.key, .string D.body, .int .i64 D.i, .int .i64 D.tm, .slice D.MA D.Mn D.Mc, .int .i64 D.tp, .int .i64 D.who, .int .i64 D.n] 26)).cell? ⟨w.heap.size, 7, none⟩ = some (.int .i64 0) := K3.out.cell 7
  have k8 : (w2.alloc (.cells #[.int .u8 D.k, .int .i64 D.mi, .slice D.GA D.Gn D.Gc, .int .i64 D.mt, .string D.key, .string D.body, .int .i64 D.i, .int .i64 D.tm, .slice D.MA D.Mn D.Mc, .int .i64 D.tp, .int .i64 D.who, .int .i64 D.n] 26)).cell? ⟨w.heap.size, 8, none⟩ = some (.slice none 0 0) := K3.out.cell 8
  have k9 : (w2.alloc (.cells #[.int .u8 D.k, .int .i64 D.mi, .slice D.GA D.Gn D.Gc, .int .i64 D.mt, .string D.key, .string D.body, .int .i64 D.i, .int .i64 D.tm, .slice D.MA D.Mn D.Mc, .int .i64 D.tp, .int .i64 D.who, .int .i64 D.n] 26)).cell? ⟨w.heap.size, 9, none⟩ = some (.int .i64 0) := K3.out.cell 9
  have k10 : (w2.alloc (.cells #[.int .u8 D.k, .int .i64 D.mi, .slice D.GA D.Gn D.Gc, .int .i64 D.mt, .string D.key, .string D.body, .int .i64 D.i, .int .i64 D.tm, .slice D.MA D.Mn D.Mc, .int .i64 D.tp, .int .i64 D.who, .int .i64 D.n] 26)).cell? ⟨w.heap.size, 10, none⟩ = some (.int .i64 0) := K3.out.cell 10
  have k11 : (w2.alloc (.cells #[.int .u8 D.k, .int .i64 D.mi, .slice D.GA D.Gn D.Gc, .int .i64 D.mt, .string D.key, .string D.body, .int .i64 D.i, .int .i64 D.tm, .slice D.MA D.Mn D.Mc, .int .i64 D.tp, .int .i64 D.who, .int .i64 D.n] 26)).cell? ⟨w.heap.size, 11, none⟩ = some (.int .i64 0) := K3.out.cell 11
  have kf := K3.out.frozen
  cases is with
  | false =>
    go_wp2_with fail
    refine bodyPost_ret (v := .tuple #[.agg #[.int .u8 0, .int .i64 0, .slice none 0 0, .int .i64 0, .string ⟨#[]⟩, .string ⟨#[]⟩, .int .i64 0, .int .i64 0, .slice none 0 0, .int .i64 0, .int .i64 0, .int .i64 0], .int .i64 8]) (by simp [results, Try.results25, go_sem, k0, k1, k2, k3, k4, k5, k6, k7, k8, k9, k10, k11]) rfl ⟨zeroHC 0, 8, rfl, (Cp.readX_none (by have := HSZ.out; omega) (HN.out (by trivial))).symm, zeroHC_own _ _ (by omega), below_set12 B3.out (Nat.le_refl _) _ _ _ _ _ _ _ _ _ _ _ _⟩
  | true =>
    obtain ⟨l', hrd, hln, ho⟩ := HY.out rfl
    have HRD := Lib.hid hrd
    have HLN := Lib.hid hln
    have O3 := Lib.hid ((ho.below ((Below.refl w2.heap.size w2).alloc (Nat.le_refl _) (.cells #[.int .u8 D.k, .int .i64 D.mi, .slice D.GA D.Gn D.Gc, .int .i64 D.mt, .string D.key, .string D.body, .int .i64 D.i, .int .i64 D.tm, .slice D.MA D.Mn D.Mc, .int .i64 D.tp, .int .i64 D.who, .int .i64 D.n] 26))).mono (Nat.le_of_lt NW.out))
    clear hrd hln ho HY HN
    by_cases hn0 : 0 < n
    · have hne : l' ≠ [] := by intro e; have := HLN.out; rw [e] at this; simp at this; omega
      have HNE := Lib.hid hne
      clear hne
      go_wp2_with fail
      refine bodyPost_ret (v := .tuple #[.agg #[.int .u8 0, .int .i64 0, .slice none 0 0, .int .i64 0, .string ⟨#[]⟩, .string ⟨#[]⟩, .int .i64 0, .int .i64 0, .slice none 0 0, .int .i64 0, .int .i64 0, .int .i64 0], .int .i64 8]) (by simp [results, Try.results25, go_sem, k0, k1, k2, k3, k4, k5, k6, k7, k8, k9, k10, k11]) rfl ⟨zeroHC 0, 8, rfl, (Cp.readX_none (by have := HSZ.out; omega) (by rw [Cp.readC_rd, HRD.out, if_neg (fun x => HNE.out x.2.1)])).symm, zeroHC_own _ _ (by omega), below_set12 B3.out (Nat.le_refl _) _ _ _ _ _ _ _ _ _ _ _ _⟩
    · have hnil : l' = [] := List.eq_nil_of_length_eq_zero (by have := HLN.out; omega)
      have HNIL := Lib.hid hnil
      clear hnil
      obtain ⟨b, hb⟩ : ∃ b, Cp.mayC D.cmd = b := ⟨_, rfl⟩
      have HB := Lib.hid hb
      have HCK := Lib.hid (rmay12_any D _ O3.out.at_ b hb)
      clear hb
      go_wp2_with fail
      refine HCK.out.mono ?_
      rintro e w3 ⟨rfl, hb⟩
      have O4 := Lib.hid (O3.out.below hb)
      have K4 := Lib.hid (K3.out.below hb K3.out.lt)
      have B4 := Lib.hid (B3.out.trans (hb.mono B3.out.size))
      have KD4 := Lib.hid (KD.out.below hb KD.out.lt)
      clear hb HCK kf d0 k0 d1 k1 d2 k2 d3 k3 d4 k4 d5 k5 d6 k6 d7 k7 d8 k8 d9 k9 d10 k10 d11 k11
      have d0 : w3.cell? ⟨w2.heap.size, 0, none⟩ = some (.int .u8 D.k) := KD4.out.cell 0
      have d1 : w3.cell? ⟨w2.heap.size, 1, none⟩ = some (.int .i64 D.mi) := KD4.out.cell 1
      have d2 : w3.cell? ⟨w2.heap.size, 2, none⟩ = some (.slice D.GA D.Gn D.Gc) := KD4.out.cell 2
      have d3 : w3.cell? ⟨w2.heap.size, 3, none⟩ = some (.int .i64 D.mt) := KD4.out.cell 3
      have d4 : w3.cell? ⟨w2.heap.size, 4, none⟩ = some (.string D.key) := KD4.out.cell 4
      have d5 : w3.cell? ⟨w2.heap.size, 5, none⟩ = some (.string D.body) := KD4.out.cell 5
      have d6 : w3.cell? ⟨w2.heap.size, 6, none⟩ = some (.int .i64 D.i) := KD4.out.cell 6
      have d7 : w3.cell? ⟨w2.heap.size, 7, none⟩ = some (.int .i64 D.tm) := KD4.out.cell 7
      have d8 : w3.cell? ⟨w2.heap.size, 8, none⟩ = some (.slice D.MA D.Mn D.Mc) := KD4.out.cell 8
      have d9 : w3.cell? ⟨w2.heap.size, 9, none⟩ = some (.int .i64 D.tp) := KD4.out.cell 9
      have d10 : w3.cell? ⟨w2.heap.size, 10, none⟩ = some (.int .i64 D.who) := KD4.out.cell 10
      have d11 : w3.cell? ⟨w2.heap.size, 11, none⟩ = some (.int .i64 D.n) := KD4.out.cell 11
      have k0 : w3.cell? ⟨w.heap.size, 0, none⟩ = some (.int .u8 0) := K4.out.cell 0
      have k1 : w3.cell? ⟨w.heap.size, 1, none⟩ = some (.int .i64 0) := K4.out.cell 1
      have k2 : w3.cell? ⟨w.heap.size, 2, none⟩ = some (.slice none 0 0) := K4.out.cell 2
      have k3 : w3.cell? ⟨w.heap.size, 3, none⟩ = some (.int .i64 0) := K4.out.cell 3
      have k4 : w3.cell? ⟨w.heap.size, 4, none⟩ = some (.string ⟨#[]⟩) := K4.out.cell 4
      have k5 : w3.cell? ⟨w.heap.size, 5, none⟩ = some (.string ⟨#[]⟩) := K4.out.cell 5
      have k6 : w3.cell? ⟨w.heap.size, 6, none⟩ = some (.int .i64 0) := K4.out.cell 6
      have k7 : w3.cell? ⟨w.heap.size, 7, none⟩ = some (.int .i64 0) := K4.out.cell 7
      have k8 : w3.cell? ⟨w.heap.size, 8, none⟩ = some (.slice none 0 0) := K4.out.cell 8
      have k9 : w3.cell? ⟨w.heap.size, 9, none⟩ = some (.int .i64 0) := K4.out.cell 9
      have k10 : w3.cell? ⟨w.heap.size, 10, none⟩ = some (.int .i64 0) := K4.out.cell 10
      have k11 : w3.cell? ⟨w.heap.size, 11, none⟩ = some (.int .i64 0) := K4.out.cell 11
      have kf := K4.out.frozen
      cases b with
      | false =>
        go_wp2_with fail
        refine bodyPost_ret (v := .tuple #[.agg #[.int .u8 0, .int .i64 0, .slice none 0 0, .int .i64 0, .string ⟨#[]⟩, .string ⟨#[]⟩, .int .i64 0, .int .i64 0, .slice none 0 0, .int .i64 0, .int .i64 0, .int .i64 0], .int .i64 8]) (by simp [results, Try.results25, go_sem, k0, k1, k2, k3, k4, k5, k6, k7, k8, k9, k10, k11]) rfl ⟨zeroHC 0, 8, rfl, (Cp.readX_none (by have := HSZ.out; omega) (by rw [Cp.readC_rd, HRD.out, if_neg (fun x => by have h1 := x.2.2; have h2 := HB.out; simp only at h1; rw [h2] at h1; cases h1)])).symm, zeroHC_own _ _ (by omega), below_set12 B4.out (Nat.le_refl _) _ _ _ _ _ _ _ _ _ _ _ _⟩
      | true =>
        go_wp2_with fail
        refine bodyPost_ret (v := .tuple #[.agg #[.int .u8 D.k, .int .i64 D.mi, .slice D.GA D.Gn D.Gc, .int .i64 D.mt, .string D.key, .string D.body, .int .i64 D.i, .int .i64 D.tm, .slice D.MA D.Mn D.Mc, .int .i64 D.tp, .int .i64 D.who, .int .i64 D.n], .int .i64 0]) (by simp [results, Try.results25, go_sem, k0, k1, k2, k3, k4, k5, k6, k7, k8, k9, k10, k11]) rfl ⟨D, 0, rfl, (Cp.readX_some (by have := HSZ.out; omega) (by rw [Cp.readC_rd, HRD.out]; simp [HNIL.out, HB.out])).symm, own12 O4.out K4.out _ _ _ _ _ _ _ _ _ _ _ _, below_set12 B4.out (Nat.le_refl _) _ _ _ _ _ _ _ _ _ _ _ _⟩

theorem commandReads_walk (s : ByteArray) (w : World) (hs : s.size ≤ maxLen) :
    Calls Try.prog 4 #[.string s] w fun e w' => e = .returned (.bool true) ∧ Below w.heap.size w w' := by
  obtain ⟨l, hl⟩ : ∃ l, s.data.toList = l := ⟨_, rfl⟩
  have HL := Lib.hid hl
  have HS := Lib.hid hs
  clear hl hs
  by_cases hbig : (5000 : Int) < (s.size : Int)
  · go_enter Try.func4, Try.ntmps4
    go_wp2
    go_ret
    exact ⟨rfl, Below.refl _ _⟩
  go_enter Try.func4, Try.ntmps4
  go_wp2_with fail
  refine (cread_any s l _ HS.out HL.out).mono ?_
  rintro e w1 ⟨D, x, rfl, hx, ho, hb⟩
  have HD := Lib.hid (ho.at_.alloc (.cells #[.int .u8 D.k, .int .i64 D.mi, .slice D.GA D.Gn D.Gc, .int .i64 D.mt, .string D.key, .string D.body, .int .i64 D.i, .int .i64 D.tm, .slice D.MA D.Mn D.Mc, .int .i64 D.tp, .int .i64 D.who, .int .i64 D.n] 26))
  have HX := Lib.hid hx
  have B0 := Lib.hid (hb.alloc hb.size (.cells #[.int .u8 D.k, .int .i64 D.mi, .slice D.GA D.Gn D.Gc, .int .i64 D.mt, .string D.key, .string D.body, .int .i64 D.i, .int .i64 D.tm, .slice D.MA D.Mn D.Mc, .int .i64 D.tp, .int .i64 D.who, .int .i64 D.n] 26))
  have KD := Lib.hid (Blk.new w1 26 #[.int .u8 D.k, .int .i64 D.mi, .slice D.GA D.Gn D.Gc, .int .i64 D.mt, .string D.key, .string D.body, .int .i64 D.i, .int .i64 D.tm, .slice D.MA D.Mn D.Mc, .int .i64 D.tp, .int .i64 D.who, .int .i64 D.n])
  clear hx ho hb
  go_wp2_with fail
  refine (rread12_any s l _ HS.out HL.out).mono ?_
  rintro e w2 ⟨E, y, rfl, hy, ho, hb⟩
  have hxy := HX.out.trans hy.symm
  obtain rfl : x = y := congrArg Prod.snd hxy
  have EC : Hid (Cp.sameC D.cmd E.cmd = true) := by rw [Hid, show D.cmd = E.cmd from congrArg Prod.fst hxy]; exact Cp.sameC_refl _
  have HE := Lib.hid (ho.at_.alloc (.cells #[.int .u8 E.k, .int .i64 E.mi, .slice E.GA E.Gn E.Gc, .int .i64 E.mt, .string E.key, .string E.body, .int .i64 E.i, .int .i64 E.tm, .slice E.MA E.Mn E.Mc, .int .i64 E.tp, .int .i64 E.who, .int .i64 E.n] 26))
  replace HD := Lib.hid ((HD.out.up hb).alloc (.cells #[.int .u8 E.k, .int .i64 E.mi, .slice E.GA E.Gn E.Gc, .int .i64 E.mt, .string E.key, .string E.body, .int .i64 E.i, .int .i64 E.tm, .slice E.MA E.Mn E.Mc, .int .i64 E.tp, .int .i64 E.who, .int .i64 E.n] 26))
  replace KD := Lib.hid ((KD.out.below hb KD.out.lt).alloc (.cells #[.int .u8 E.k, .int .i64 E.mi, .slice E.GA E.Gn E.Gc, .int .i64 E.mt, .string E.key, .string E.body, .int .i64 E.i, .int .i64 E.tm, .slice E.MA E.Mn E.Mc, .int .i64 E.tp, .int .i64 E.who, .int .i64 E.n] 26))
  replace B0 := Lib.hid (B0.out.trans (hb.mono B0.out.size))
  replace B0 := Lib.hid (B0.out.alloc B0.out.size (.cells #[.int .u8 E.k, .int .i64 E.mi, .slice E.GA E.Gn E.Gc, .int .i64 E.mt, .string E.key, .string E.body, .int .i64 E.i, .int .i64 E.tm, .slice E.MA E.Mn E.Mc, .int .i64 E.tp, .int .i64 E.who, .int .i64 E.n] 26))
  have KE := Lib.hid (Blk.new w2 26 #[.int .u8 E.k, .int .i64 E.mi, .slice E.GA E.Gn E.Gc, .int .i64 E.mt, .string E.key, .string E.body, .int .i64 E.i, .int .i64 E.tm, .slice E.MA E.Mn E.Mc, .int .i64 E.tp, .int .i64 E.who, .int .i64 E.n])
  clear hxy hy ho hb HX
  have c0 := KD.out.cell 0
  have d0 := KE.out.cell 0
  have c1 := KD.out.cell 1
  have d1 := KE.out.cell 1
  have c2 := KD.out.cell 2
  have d2 := KE.out.cell 2
  have c3 := KD.out.cell 3
  have d3 := KE.out.cell 3
  have c4 := KD.out.cell 4
  have d4 := KE.out.cell 4
  have c5 := KD.out.cell 5
  have d5 := KE.out.cell 5
  have c6 := KD.out.cell 6
  have d6 := KE.out.cell 6
  have c7 := KD.out.cell 7
  have d7 := KE.out.cell 7
  have c8 := KD.out.cell 8
  have d8 := KE.out.cell 8
  have c9 := KD.out.cell 9
  have d9 := KE.out.cell 9
  have c10 := KD.out.cell 10
  have d10 := KE.out.cell 10
  have c11 := KD.out.cell 11
  have d11 := KE.out.cell 11
  go_wp2_with fail
  clear c0 d0 c1 d1 c2 d2 c3 d3 c4 d4 c5 d5 c6 d6 c7 d7 c8 d8 c9 d9 c10 d10 c11 d11
  refine (rsame12_any D E _ HD.out HE.out true EC.out).mono ?_
  rintro e w3 ⟨rfl, hb⟩
  replace B0 := Lib.hid (B0.out.trans (hb.mono B0.out.size))
  clear hb
  go_wp2
  go_ret
  exact ⟨rfl, B0.out⟩
end Go.Proofs.Ytaoekfgeggopbaa
