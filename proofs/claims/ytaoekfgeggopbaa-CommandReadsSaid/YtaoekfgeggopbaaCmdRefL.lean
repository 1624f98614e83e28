/-
  The reference of layer 12: List, Texts.
-/
import Derived.Test.YtaoekfgeggopbaaCmdRdB
import Derived.Test.YtaoekfgeggopbaaNumRef
import Derived.Test.YtaoekfgeggopbaaNumRefInts
namespace Go.Proofs.Ytaoekfgeggopbaa
open Go.RowKit
set_option maxHeartbeats 8000000
set_option maxRecDepth 100000
set_option linter.unusedVariables false
set_option linter.unusedSimpArgs false

theorem results_tmp4 {fn : Func} {t u v x : Tmp} (h : fn.results = #[.tmp t, .tmp u, .tmp v, .tmp x]) (tmps : Array Value) (P : Program) (w : World) :
    (results fn tmps).run P w = .ok (.tuple #[tmps.getD t undef, tmps.getD u undef, tmps.getD v undef, tmps.getD x undef]) w := by
  simp [results, h]
/-- What a reading of the reference leaves: the bytes that are left. -/
def Left (w' : World) (B : Nat) (v : Value) (l' : List UInt8) : Prop := ∃ A n c, v = .slice A n c ∧ Reads w' B 1 A n (cb l') ∧ n ≤ c ∧ c ≤ 9223372036854775807 ∧ n ≤ 4096
def ListPost (most : Nat) (l : List UInt8) (B : Nat) (w : World) (e : Ending) (w' : World) : Prop := match Nm.getInts l most with
  | none => e = .returned (.tuple #[.slice none 0 0, .slice none 0 0, .bool false]) ∧ Below w.heap.size w w'
  | some (r, k) => ∃ A c A2 n2 c2, e = .returned (.tuple #[.slice A r.length c, .slice A2 n2 c2, .bool true]) ∧ w'.ownsRow w.heap.size 3 1 (.slice A r.length c) r.length (ci r) ∧ Reads w' B 1 A2 n2 (cb (l.drop k)) ∧ n2 ≤ c2 ∧ c2 ≤ 9223372036854775807 ∧ n2 ≤ 4096 ∧ Below w.heap.size w w'
theorem rlist12_any (A : Option Addr) (n c most : Nat) (l : List UInt8) (w : World) (B : Nat) (hB : B ≤ w.heap.size) (hr : Reads w B 1 A n (cb l)) (hnc : n ≤ c) (hc : c ≤ 9223372036854775807) (hn : n ≤ 4096) (hm : most ≤ 4096) :
    Calls Try.prog 85 #[.slice A n c, .int .i64 (most : Int)] w (ListPost most l B w) := by
  have HG := Lib.hid (rgetInts_any A n c l most w (hr.more hB) hnc (by omega) hm)
  have hl := hr.len_b
  have HR := Lib.hid hr
  clear hr
  unfold ListPost
  cases hg : Nm.getInts l most with
  | none =>
    rw [hg] at HG
    clear hg
    go_enter Try.func85, Try.ntmps85
    go_wp2_with fail
    refine HG.out.mono ?_
    rintro e w1 ⟨rfl, hb⟩
    have HB := Lib.hid hb
    clear hb
    go_wp2
    go_ret3
    exact ⟨rfl, HB.out⟩
  | some p =>
    obtain ⟨v, k⟩ := p
    rw [hg] at HG
    have hkl := (Nm.getInts_back hg).2.2.2.1
    have hkn : k ≤ n := by omega
    have hs := fun w => run_slice_from (P := Try.prog) Try.underlying46 A n c k hkn w u8_size
    clear hg hl
    go_enter Try.func85, Try.ntmps85
    go_wp2_with fail
    refine HG.out.mono ?_
    rintro e w1 ⟨A1, c1, rfl, ho, hb⟩
    have HB := Lib.hid hb
    have HO := Lib.hid ho
    have HR2 := Lib.hid ((HR.out.below (hb.mono hB)).rest (k := k) hkn hnc)
    rw [cb_drop] at HR2
    clear hb ho
    go_wp2_with fail
    go_quiet (fail)
    go_wp2
    go_ret3
    refine ⟨A1, c1, _, _, _, rfl, (show World.ownsRow _ _ _ _ _ _ _ from HO.out), HR2.out.drewN _, by omega, by omega, by omega, below_drewN HB.out _⟩

def TextsPost (l : List UInt8) (B : Nat) (w : World) (e : Ending) (w' : World) : Prop := match Nm.getText l with
  | none => e = .returned (.tuple #[.string ⟨#[]⟩, .string ⟨#[]⟩, .slice none 0 0, .bool false]) ∧ Below w.heap.size w w'
  | some (s, k) => match Nm.getText (l.drop k) with
    | none => e = .returned (.tuple #[.string ⟨#[]⟩, .string ⟨#[]⟩, .slice none 0 0, .bool false]) ∧ Below w.heap.size w w'
    | some (t, j) => ∃ A2 n2 c2, e = .returned (.tuple #[.string (S s), .string (S t), .slice A2 n2 c2, .bool true]) ∧ Reads w' B 1 A2 n2 (cb ((l.drop k).drop j)) ∧ n2 ≤ c2 ∧ c2 ≤ 9223372036854775807 ∧ n2 ≤ 4096 ∧ Below w.heap.size w w'
theorem rtexts12_any (A : Option Addr) (n c : Nat) (l : List UInt8) (w : World) (B : Nat) (hr : Reads w B 1 A n (cb l)) (hnc : n ≤ c) (hc : c ≤ 9223372036854775807) (hn : n ≤ 4096) :
    Calls Try.prog 86 #[.slice A n c] w (TextsPost l B w) := by
  have HG := Lib.hid (rgetText_any A n c B l w hr hnc (by omega))
  have hl := hr.len_b
  have HR := Lib.hid hr
  clear hr
  unfold TextsPost
  cases hg : Nm.getText l with
  | none =>
    rw [hg] at HG
    clear hg
    go_enter Try.func86, Try.ntmps86
    go_wp2_with fail
    refine HG.out.mono ?_
    rintro e w' ⟨rfl, rfl⟩
    simp only [getTextV]
    go_wp2
    (try simp only [Exit.inBlock, Exit.then])
    refine bodyPost_ret (results_tmp4 rfl _ _ _) rfl ?_
    exact ⟨rfl, Below.refl _ _⟩
  | some p =>
    obtain ⟨s, k⟩ := p
    rw [hg] at HG
    have hkl := (Nm.getText_back hg).2.2.1
    have hkn : k ≤ n := by omega
    have hs := fun w => run_slice_from (P := Try.prog) Try.underlying46 A n c k hkn w u8_size
    have HR2 := Lib.hid (HR.out.rest (k := k) hkn hnc)
    rw [cb_drop] at HR2
    have HG2 := Lib.hid (rgetText_any (cutA A c k) (n - k) (c - k) B (l.drop k) w HR2.out (by omega) (by omega))
    obtain ⟨U, hU⟩ : ∃ U, S s = U := ⟨_, rfl⟩
    rw [show getTextV (some (s, k)) = .tuple #[.string (S s), .int .i64 (k : Int), .int .i64 0] from rfl, hU] at HG
    clear hg
    simp only
    cases hg2 : Nm.getText (l.drop k) with
    | none =>
      rw [hg2] at HG2
      clear hg2
      go_enter Try.func86, Try.ntmps86
      go_wp2_with fail
      refine HG.out.mono ?_
      rintro e w' ⟨rfl, rfl⟩
      go_wp2_with fail
      refine HG2.out.mono ?_
      rintro e w' ⟨rfl, rfl⟩
      simp only [getTextV]
      go_wp2
      (try simp only [Exit.inBlock, Exit.then])
      refine bodyPost_ret (results_tmp4 rfl _ _ _) rfl ?_
      exact ⟨rfl, Below.refl _ _⟩
    | some q =>
      obtain ⟨t, j⟩ := q
      rw [hg2] at HG2
      have hjl := (Nm.getText_back hg2).2.2.1
      rw [List.length_drop] at hjl
      have hjn : k + j ≤ n := by omega
      have hs2 : ∀ w, (Instr.slice 46 (.slice A n c) (some (.int .i64 ((k : Int) + (j : Int)))) none none).run Try.prog w = .ok (.slice (cutA A c (k + j)) (n - (k + j)) (c - (k + j))) w := fun w => by
        rw [show ((k : Int) + (j : Int)) = ((k + j : Nat) : Int) by omega]
        exact run_slice_from (P := Try.prog) Try.underlying46 A n c (k + j) hjn w u8_size
      have HR3 := Lib.hid (HR.out.rest (k := k + j) hjn hnc)
      rw [cb_drop, ← List.drop_drop] at HR3
      obtain ⟨V, hV⟩ : ∃ V, S t = V := ⟨_, rfl⟩
      rw [show getTextV (some (t, j)) = .tuple #[.string (S t), .int .i64 (j : Int), .int .i64 0] from rfl, hV] at HG2
      simp only
      rw [hU, hV]
      clear hg2 hU hV
      go_enter Try.func86, Try.ntmps86
      go_wp2_with fail
      refine HG.out.mono ?_
      rintro e w' ⟨rfl, rfl⟩
      go_wp2_with fail
      refine HG2.out.mono ?_
      rintro e w' ⟨rfl, rfl⟩
      go_wp2_with fail
      go_quiet (fail)
      go_wp2
      (try simp only [Exit.inBlock, Exit.then])
      refine bodyPost_ret (results_tmp4 rfl _ _ _) rfl ?_
      exact ⟨_, _, _, rfl, HR3.out.drewN _, by omega, by omega, by omega, below_drewN (Below.refl _ _) _⟩
end Go.Proofs.Ytaoekfgeggopbaa
