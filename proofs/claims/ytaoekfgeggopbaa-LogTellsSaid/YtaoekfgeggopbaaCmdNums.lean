/-
  The reference of layer 12: so many numbers that bytes begin with (the same words as layer 23's, without that layer).
-/
import Derived.Test.YtaoekfgeggopbaaWirePlain
import Derived.Test.YtaoekfgeggopbaaNumRef
import Derived.Test.YtaoekfgeggopbaaAppI
namespace Go.Proofs.Ytaoekfgeggopbaa
namespace Wp
open Nm
def mny (l : List Int) : List UInt8 := l.flatMap fun n => Nm.enc n.toNat
def numsN : Nat → List UInt8 → Option (List Int × List UInt8)
  | 0, l => some ([], l)
  | k + 1, l => match get l with
    | none => none
    | some (m, j) => match numsN k (l.drop j) with
      | none => none
      | some (xs, r) => some ((m : Int) :: xs, r)
theorem mny_cons (a : Int) (l : List Int) : mny (a :: l) = enc a.toNat ++ mny l := by simp [mny]
theorem numsN_some : ∀ (xs : List Int) (r : List UInt8), (∀ n ∈ xs, 0 ≤ n ∧ n ≤ 1099511627776) → numsN xs.length (mny xs ++ r) = some (xs, r)
  | [], r, _ => rfl
  | a :: xs, r, h => by
    have h1 := h a List.mem_cons_self
    have h2 := numsN_some xs r (fun n hn => h n (List.mem_cons_of_mem _ hn))
    have h3 := get_enc (n := a.toNat) (by omega) (mny xs ++ r)
    rw [List.length_cons, mny_cons, List.append_assoc]
    simp only [numsN, h3, List.drop_left, h2]
    rw [show ((a.toNat : Nat) : Int) = a by omega]
theorem numsN_back : ∀ (k : Nat) (l : List UInt8) (xs : List Int) (r : List UInt8), numsN k l = some (xs, r) → xs.length = k ∧ l = mny xs ++ r ∧ ∀ n ∈ xs, 0 ≤ n ∧ n ≤ 1099511627776
  | 0, l, xs, r, h => by
    simp only [numsN, Option.some.injEq, Prod.mk.injEq] at h
    obtain ⟨rfl, rfl⟩ := h
    exact ⟨rfl, by simp [mny], by simp⟩
  | k + 1, l, xs, r, h => by
    unfold numsN at h
    cases hg : get l with
    | none => rw [hg] at h; cases h
    | some p =>
      obtain ⟨m, j⟩ := p
      rw [hg] at h
      simp only at h
      cases hq : numsN k (l.drop j) with
      | none => rw [hq] at h; cases h
      | some q =>
        obtain ⟨ys, r'⟩ := q
        rw [hq] at h
        simp only [Option.some.injEq, Prod.mk.injEq] at h
        obtain ⟨rfl, rfl⟩ := h
        obtain ⟨h1, h2, h3⟩ := numsN_back k _ _ _ hq
        obtain ⟨g1, g2, g3, g4⟩ := get_back hg
        refine ⟨by simp [h1], ?_, ?_⟩
        · rw [mny_cons, List.append_assoc, ← h2, Int.toNat_natCast, g4, List.take_append_drop]
        · intro n hn
          rcases List.mem_cons.1 hn with rfl | hn
          · omega
          · exact h3 n hn

end Wp
open Go.RowKit Bal
set_option maxHeartbeats 2000000
set_option maxRecDepth 100000
set_option linter.unusedVariables false
set_option linter.unusedSimpArgs false

def NumbersPost (many : Nat) (F : Option (List Int × List UInt8)) (B : Nat) (w : World) (e : Ending) (w' : World) : Prop := match F with
  | none => e = .returned (.tuple #[.slice none 0 0, .slice none 0 0, .bool false]) ∧ Below w.heap.size w w'
  | some (xs, r) => ∃ A c A2 n2 c2, e = .returned (.tuple #[.slice A many c, .slice A2 n2 c2, .bool true]) ∧ w'.ownsRow w.heap.size 3 1 (.slice A many c) many (ci xs) ∧ Reads w' B 1 A2 n2 (cb r) ∧ n2 ≤ c2 ∧ c2 ≤ 9223372036854775807 ∧ n2 ≤ 1000000 ∧ Below w.heap.size w w'
def NumbersRel (many : Nat) (F : Option (List Int × List UInt8)) (B : Nat) (w : World) (xb xl xi : Value) (wr : World) : Prop :=
  ∃ (k : Nat) (acc : List Int) (l' : List UInt8) (A : Option Addr) (n c : Nat), xi = .int .i64 (k : Int) ∧ k ≤ many ∧ xb = .slice A n c ∧ Reads wr B 1 A n (cb l') ∧ n ≤ c ∧ c ≤ 9223372036854775807 ∧ n ≤ 1000000 ∧
    wr.ownsRow w.heap.size 3 1 xl k (ci acc) ∧ Below w.heap.size w wr ∧ F = (Wp.numsN (many - k) l').map fun p => (acc ++ p.1, p.2)
theorem numbersPost_bad {many k B : Nat} {F : Option (List Int × List UInt8)} {w wr : World} {acc : List Int} {l' : List UInt8} (hlt : k < many) (hb : Below w.heap.size w wr) (he : F = (Wp.numsN (many - k) l').map fun p => (acc ++ p.1, p.2)) (hg : Nm.get l' = none) :
    NumbersPost many F B w (.returned (.tuple #[.slice none 0 0, .slice none 0 0, .bool false])) wr := by
  obtain ⟨j, hj⟩ : ∃ j, many - k = j + 1 := ⟨many - k - 1, by omega⟩
  rw [hj] at he
  simp only [Wp.numsN, hg, Option.map_none] at he
  subst he
  exact ⟨rfl, hb⟩
theorem numbersRel_step {many k m j n c B : Nat} {F : Option (List Int × List UInt8)} {w wr w1 : World} {x x' : Value} {acc : List Int} {l' : List UInt8} {A : Option Addr} (hB : B ≤ w.heap.size) (hlt : k < many) (hr : Reads wr B 1 A n (cb l')) (hnc : n ≤ c) (hc : c ≤ 9223372036854775807) (hn : n ≤ 1000000)
    (hw : wr.ownsRow w.heap.size 3 1 x k (ci acc)) (hb : Below w.heap.size w wr) (he : F = (Wp.numsN (many - k) l').map fun p => (acc ++ p.1, p.2)) (hg : Nm.get l' = some (m, j))
    (ho : w1.ownsRow w.heap.size 3 1 x' (k + 1) (ci (acc ++ [(m : Int)]))) (hgr : Grew wr w1 x x') :
    NumbersRel many F B w (.slice (cutA A c j) (n - j) (c - j)) x' (.int .i64 ((k : Int) + 1)) w1 := by
  have hl := hr.len_b
  obtain ⟨q1, q2, q3, q4⟩ := Nm.get_back hg
  have hbl := hgr.belowOwn hw hb.size
  have hr2 := (hr.rest (k := j) (c := c) (by omega) hnc).below (hbl.mono hB)
  rw [cb_drop] at hr2
  refine ⟨k + 1, acc ++ [(m : Int)], l'.drop j, _, _, _, by go_num, by omega, rfl, hr2, by omega, by omega, by omega, ho, hb.trans hbl, ?_⟩
  obtain ⟨i, hi⟩ : ∃ i, many - k = i + 1 := ⟨many - k - 1, by omega⟩
  rw [show many - (k + 1) = i by omega]
  rw [hi] at he
  rw [he]
  simp only [Wp.numsN, hg]
  cases h : Wp.numsN i (l'.drop j) with
  | none => rfl
  | some p => obtain ⟨a, b⟩ := p; simp
theorem rnumbers12_any (A : Option Addr) (n c many : Nat) (l : List UInt8) (w : World) (F : Option (List Int × List UInt8)) (hF : Wp.numsN many l = F) (B : Nat) (hB : B ≤ w.heap.size) (hr : Reads w B 1 A n (cb l)) (hnc : n ≤ c) (hc : c ≤ 9223372036854775807) (hn : n ≤ 1000000) (hm : many ≤ 1000000) :
    Calls Try.prog 84 #[.slice A n c, .int .i64 (many : Int)] w (NumbersPost many F B w) := by
  have hF2 : F = (Wp.numsN (many - 0) l).map fun p => ([] ++ p.1, p.2) := by
    rw [Nat.sub_zero, hF]
    cases F with
    | none => rfl
    | some p => rfl
  have HF := Lib.hid hF2
  have HR := Lib.hid hr
  clear hF hF2 hr
  go_enter Try.func84, Try.ntmps84
  go_wp2
  go_loopw [0, 7, 8] (fun xb xl xi wr => NumbersRel many F B w xb xl xi wr) (fun _ _ y _ => many - (intOf y).toNat)
  case atStart => exact ⟨0, [], l, A, n, c, rfl, Nat.zero_le _, rfl, HR.out, hnc, hc, hn, World.ownsRow_nil _ _ _ _, Below.refl _ _, HF.out⟩
  case round =>
    clear HR HF
    obtain ⟨k, acc, l', A', n', c', rfl, hk, rfl, hr, hnc', hc', hn', ho, hb, he⟩ := hrel
    by_cases hlt : k < many
    · cases hg : Nm.get l' with
      | none =>
        have HG := Lib.hid (rget_no A' n' c' _ l' wr hr (by omega) hg)
        have HE := Lib.hid he
        have HB := Lib.hid hb
        have HGG := Lib.hid hg
        clear hg he hb hr ho
        go_wp2_with (first | (with_reducible refine HG.out.mono ?_; rintro e w' ⟨rfl, rfl⟩))
        go_ret3
        exact numbersPost_bad hlt HB.out HE.out HGG.out
      | some p =>
        obtain ⟨m, j⟩ := p
        have HG := Lib.hid (rget_is A' n' c' _ l' m j wr hr (by omega) hg)
        have hj := (Nm.get_back hg).2.2.1
        have hl := hr.len_b
        have hjn : j ≤ n' := by omega
        have hs := fun w => run_slice_from (P := Try.prog) Try.underlying46 A' n' c' j hjn w u8_size
        have HE := Lib.hid he
        have HB := Lib.hid hb
        have HGG := Lib.hid hg
        have HR := Lib.hid hr
        have HO := Lib.hid ho
        clear hg he hb hr ho hl hj
        go_wp2_with fail
        refine HG.out.mono ?_
        rintro e w' ⟨rfl, rfl⟩
        clear HG
        go_wp2_with (at_builtin; refine app_i1 rfl (.tmp 25) (.tmp 27) rfl w.heap.size u7 k acc rfl HO.out (m : Int) rfl ?c1 ?c2 ?_)
        case c1 => omega
        case c2 => exact HB.out.size
        intro v2 w2 o2 g2
        have O2 := Lib.hid o2
        have G2 := Lib.hid g2
        clear o2 g2
        go_wp2
        go_roundw
        case rel => exact numbersRel_step hB hlt HR.out hnc' hc' hn' HO.out HB.out HE.out HGG.out O2.out G2.out
        case measure => simp [intOf]; omega
    · have hke : many - k = 0 := by omega
      obtain rfl : many = k := by omega
      have he2 : F = some (acc, l') := by
        rw [he, hke]
        simp [Wp.numsN]
      subst he2
      have HR := Lib.hid hr
      have HO := Lib.hid ho
      have HB := Lib.hid hb
      obtain ⟨A3, c3, rfl, -, -, -⟩ := own_form HO.out
      clear he hr ho hb hke
      go_wp2
      go_ret3
      exact ⟨_, _, _, _, _, rfl, HO.out, HR.out, hnc', hc', hn', HB.out⟩
end Go.Proofs.Ytaoekfgeggopbaa
