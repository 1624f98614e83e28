/-
  log.Members' closure; slices.IndexFunc, ContainsFunc with it; slices.Clone of numbers.
-/
import Derived.Test.YtaoekfgeggopbaaLogCmd
import Derived.Lib.SliceRun
namespace Go.Proofs.Ytaoekfgeggopbaa
open Go.RowKit
set_option maxHeartbeats 4000000
set_option maxRecDepth 100000
set_option linter.unusedVariables false
set_option linter.unusedSimpArgs false

theorem cloneI_any (A : Option Addr) (n c : Nat) (l : List Int) (w : World) (B : Nat) (hr : Reads w B 1 A n (ci l)) (hB : B ≤ w.heap.size) (hn : n ≤ 1000000000) :
    Calls Try.prog 62 #[.slice A n c] w fun e w' => ∃ A2 c2, e = .returned (.slice A2 n c2) ∧ w'.ownsRow w.heap.size 3 1 (.slice A2 n c2) n (ci l) ∧ Below w.heap.size w w' := by
  have hl := hr.len_i
  have q22 : ∀ (w : World) (a : Option Addr) (n c n' c' : Nat), (binOp .eql 22 (.slice a n c) (.slice none n' c')).run Try.prog w = .ok (.bool a.isNone) w := fun w a n c n' c' => Lib.run_eql_slice_nil w _ _ a n c n' c' Try.underlying22
  cases A with
  | none =>
    have h0 : n = 0 := by
      rcases Nat.eq_zero_or_pos n with h0 | h0
      · exact h0
      · obtain ⟨ad, h', _⟩ := hr.2 h0
        cases h'
    subst h0
    obtain rfl : l = [] := List.eq_nil_of_length_eq_zero hl
    clear hr
    go_enter Try.func62, Try.ntmps62
    go_wp2
    go_ret
    exact ⟨none, 0, rfl, World.ownsRow_nil _ _ _ _, Below.refl _ _⟩
  | some ad =>
    have HR := Lib.hid hr
    clear hr
    have HO := Lib.hid (World.ownsRow_made (base := w.heap.size) (e := 3) (size := 1) w #[] 0 (Nat.le_refl _) (Nat.zero_le _) rfl)
    have HR2 := Lib.hid (HR.out.keep (w' := w.alloc (.cells #[] 3)) fun p hp => World.cell?_alloc_lt w _ p (by omega))
    go_enter Try.func62, Try.ntmps62
    go_wp2_with (at_builtin; refine app_is rfl (.tmp 5) (.tmp 6) rfl w.heap.size (.slice (some ⟨w.heap.size, 0, none⟩) 0 0) 0 [] rfl HO.out B (some ad) n c l rfl HR2.out (by omega) (by simp) ?_)
    intro v' w' h1 h2
    obtain ⟨A2, c2, rfl⟩ := own_shapeC h1
    try simp only [List.nil_append, Nat.zero_add] at h1
    have H1 := Lib.hid h1
    have hb := Lib.hid (below_of_alloc (h2.belowOwn HO.out (by simp)) (Nat.le_refl _))
    clear h1 h2
    go_wp2
    go_ret
    exact ⟨_, _, by first | rfl | simp, by first | exact H1.out | simpa using H1.out, hb.out⟩

/-- The roster as it lies in a box. -/
def RAt (w : World) (g : Nat) (l : List Int) : Prop := ∃ (A : Option Addr) (n c : Nat) (A' : Option Addr) (n' c' : Nat), Blk w g 52 #[.slice A n c, .slice A' n' c'] ∧ Reads w w.heap.size 1 A n (ci l) ∧ n ≤ 1000000000
theorem RAt.below {w w' : World} {g : Nat} {l : List Int} (h : RAt w g l) (hb : Below w.heap.size w w') : RAt w' g l := by
  obtain ⟨A, n, c, A', n', c', hk, hr, hn⟩ := h
  exact ⟨A, n, c, A', n', c', hk.below hb hk.lt, (hr.below hb).more hb.size, hn⟩
theorem lout_any (g : Nat) (l : List Int) (x : Int) (w : World) (b : Bool) (hb : decide (x ∈ l) = b) (h : RAt w g l) :
    Calls Try.prog 61 #[.int .i64 x, .pointer (some ⟨g, 0, none⟩)] w fun e w' => e = .returned (.bool (!b)) ∧ w = w' := by
  obtain ⟨A, n, c, A', n', c', hk, hr, hn⟩ := h
  have H := Lib.hid (qhas_any A n c w.heap.size l x w hr (by omega))
  rw [hb] at H
  have c0 := hk.cell 0
  have f0 := hk.frozen
  clear hb hr hk
  go_enter Try.func61, Try.ntmps61
  go_wp2_with fail
  refine H.out.mono ?_
  rintro e w' ⟨rfl, rfl⟩
  clear H
  cases b with
  | true =>
    go_wp2
    go_ret
    exact ⟨rfl, by trivial⟩
  | false =>
    go_wp2
    go_ret
    exact ⟨rfl, by trivial⟩
/-- The place of the first that is not among others; -1: none. -/
def outI (l : List Int) : Nat → List Int → Int
  | _, [] => -1
  | k, x :: r => if x ∈ l then outI l (k + 1) r else (k : Int)
theorem outI_in (l : List Int) : ∀ (r : List Int) (k : Nat), decide (0 ≤ outI l k r) = r.any fun x => !decide (x ∈ l)
  | [], k => by simp [outI]
  | x :: r, k => by
    rw [outI]
    by_cases h : x ∈ l
    · rw [if_pos h, outI_in l r (k + 1)]
      simp [h]
    · rw [if_neg h]
      simp [h]
theorem lindexF_any (g : Nat) (l : List Int) (A : Option Addr) (n c : Nat) (m : List Int) (w : World) (x : Int) (hx : outI l 0 m = x) (hr : Reads w w.heap.size 1 A n (ci m)) (hn : n ≤ 9223372036854775807) (h : RAt w g l) :
    Calls Try.prog 89 #[.slice A n c, .func (.func 61) #[] #[.pointer (some ⟨g, 0, none⟩)]] w fun e w' => e = .returned (.int .i64 x) ∧ w = w' := by
  have Hl := Lib.hid hr.len_i
  have HX := Lib.hid hx
  have HR := Lib.hid hr
  have H := Lib.hid h
  clear hx hr h
  go_enter Try.func89, Try.ntmps89
  go_wp2
  go_loopw [8] (fun y wr => (∃ k : Nat, y = .int .i64 (k : Int) ∧ k ≤ n ∧ outI l k (m.drop k) = x) ∧ wr = w) (fun y _ => n - (intOf y).toNat)
  case atStart => exact ⟨⟨0, rfl, Nat.zero_le _, HX.out⟩, rfl⟩
  case round =>
    obtain ⟨⟨k, rfl, hk, he⟩, rfl⟩ := hrel
    have HE := Lib.hid he
    clear he
    by_cases hlt : k < n
    · obtain ⟨ad, u, rfl, hbl, hu, hc⟩ := HR.out.at_ hlt
      have hkl : k < m.length := by rw [Hl.out]; exact hlt
      have hg : m[k]? = some (m[k]'hkl) := List.getElem?_eq_getElem hkl
      obtain ⟨s, hs⟩ : ∃ s, m[k]'hkl = s := ⟨_, rfl⟩
      rw [hs] at hg
      rw [ci_get, hg] at hu
      simp only [Option.map_some, Option.some.injEq] at hu
      subst hu
      have HE2 := Lib.hid HE.out
      rw [List.drop_eq_getElem_cons hkl, hs, outI] at HE2
      clear hg hs hkl HE
      by_cases hv : s ∈ l
      · have HE3 : Hid (outI l (k + 1) (m.drop (k + 1)) = x) := by rw [Hid, ← HE2.out, if_pos hv]
        have HO := Lib.hid (lout_any g l s wr true (decide_eq_true hv) H.out)
        clear HE2 hv
        go_wp2_with fail
        refine HO.out.mono ?_
        rintro e w' ⟨rfl, rfl⟩
        clear HO
        go_wp2
        go_roundw
        case rel => exact ⟨⟨k + 1, by go_num, by omega, HE3.out⟩, by trivial⟩
        case measure => simp [intOf]; omega
      · have hxk : Hid (x = (k : Int)) := by rw [Hid, ← HE2.out, if_neg hv]
        have HO := Lib.hid (lout_any g l s wr false (decide_eq_false hv) H.out)
        clear HE2 hv
        go_wp2_with fail
        refine HO.out.mono ?_
        rintro e w' ⟨rfl, rfl⟩
        clear HO
        go_wp2
        go_ret
        rw [hxk.out]
        exact ⟨rfl, by trivial⟩
    · have HE2 := Lib.hid HE.out
      rw [List.drop_eq_nil_of_le (by have := Hl.out; omega), outI] at HE2
      have hx1 : Hid (x = -1) := HE2.out.symm
      go_wp2
      go_ret
      rw [hx1.out]
      exact ⟨rfl, by trivial⟩
theorem lcontF_any (g : Nat) (l : List Int) (A : Option Addr) (n c : Nat) (m : List Int) (w : World) (b : Bool) (hb : (m.any fun x => !decide (x ∈ l)) = b) (hr : Reads w w.heap.size 1 A n (ci m)) (hn : n ≤ 9223372036854775807) (h : RAt w g l) :
    Calls Try.prog 60 #[.slice A n c, .func (.func 61) #[] #[.pointer (some ⟨g, 0, none⟩)]] w fun e w' => e = .returned (.bool b) ∧ w = w' := by
  obtain ⟨x, hx⟩ : ∃ x, outI l 0 m = x := ⟨_, rfl⟩
  have hq := outI_in l m 0
  rw [hb, hx] at hq
  have H := Lib.hid (lindexF_any g l A n c m w x hx hr hn h)
  clear hx hb hr h
  go_enter Try.func60, Try.ntmps60
  go_wp2_with fail
  refine H.out.mono ?_
  rintro e w1 ⟨rfl, rfl⟩
  cases b with
  | true =>
    go_wp2
    go_ret
    exact ⟨rfl, by trivial⟩
  | false =>
    go_wp2
    go_ret
    exact ⟨rfl, by trivial⟩
end Go.Proofs.Ytaoekfgeggopbaa
