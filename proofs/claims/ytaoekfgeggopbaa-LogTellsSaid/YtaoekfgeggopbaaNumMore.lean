/-
  Contracts of num.Text, num.GetText: what each call returns, for every argument; new memory alone is written.
-/
import Derived.Test.YtaoekfgeggopbaaGet
namespace Go.Proofs.Ytaoekfgeggopbaa
namespace Nm
/-- A text's bytes. -/
def txt (s : List UInt8) : List UInt8 := enc s.length ++ s
/-- A text read off bytes: it, and how many bytes. -/
def getText (l : List UInt8) : Option (List UInt8 × Nat) := match get l with
  | some (n, k) => if 4096 < n ∨ l.length - k < n then none else some ((l.drop k).take n, k + n)
  | none => none
theorem getText_txt {s : List UInt8} (h : s.length ≤ 4096) (b : List UInt8) : getText (txt s ++ b) = some (s, (txt s).length) := by
  unfold getText txt
  rw [List.append_assoc, get_enc (by omega)]
  simp only
  rw [if_neg (by simp only [List.length_append]; omega)]
  simp
theorem getText_back {l t : List UInt8} {k : Nat} (h : getText l = some (t, k)) : t.length ≤ 4096 ∧ k = (txt t).length ∧ k ≤ l.length ∧ txt t = l.take k ∧ 0 < k := by
  unfold getText at h
  cases hg : get l with
  | none => rw [hg] at h; cases h
  | some p =>
    obtain ⟨n, j⟩ := p
    rw [hg] at h
    simp only at h
    split at h
    · cases h
    · rename_i hc
      simp only [Option.some.injEq, Prod.mk.injEq] at h
      obtain ⟨rfl, rfl⟩ := h
      obtain ⟨h1, h2, h3, h4⟩ := get_back hg
      have hp := get_pos hg
      have hlen : ((l.drop j).take n).length = n := by rw [List.length_take, List.length_drop]; omega
      refine ⟨by omega, ?_, by omega, ?_, by omega⟩
      · unfold txt
        rw [hlen, List.length_append, hlen, ← h2]
      · unfold txt
        rw [hlen, h4, List.take_add]
end Nm
open Go.RowKit
set_option maxHeartbeats 400000
set_option maxRecDepth 100000
set_option linter.unusedVariables false

/-- What GetText returns. -/
def getTextV (r : Option (List UInt8 × Nat)) : Value := match r with
  | some (t, k) => .tuple #[.string (S t), .int .i64 (k : Int), .int .i64 0]
  | none => .tuple #[.string ⟨#[]⟩, .int .i64 0, .int .i64 8]

theorem ntext_ok (s : ByteArray) (l : List UInt8) (k : Nat) (w : World) (h : s.size ≤ 4096) (hl : Nm.txt s.data.toList = l) (hk : l.length = k) :
    Calls Try.prog 74 #[.string s] w fun e w' => ∃ A c, e = .returned (.tuple #[.slice A k c, .int .i64 0]) ∧ w'.ownsRow w.heap.size 5 1 (.slice A k c) k (cb l) ∧ Below w.heap.size w w' := by
  have hs := size_data s
  go_enter Try.func74, Try.ntmps74
  go_wp2_with fail
  refine (put_any w.heap.size _ 0 [] s.size w (World.ownsRow_nil _ _ _ _) (by omega) (by omega) (by omega) (Nat.le_refl _)).mono ?_
  rintro e w1 ⟨v1, rfl, o1, g1⟩
  have hb := g1.below (Nat.le_refl _) (by simp [Value.ownBlock])
  have O1 := Lib.hid o1
  have HB := Lib.hid hb
  have hz := hb.size
  have hle := Nm.enc_len10 (n := s.size) (by omega)
  have HL := Lib.hid hl
  have HK := Lib.hid hk
  have HS := Lib.hid hs
  clear o1 g1 hb hl hk hs
  go_wp2_with (at_builtin; go_loud (refine app_str rfl (.tmp 9) (.tmp 10) rfl w.heap.size v1 _ _ rfl O1.out s rfl ?c1 ?c2 ?_))
  case c1 => simp; omega
  case c2 => exact hz
  · intro v2 w2 o2 g2
    have O2 := Lib.hid o2
    have B2 := Lib.hid ((Below.refl w.heap.size w1).grown g2 hz (fun k hk => (O1.out.lt k hk).1))
    clear o2 g2
    go_wp2
    go_ret2
    have o3 : w2.ownsRow w.heap.size 5 1 v2 k (cb l) := by
      have := O2.out
      rw [← HK.out, ← HL.out]
      unfold Nm.txt
      rw [List.length_append, HS.out]
      simpa using this
    obtain ⟨A, c, rfl, _, _, _⟩ := own_form o3
    exact ⟨A, c, rfl, o3, HB.out.trans B2.out⟩
theorem ntext_bad (s : ByteArray) (w : World) (h : 4096 < s.size) : Calls Try.prog 74 #[.string s] w fun e w' => e = .returned (.tuple #[.slice none 0 0, .int .i64 3]) ∧ w = w' := by
  go_enter Try.func74, Try.ntmps74
  go_wp2
  go_ret2
  exact ⟨rfl, rfl⟩

theorem getText_any (A : Option Addr) (n c B : Nat) (l : List UInt8) (w : World) (hr : Reads w B 1 A n (cb l)) (hc : n ≤ c) (hn : n ≤ 1000000000000) :
    Calls Try.prog 99 #[.slice A n c] w fun e w' => e = .returned (getTextV (Nm.getText l)) ∧ w = w' := by
  have hl := hr.len_b
  have HG := Lib.hid (get_any A n c B l w hr hn)
  cases hg : Nm.get l with
  | none =>
    have e : Nm.getText l = none := by unfold Nm.getText; rw [hg]
    rw [e]
    have HG2 : Hid (Calls Try.prog 96 #[.slice A n c] w fun e w' => e = .returned (.tuple #[.int .i64 0, .int .i64 0, .int .i64 8]) ∧ w = w') := by
      have := HG.out
      rw [hg] at this
      exact this
    clear HG hg e
    go_enter Try.func99, Try.ntmps99
    go_wp2_with (first | (with_reducible refine HG2.out.mono ?_; rintro e w' ⟨rfl, rfl⟩))
    go_ret3
    exact ⟨rfl, rfl⟩
  | some p =>
    obtain ⟨m, k⟩ := p
    obtain ⟨h1, h2, h3, h4⟩ := Nm.get_back hg
    have HG2 : Hid (Calls Try.prog 96 #[.slice A n c] w fun e w' => e = .returned (.tuple #[.int .i64 (m : Int), .int .i64 (k : Int), .int .i64 0]) ∧ w = w') := by
      have := HG.out
      rw [hg] at this
      exact this
    have hkn : k ≤ n := by omega
    by_cases hbad : 4096 < m ∨ n - k < m
    · have e : Nm.getText l = none := by unfold Nm.getText; rw [hg, hl]; simp only; rw [if_pos hbad]
      rw [e]
      clear HG hg e h2 h4
      by_cases hb1 : 4096 < m
      · clear hbad hl
        go_enter Try.func99, Try.ntmps99
        go_wp2_with (first | (with_reducible refine HG2.out.mono ?_; rintro e w' ⟨rfl, rfl⟩))
        go_ret3
        exact ⟨rfl, rfl⟩
      · have hb2 : (n : Int) - (k : Int) < (m : Int) := by omega
        clear hbad hl
        go_enter Try.func99, Try.ntmps99
        go_wp2_with (first | (with_reducible refine HG2.out.mono ?_; rintro e w' ⟨rfl, rfl⟩))
        go_ret3
        exact ⟨rfl, rfl⟩
    · have e : Nm.getText l = some ((l.drop k).take m, k + m) := by unfold Nm.getText; rw [hg, hl]; simp only; rw [if_neg hbad]
      rw [e]
      have hb1 : ¬ 4096 < m := by omega
      have hb2 : ¬ (n : Int) - (k : Int) < (m : Int) := by omega
      have hs := fun w => run_slice_mid (P := Try.prog) Try.underlying46 A n c k m (by omega) w u8_size
      have hr2 := (hr.rest (k := k) (c := c) (by omega) hc).first (k := m) (by omega)
      rw [cb_drop, cb_take] at hr2
      have hv := run_conv (P := Try.prog) Try.underlying46 Try.underlying5 Try.underlying9 (c := c - k) hr2
      clear HG hg e h2 h4 hr2 hr hl
      have H3 := Lib.hid h3
      clear hbad
      go_enter Try.func99, Try.ntmps99
      go_wp2_with (first | (with_reducible refine HG2.out.mono ?_; rintro e w' ⟨rfl, rfl⟩))
      go_ret3
      exact ⟨rfl, rfl⟩
end Go.Proofs.Ytaoekfgeggopbaa
