/-
  The walk of FrameCuts: package frame and the reference, call by call.
-/
import Derived.Test.YtaajfilecmgcnaaFrameRef
import Derived.Test.YtaajfilecmgcnaaTexts
namespace Go.Proofs.Ytaajfilecmgcnaa
open Go.RowKit
set_option maxHeartbeats 1000000
set_option maxRecDepth 100000
set_option linter.unusedVariables false

/-- A call that returns new bytes and an error's number. -/
def GivesB (f : FuncId) (args : Array Value) (l : List UInt8) (m : Nat) (x : Int) (w : World) : Prop :=
  Calls Try.prog f args w fun e w' => ∃ A c, e = .returned (.tuple #[.slice A m c, .int .i64 x]) ∧ Reads w' w'.heap.size 1 A m (cb l) ∧ Below w.heap.size w w'
/-- Strings, byte by byte. -/
def tb (l : List ByteArray) : List (List UInt8) := l.map fun s => s.data.toList
theorem tb_S (l : List ByteArray) : (tb l).map S = l := by
  unfold tb
  rw [List.map_map]
  conv => rhs; rw [← List.map_id l]
  apply List.map_congr_left
  intro s _
  exact S_of s
theorem frame_tri (s : ByteArray) : ∃ (l : List UInt8) (m : Nat) (x : Int), (∀ w, GivesB 25 #[.string s] l m x w) ∧ ∀ w, GivesB 30 #[.string s] l m x w := by
  by_cases h : s.size ≤ 4096
  · refine ⟨Nm.txt s.data.toList, (Nm.txt s.data.toList).length, 0, fun w => ?_, fun w => ?_⟩
    · refine (frame_ok s _ _ w h rfl rfl).mono ?_
      rintro e w' ⟨A, c, rfl, ho, hb⟩
      exact ⟨A, c, rfl, Reads.of_own ho, hb⟩
    · refine (rframe_ok s _ _ w h rfl rfl).mono ?_
      rintro e w' ⟨A, c, rfl, ho, hb⟩
      exact ⟨A, c, rfl, Reads.of_own ho, hb⟩
  · refine ⟨[], 0, 3, fun w => ?_, fun w => ?_⟩
    · refine (frame_bad s w (by omega)).mono ?_
      rintro e w' ⟨rfl, rfl⟩
      exact ⟨none, 0, rfl, Reads.none_, Below.refl _ _⟩
    · refine (rframe_bad s w (by omega)).mono ?_
      rintro e w' ⟨rfl, rfl⟩
      exact ⟨none, 0, rfl, Reads.none_, Below.refl _ _⟩
theorem join_tri (l : List ByteArray) (n : Nat) (hn : n ≤ 65536) : ∃ (b : List UInt8) (m : Nat) (x : Int),
    (∀ A c w, Reads w w.heap.size 1 A n (ct l) → GivesB 26 #[.slice A n c] b m x w) ∧ ∀ A c w, Reads w w.heap.size 1 A n (ct l) → GivesB 31 #[.slice A n c] b m x w := by
  cases hj : joinOk (tb l) with
  | true =>
    refine ⟨Nm.join (tb l), (Nm.join (tb l)).length, 0, fun A c w hr => ?_, fun A c w hr => ?_⟩
    · refine (join_any A n c (tb l) w (by rw [tb_S]; exact hr) hn).mono ?_
      rintro e w' (⟨_, A1, c1, rfl, ho, hb⟩ | ⟨h, _⟩)
      · exact ⟨A1, c1, rfl, Reads.of_own ho, hb⟩
      · rw [hj] at h; cases h
    · refine (rjoin_any A n c (tb l) w (by rw [tb_S]; exact hr) hn).mono ?_
      rintro e w' (⟨_, A1, c1, rfl, ho, hb⟩ | ⟨h, _⟩)
      · exact ⟨A1, c1, rfl, Reads.of_own ho, hb⟩
      · rw [hj] at h; cases h
  | false =>
    refine ⟨[], 0, 3, fun A c w hr => ?_, fun A c w hr => ?_⟩
    · refine (join_any A n c (tb l) w (by rw [tb_S]; exact hr) hn).mono ?_
      rintro e w' (⟨h, _⟩ | ⟨_, rfl, hb⟩)
      · rw [hj] at h; cases h
      · exact ⟨none, 0, rfl, Reads.none_, hb⟩
    · refine (rjoin_any A n c (tb l) w (by rw [tb_S]; exact hr) hn).mono ?_
      rintro e w' (⟨h, _⟩ | ⟨_, rfl, hb⟩)
      · rw [hj] at h; cases h
      · exact ⟨none, 0, rfl, Reads.none_, hb⟩

theorem frameCuts_walk (s : ByteArray) (A : Option Addr) (n c : Nat) (l : List ByteArray) (A' : Option Addr) (len cap : Nat) (b : List UInt8) (w : World) (hs : s.size ≤ maxLen) (hi : IsStrs w A n c l) (hb : IsBytes w A' len cap b) :
    Calls Try.prog 9 #[.string s, .slice A n c, .slice A' len cap] w fun e w' => e = .returned (.bool true) ∧ Below w.heap.size w w' := by
  obtain ⟨hr, hc, hm, h64⟩ := hi
  obtain ⟨hr', hc', hm'⟩ := hb
  unfold maxLen at hs hm hm'
  have HR := Lib.hid hr
  have HR' := Lib.hid hr'
  clear hr hr' h64
  go_enter Try.func9, Try.ntmps9
  go_wp2_with fail
  refine (great_any A n c _ l w HR.out (by omega)).mono ?_
  rintro e w' ⟨⟨r, rfl, hgr⟩, rfl⟩
  cases r with
  | true =>
    clear hgr
    go_wp2
    go_ret
    exact ⟨rfl, Below.refl _ _⟩
  | false =>
    have hn := hgr rfl
    clear hgr
    by_cases q1 : 5000 < s.size
    · go_wp2
      go_ret
      exact ⟨rfl, Below.refl _ _⟩
    · by_cases q2 : 100000 < len
      · go_wp2
        go_ret
        exact ⟨rfl, Below.refl _ _⟩
      · obtain ⟨l1, m1, x1, p1, r1⟩ := frame_tri s
        obtain ⟨l2, m2, x2, p2, r2⟩ := join_tri l n (by omega)
        have P1 := Lib.hid p1
        have Q1 := Lib.hid r1
        have P2 := Lib.hid p2
        have Q2 := Lib.hid r2
        clear p1 r1 p2 r2
        go_wp2_with (at_builtin; refine app_bs rfl _ (.tmp 34) rfl w.heap.size (.slice none 0 0) 0 [] rfl (World.ownsRow_nil _ _ _ _) w.heap.size A' len cap b rfl HR'.out ?c1 ?c2 ?_)
        case c1 => omega
        case c2 => exact Nat.le_refl _
        intro v1 w1 o1 g1
        have B1 := Lib.hid (g1.below (Nat.le_refl _) (by simp [Value.ownBlock]))
        have O1 : Hid (w1.ownsRow w.heap.size 5 1 v1 len (cb b)) := by simpa [Hid] using o1
        clear o1 g1
        obtain ⟨A1, c1, rfl, s1, hc1, _⟩ := own_form O1.out
        have R1 := Lib.hid s1
        clear s1
        go_wp2_with fail
        refine (P1.out w1).mono ?_
        rintro e w2 ⟨A2, c2, rfl, r2, b2⟩
        have R2 := Lib.hid r2
        have B2 := Lib.hid b2
        clear r2 b2
        go_wp2_with fail
        refine (Q1.out w2).mono ?_
        rintro e w3 ⟨A3, c3, rfl, r3, b3⟩
        have R3 := Lib.hid r3
        have B3 := Lib.hid b3
        clear r3 b3
        have C3 := Lib.hid (then_ (then_ B1.out B2.out) B3.out)
        go_wp2_with fail
        refine (P2.out A c w3 (HR.out.below C3.out |>.more C3.out.size)).mono ?_
        rintro e w4 ⟨A4, c4, rfl, r4, b4⟩
        have R4 := Lib.hid r4
        have B4 := Lib.hid b4
        clear r4 b4
        have C4 := Lib.hid (then_ C3.out B4.out)
        go_wp2_with fail
        refine (Q2.out A c w4 (HR.out.below C4.out |>.more C4.out.size)).mono ?_
        rintro e w5 ⟨A5, c5, rfl, r5, b5⟩
        have R5 := Lib.hid r5
        have B5 := Lib.hid b5
        clear r5 b5
        have C5 := Lib.hid (then_ C4.out B5.out)
        have D5 := Lib.hid (then_ (then_ (then_ B2.out B3.out) B4.out) B5.out)
        go_wp2_with fail
        refine (cut_any A1 len c1 b w5 (R1.out.below D5.out |>.more D5.out.size) hc1 (by omega)).mono ?_
        rintro e w6 ⟨A6, c6, rfl, o6, b6⟩
        have R6 := Lib.hid (Reads.of_own o6)
        have B6 := Lib.hid b6
        clear o6 b6
        have C6 := Lib.hid (then_ C5.out B6.out)
        go_wp2_with fail
        refine (rcut_any A' len cap b w6 (HR'.out.below C6.out |>.more C6.out.size) hc' (by omega)).mono ?_
        rintro e w7 ⟨A7, c7, rfl, o7, b7⟩
        have R7 := Lib.hid (Reads.of_own o7)
        have C67 := Lib.hid b7
        clear o7 b7
        have C57 := Lib.hid (then_ B6.out C67.out)
        have C47 := Lib.hid (then_ B5.out C57.out)
        have C37 := Lib.hid (then_ B4.out C47.out)
        have C27 := Lib.hid (then_ B3.out C37.out)
        have C17 := Lib.hid (then_ B2.out C27.out)
        have C7 := Lib.hid (then_ B1.out C17.out)
        obtain ⟨cn, hcn⟩ : ∃ k, (Nm.cut b).1.length = k := ⟨_, rfl⟩
        obtain ⟨ck, hck⟩ : ∃ k, (Nm.cut b).2 = k := ⟨_, rfl⟩
        have hcl := Nm.cut_le (b.length + 1) b
        have hbl := R1.out.len_b
        have hcnn : cn ≤ 1000000000000 := by rw [← hcn]; unfold Nm.cut; omega
        rw [hcn] at R6 R7 ⊢
        rw [hck]
        clear hcl hbl hcn hck
        have v1 := run_conv (P := Try.prog) Try.underlying30 Try.underlying5 Try.underlying9 (c := c2) (R2.out.below C27.out)
        have v2 := run_conv (P := Try.prog) Try.underlying30 Try.underlying5 Try.underlying9 (c := c3) (R3.out.below C37.out)
        have v3 := run_conv (P := Try.prog) Try.underlying30 Try.underlying5 Try.underlying9 (c := c4) (R4.out.below C47.out)
        have v4 := run_conv (P := Try.prog) Try.underlying30 Try.underlying5 Try.underlying9 (c := c5) (R5.out.below C57.out)
        go_wp2_with fail
        refine (sameTexts_yes A6 cn c6 A7 cn c7 _ _ _ _ w7 (R6.out.below C67.out) R7.out hcnn rfl).mono ?_
        rintro e w8 ⟨rfl, q, rfl⟩
        clear v1 v2 v3 v4
        have v5 := run_conv (P := Try.prog) Try.underlying30 Try.underlying5 Try.underlying9 (c := c1) ((R1.out.below C17.out).drewN q)
        have v6 := run_conv (P := Try.prog) Try.underlying30 Try.underlying5 Try.underlying9 (c := cap) ((HR'.out.below C7.out).drewN q)
        go_wp2
        go_ret
        exact ⟨rfl, then_drewN C7.out q⟩
end Go.Proofs.Ytaajfilecmgcnaa
