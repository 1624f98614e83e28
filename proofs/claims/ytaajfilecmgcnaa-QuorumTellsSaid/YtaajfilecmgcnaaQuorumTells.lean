/-
  The walk of QuorumTells: package quorum and the reference, call by call.
-/
import Derived.Test.YtaajfilecmgcnaaQuorumRefG
import Derived.Test.YtaajfilecmgcnaaAppI
import Derived.Test.YtaajfilecmgcnaaSameInts
import Derived.Test.YtaajfilecmgcnaaQuiet
import Derived.Test.YtaajfilecmgcnaaOpen
namespace Go.Proofs.Ytaajfilecmgcnaa
open Go.RowKit Go.Sort Go.BigFrame
set_option maxHeartbeats 1000000
set_option maxRecDepth 100000
set_option linter.unusedVariables false

theorem need_tri (n : Nat) (l : List Int) (hl : l.length = n) (hn : n ≤ 1000000) : ∃ d v : Int, (∀ A c B w, Reads w B 1 A n (ci l) → Calls Try.prog 35 #[.slice A n c] w fun e w' => e = .returned (.tuple #[.int .i64 d, .int .i64 v]) ∧ w = w') ∧
    ∀ A c B w, Reads w B 1 A n (ci l) → Calls Try.prog 39 #[.slice A n c] w fun e w' => e = .returned (.tuple #[.int .i64 d, .int .i64 v]) ∧ ∃ q, w' = w.drewN q := by
  by_cases h : Qm.check l = 0
  · exact ⟨_, _, fun A c B w hr => qneed_ok A n c B l w hr h, fun A c B w hr => rneed_ok A n c B l w hr h⟩
  · exact ⟨_, _, fun A c B w hr => qneed_bad A n c B l _ w hr (by omega) rfl h, fun A c B w hr => rneed_bad A n c B l _ w hr (by omega) rfl h⟩
theorem most_tri (n : Nat) (l : List Int) (n' : Nat) (l' : List Int) (hn : n ≤ 1000000) (hn' : n' ≤ 1000000) : ∃ (p : Bool) (v : Int), (∀ A c B A' c' B' w, Reads w B 1 A n (ci l) → Reads w B' 1 A' n' (ci l') → Calls Try.prog 34 #[.slice A n c, .slice A' n' c'] w fun e w' => e = .returned (.tuple #[.bool p, .int .i64 v]) ∧ w = w') ∧
    ∀ A c B A' c' B' w, Reads w B 1 A n (ci l) → Reads w B' 1 A' n' (ci l') → Calls Try.prog 40 #[.slice A n c, .slice A' n' c'] w fun e w' => e = .returned (.tuple #[.bool p, .int .i64 v]) ∧ ∃ q, w' = w.drewN q := by
  by_cases h : Qm.check l = 0
  · by_cases h2 : n' ≤ 1000
    · exact ⟨_, _, fun A c B A' c' B' w hr hr' => qmost_ok A n c B l A' n' c' B' l' w hr hr' h h2, fun A c B A' c' B' w hr hr' => rmost_ok A n c B l A' n' c' B' l' w hr hr' h h2⟩
    · exact ⟨_, _, fun A c B A' c' B' w hr _ => qmost_many A n c B l A' n' c' w hr h (by omega) (by omega), fun A c B A' c' B' w hr _ => rmost_many A n c B l A' n' c' w hr h (by omega) (by omega)⟩
  · exact ⟨_, _, fun A c B A' c' B' w hr _ => qmost_bad A n c B l A' n' c' _ w hr (by omega) rfl h, fun A c B A' c' B' w hr _ => rmost_bad A n c B l A' n' c' _ w hr (by omega) rfl h⟩

set_option maxHeartbeats 16000000 in
theorem quorumTells_walk (A : Option Addr) (n c : Nat) (l : List Int) (A1 : Option Addr) (n1 c1 : Nat) (l1 : List Int) (A2 : Option Addr) (n2 c2 : Nat) (l2 : List Int) (A3 : Option Addr) (n3 c3 : Nat) (l3 : List Int) (x : Int) (w : World) (hi : IsInts w A n c l) (hi1 : IsInts w A1 n1 c1 l1) (hg : IsGroup w A2 n2 c2 l2 A3 n3 c3 l3) (hx : -9223372036854775808 ≤ x ∧ x ≤ 9223372036854775807) :
    Calls Try.prog 14 #[.slice A n c, .slice A1 n1 c1, .agg #[.slice A2 n2 c2, .slice A3 n3 c3], .int .i64 x] w fun e w' => e = .returned (.bool true) ∧ Below w.heap.size w w' := by
  obtain ⟨hr, hc, hm, -⟩ := hi
  obtain ⟨hr1, hc1, hm1, -⟩ := hi1
  obtain ⟨⟨hr2, hc2, hm2, -⟩, ⟨hr3, hc3, hm3, -⟩⟩ := hg
  unfold maxLen at hm hm1 hm2 hm3
  have HL := Lib.hid hr.len_i
  have HR := Lib.hid hr
  have HR1 := Lib.hid hr1
  have HR2 := Lib.hid hr2
  have HR3 := Lib.hid hr3
  have B0 : Hid (Below w.heap.size w (w.alloc (.cells #[.slice A2 n2 c2, .slice A3 n3 c3] 64))) := Lib.hid ((Below.refl _ _).alloc (Nat.le_refl _) _)
  clear hr hr1 hr2 hr3
  by_cases q0 : 2000 < n
  · go_enter Try.func14, Try.ntmps14
    go_wp2
    go_ret
    exact ⟨rfl, B0.out⟩
  by_cases q1 : 2000 < n1
  · go_enter Try.func14, Try.ntmps14
    go_wp2
    go_ret
    exact ⟨rfl, B0.out⟩
  by_cases q2 : 2000 < n2
  · go_enter Try.func14, Try.ntmps14
    go_wp2
    go_ret
    exact ⟨rfl, B0.out⟩
  by_cases q3 : 2000 < n3
  · go_enter Try.func14, Try.ntmps14
    go_wp2
    go_ret
    exact ⟨rfl, B0.out⟩
  obtain ⟨d, v, p1, r1⟩ := need_tri n l HL.out (by omega)
  obtain ⟨p, u, p2, r2⟩ := most_tri n l n1 l1 (by omega) (by omega)
  have P1 := Lib.hid p1
  have Q1 := Lib.hid r1
  have P2 := Lib.hid p2
  have Q2 := Lib.hid r2
  clear p1 r1 p2 r2
  have BA : Hid (∀ t, Below w.heap.size w (w.alloc (.cells #[.slice A2 n2 c2, .slice A3 n3 c3] t))) := Lib.hid fun t => (Below.refl _ _).alloc (Nat.le_refl _) _
  obtain ⟨w0, hw0⟩ : ∃ w0, w.alloc (.cells #[.slice A2 n2 c2, .slice A3 n3 c3] 64) = w0 := ⟨_, rfl⟩
  have K0 : Hid (Blk w0 w.heap.size 64 #[.slice A2 n2 c2, .slice A3 n3 c3]) := Lib.hid (by rw [← hw0]; exact Blk.new _ _ _)
  rw [hw0] at B0
  have HW0 := Lib.hid hw0
  clear hw0
  have R0 := Lib.hid (HR.out.below B0.out |>.more B0.out.size)
  go_enter Try.func14, Try.ntmps14
  go_wp2_with (at_builtin; rw [HW0.out]; refine app_is rfl _ (.tmp 39) rfl w0.heap.size (.slice none 0 0) 0 [] rfl (World.ownsRow_nil _ _ _ _) w0.heap.size A n c l rfl R0.out ?d1 ?d2 ?_)
  case d1 => omega
  case d2 => exact Nat.le_refl _
  clear HW0
  intro v1 w1 o1 g1
  have B1 := Lib.hid (g1.below (Nat.le_refl _) (by simp [Value.ownBlock]))
  have O1 : Hid (w1.ownsRow w0.heap.size 3 1 v1 n (ci l)) := by simpa [Hid] using o1
  clear o1 g1
  obtain ⟨A4, c4, rfl, s1, _, _⟩ := own_form O1.out
  have R4 := Lib.hid s1
  clear s1
  have C1 := Lib.hid (then_ B0.out B1.out)
  have R1 := Lib.hid (HR1.out.below C1.out |>.more C1.out.size)
  go_wp2_with (at_builtin; refine app_is rfl _ (.tmp 41) rfl w1.heap.size (.slice none 0 0) 0 [] rfl (World.ownsRow_nil _ _ _ _) w1.heap.size A1 n1 c1 l1 rfl R1.out ?d1 ?d2 ?_)
  case d1 => omega
  case d2 => exact Nat.le_refl _
  intro v2 w2 o2 g2
  have B2 := Lib.hid (g2.below (Nat.le_refl _) (by simp [Value.ownBlock]))
  have O2 : Hid (w2.ownsRow w1.heap.size 3 1 v2 n1 (ci l1)) := by simpa [Hid] using o2
  clear o2 g2
  obtain ⟨A5, c5, rfl, s2, _, _⟩ := own_form O2.out
  have R5 := Lib.hid s2
  clear s2
  have C2 := Lib.hid (then_ C1.out B2.out)
  have RO := Lib.hid (R4.out.below B2.out)
  have RM := Lib.hid (HR.out.below C2.out)
  have RN := Lib.hid (HR1.out.below C2.out)
  have KG := Lib.hid (Blk.below (K0.out.below (B := w0.heap.size) B1.out K0.out.lt) B2.out (Nat.lt_of_lt_of_le K0.out.lt B1.out.size))
  go_wp2_with fail
  refine (P1.out A4 c4 _ w2 RO.out).mono ?_
  rintro e w' ⟨rfl, rfl⟩
  go_wp2_with fail
  refine (Q1.out A c _ w2 RM.out).mono ?_
  rintro e w' ⟨rfl, q, rfl⟩
  go_wp2_with fail
  refine (P2.out A4 c4 _ A5 c5 _ _ (RO.out.drewN q) (R5.out.drewN q)).mono ?_
  rintro e w' ⟨rfl, rfl⟩
  go_wp2_with fail
  refine (Q2.out A c _ A1 c1 _ _ (RM.out.drewN q) (RN.out.drewN q)).mono ?_
  rintro e w' ⟨rfl, q', rfl⟩
  rw [World.drewN_drewN]
  go_wp2_with fail
  have CW := Lib.hid (then_drewN C2.out (q + q'))
  have ro2 : Reads (w2.drewN (q + q')) (w2.drewN (q + q')).heap.size 1 A4 n (ci l) := (RO.out.more B2.out.size).drewN (q + q')
  have ri2 : Reads (w2.drewN (q + q')) (w2.drewN (q + q')).heap.size 1 A5 n1 (ci l1) := R5.out.drewN (q + q')
  have kg2 : Blk (w2.drewN (q + q')) w.heap.size 64 #[.slice A2 n2 c2, .slice A3 n3 c3] := KG.out.drewN (q + q')
  have RO2 := Lib.hid ro2
  have RI2 := Lib.hid ri2
  have KG2 := Lib.hid kg2
  clear ro2 ri2 kg2
  generalize w2.drewN (q + q') = W at *
  have BWW : ∀ {cur : World}, Below W.heap.size W cur → Below w.heap.size w cur := fun h => then_ CW.out h
  have F36 := Lib.hid (qb_same (W := W) fun cur ht => qcheck_any A4 n c4 _ l cur (RO2.out.below ht) (by omega))
  have F41 := Lib.hid (qb_drawn (W := W) fun cur ht => rcheck_any A n c _ l cur (HR.out.below (BWW ht)) (by omega))
  have F37 := Lib.hid (qb (W := W) fun cur ht => qgroup_any A2 n2 c2 l2 A3 n3 c3 l3 cur (HR2.out.below (BWW ht) |>.more (BWW ht).size) (HR3.out.below (BWW ht) |>.more (BWW ht).size) (by omega) (by omega))
  have F42 := Lib.hid (qb (W := W) fun cur ht => rgroup_any A2 n2 c2 l2 A3 n3 c3 l3 cur (HR2.out.below (BWW ht) |>.more (BWW ht).size) (HR3.out.below (BWW ht) |>.more (BWW ht).size) (by omega) (by omega))
  have F38 := Lib.hid (qb_same (W := W) fun cur ht => qhas_any A4 n c4 _ l x cur (RO2.out.below ht) (by omega))
  have F43 := Lib.hid (qb_same (W := W) fun cur ht => rhas_any A n c _ l x cur (HR.out.below (BWW ht)) (by omega))
  have F44 := Lib.hid (qb_drawn (W := W) fun cur ht => sameInts_yes A4 n c4 A n c _ _ l l cur (RO2.out.below ht) (HR.out.below (BWW ht)) (by omega) rfl)
  have F45 := Lib.hid (qb_drawn (W := W) fun cur ht => sameInts_yes A5 n1 c5 A1 n1 c1 _ _ l1 l1 cur (RI2.out.below ht) (HR1.out.below (BWW ht)) (by omega) rfl)
  have k0 := cell_regrown (KG2.out.cell 0)
  have k1 := cell_regrown (KG2.out.cell 1)
  clear BWW BA
  refine wp_region_quiet_below (by kernel_rfl) (by kernel_rfl) ?_
  repeat (go_big_quiet_step ((first | with_reducible exact F36.out _ _ | with_reducible exact F41.out _ _ | with_reducible exact F37.out _ _ | with_reducible exact F42.out _ _ | with_reducible exact F38.out _ _ | with_reducible exact F43.out _ _ | with_reducible exact F44.out _ _ | with_reducible exact F45.out _ _)))
  refine wpQuiet_nil ?_
  intro _ hw'
  obtain ⟨⟨dq, osq⟩, hw''⟩ := hw'
  subst hw''
  go_wp2
  go_ret
  exact ⟨rfl, then_ CW.out (below_regrown _ _ _)⟩
open Go.ChangeShapes Go.WideShapes Go.Joins in
theorem open_group {H : Type} {enc : TypeId × Value → H} {w : World} {base : Nat} {spare : Nat → Bool} {held : Bool} {r : Reach} {b0 : Nat} {v : Value} {d : DataW H} {ps : List MemPlace}
    (hv : Value.okWide Try.prog w r b0 64 v) (h : DataW.Trod enc Try.prog w base spare held 64 v d ps) : ∃ (A : Option Addr) (n c : Nat) (l : List Int) (A' : Option Addr) (n' c' : Nat) (m : List Int), v = .agg #[.slice A n c, .slice A' n' c'] ∧ IsGroup w A n c l A' n' c' m := by
  obtain ⟨c0, c1, y0, y1, k, rfl, _, _, hy0, hy1⟩ := open_agg2 Try.underlying64 (by kernel_rfl) cellsGroup hv h
  obtain ⟨A, n, c, l, rfl, h0⟩ := ints_trod Try.underlying39 Try.underlying3 (by kernel_rfl) hy0
  obtain ⟨A', n', c', m, rfl, h1⟩ := ints_trod Try.underlying39 Try.underlying3 (by kernel_rfl) hy1
  exact ⟨A, n, c, l, A', n', c', m, rfl, h0, h1⟩
end Go.Proofs.Ytaajfilecmgcnaa
