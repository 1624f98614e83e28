/-
  The walk of NumTexts: texts and lists that are written are read back; what is read is written as just these bytes.
-/
import Derived.Test.YtehjgnkolhdecaaNumIntsW
import Derived.Deep.DeepCutAuto
namespace Go.Proofs.Ytehjgnkolhdecaa
open Go.RowKit
set_option maxHeartbeats 1000000
set_option maxRecDepth 100000
set_option linter.unusedVariables false

def TextOr (s : ByteArray) (w' : World) (A : Option Addr) (k : Nat) (x : Int) : Prop := (x = 0 ∧ s.size ≤ 4096 ∧ (Nm.txt s.data.toList).length = k ∧ Reads w' w'.heap.size 1 A k (cb (Nm.txt s.data.toList))) ∨ (x = 3 ∧ 4096 < s.size)
theorem ntext_or (s : ByteArray) (w : World) : Calls Try.prog 20 #[.string s] w fun e w' => ∃ A k c x, e = .returned (.tuple #[.slice A k c, .int .i64 x]) ∧ Below w.heap.size w w' ∧ TextOr s w' A k x := by
  by_cases h : s.size ≤ 4096
  · refine (ntext_ok s _ _ w h rfl rfl).mono ?_
    rintro e w' ⟨A, c, rfl, ho, hb⟩
    exact ⟨A, _, c, 0, rfl, hb, Or.inl ⟨rfl, h, rfl, Reads.of_own ho⟩⟩
  · refine (ntext_bad s w (by omega)).mono ?_
    rintro e w' ⟨rfl, rfl⟩
    exact ⟨none, 0, 0, 3, rfl, Below.refl _ _, Or.inr ⟨rfl, by omega⟩⟩
def IntsOr (l : List Int) (w' : World) (A : Option Addr) (k : Nat) (x : Int) : Prop := (x = 0 ∧ l.length ≤ 4096 ∧ l.all Nm.inR = true ∧ (Nm.intsB l).length = k ∧ Reads w' w'.heap.size 1 A k (cb (Nm.intsB l))) ∨ (x ≠ 0 ∧ ¬ (l.length ≤ 4096 ∧ l.all Nm.inR = true))
theorem nints_or (A : Option Addr) (n c : Nat) (l : List Int) (w : World) (hr : Reads w w.heap.size 1 A n (ci l)) (hn : n ≤ 9223372036854775807) (hi64 : ∀ a ∈ l, -9223372036854775808 ≤ a ∧ a ≤ 9223372036854775807) :
    Calls Try.prog 22 #[.slice A n c] w fun e w' => ∃ A k c x, e = .returned (.tuple #[.slice A k c, .int .i64 x]) ∧ Below w.heap.size w w' ∧ IntsOr l w' A k x := by
  have hl := hr.len_i
  by_cases h : n ≤ 4096
  · refine (nints_any A n c l w hr h hi64).mono ?_
    intro e w' hp
    rcases hp with ⟨ha, A, c, rfl, ho, hb⟩ | ⟨ha, rfl, hb⟩
    · exact ⟨A, _, c, 0, rfl, hb, Or.inl ⟨rfl, by omega, ha, rfl, Reads.of_own ho⟩⟩
    · exact ⟨none, 0, 0, 2, rfl, hb, Or.inr ⟨by decide, by rw [ha]; simp⟩⟩
  · refine (nints_many A n c w (by omega) hn).mono ?_
    rintro e w' ⟨rfl, rfl⟩
    exact ⟨none, 0, 0, 4, rfl, Below.refl _ _, Or.inr ⟨by decide, by omega⟩⟩
def GetTextOr (b : List UInt8) (t : ByteArray) (k : Nat) (x : Int) : Prop := (x = 0 ∧ ∃ l, t = S l ∧ Nm.getText b = some (l, k)) ∨ (x = 8 ∧ t = ⟨#[]⟩ ∧ k = 0 ∧ Nm.getText b = none)
theorem getText_or (A : Option Addr) (n c B : Nat) (b : List UInt8) (w : World) (hr : Reads w B 1 A n (cb b)) (hc : n ≤ c) (hn : n ≤ 1000000000000) :
    Calls Try.prog 31 #[.slice A n c] w fun e w' => (∃ t k x, e = .returned (.tuple #[.string t, .int .i64 (k : Nat), .int .i64 x]) ∧ GetTextOr b t k x) ∧ w = w' := by
  refine (getText_any A n c B b w hr hc hn).mono ?_
  rintro e w' ⟨rfl, rfl⟩
  cases h : Nm.getText b with
  | none => exact ⟨⟨⟨#[]⟩, 0, 8, rfl, Or.inr ⟨rfl, rfl, rfl, h⟩⟩, rfl⟩
  | some p =>
    obtain ⟨l, k⟩ := p
    exact ⟨⟨S l, k, 0, rfl, Or.inl ⟨rfl, l, rfl, h⟩⟩, rfl⟩

theorem getText_is (A : Option Addr) (n c B : Nat) (l : List UInt8) (t : List UInt8) (s : ByteArray) (k : Nat) (w : World) (hr : Reads w B 1 A n (cb l)) (hc : n ≤ c) (hn : n ≤ 1000000000000) (h : Nm.getText l = some (t, k)) (hs : S t = s) :
    Calls Try.prog 31 #[.slice A n c] w fun e w' => e = .returned (.tuple #[.string s, .int .i64 (k : Int), .int .i64 0]) ∧ w = w' := by
  have := getText_any A n c B l w hr hc hn
  rw [h] at this
  subst hs
  exact this

theorem getInts_is (A : Option Addr) (n c : Nat) (l : List UInt8) (most : Nat) (r : List Int) (k m : Nat) (w : World) (hr : Reads w w.heap.size 1 A n (cb l)) (hc : n ≤ c) (hn : n ≤ 1000000000000) (hm : most ≤ 4096) (h : Nm.getInts l most = some (r, k)) (hl : r.length = m) :
    Calls Try.prog 33 #[.slice A n c, .int .i64 (most : Int)] w fun e w' => ∃ A' c', e = .returned (.tuple #[.slice A' m c', .int .i64 (k : Int), .int .i64 0]) ∧ Reads w' w'.heap.size 1 A' m (ci r) ∧ Below w.heap.size w w' := by
  subst hl
  refine (ngetInts_any A n c l most w hr hc hn hm).mono fun e w' hp => ?_
  rw [h] at hp
  obtain ⟨A', c', rfl, ho, hb⟩ := hp
  exact ⟨A', c', rfl, Reads.of_own ho, hb⟩

theorem getInts_no (A : Option Addr) (n c : Nat) (l : List UInt8) (most : Nat) (w : World) (hr : Reads w w.heap.size 1 A n (cb l)) (hc : n ≤ c) (hn : n ≤ 1000000000000) (hm : most ≤ 4096) (h : Nm.getInts l most = none) :
    Calls Try.prog 33 #[.slice A n c, .int .i64 (most : Int)] w fun e w' => e = .returned (.tuple #[.slice none 0 0, .int .i64 0, .int .i64 8]) ∧ Below w.heap.size w w' := by
  refine (ngetInts_any A n c l most w hr hc hn hm).mono fun e w' hp => ?_
  rw [h] at hp
  exact hp
theorem ints_ok (A : Option Addr) (n c : Nat) (l : List Int) (b : List UInt8) (k : Nat) (w : World) (hr : Reads w w.heap.size 1 A n (ci l)) (hn : n ≤ 4096) (hi64 : ∀ a ∈ l, -9223372036854775808 ≤ a ∧ a ≤ 9223372036854775807) (ha : l.all Nm.inR = true) (hb : Nm.intsB l = b) (hk : b.length = k) :
    Calls Try.prog 22 #[.slice A n c] w fun e w' => ∃ A c, e = .returned (.tuple #[.slice A k c, .int .i64 0]) ∧ Reads w' w'.heap.size 1 A k (cb b) ∧ Below w.heap.size w w' := by
  subst hk hb
  refine (nints_any A n c l w hr hn hi64).mono fun e w' hp => ?_
  rcases hp with ⟨_, A', c', rfl, ho, hb⟩ | ⟨h1, _⟩
  · exact ⟨A', c', rfl, Reads.of_own ho, hb⟩
  · rw [ha] at h1
    cases h1

theorem numTexts_walk (s : ByteArray) (A1 : Option Addr) (n1 c1 : Nat) (li : List Int) (A2 : Option Addr) (n2 c2 : Nat) (lb : List UInt8) (w : World) (hs : s.size ≤ maxLen) (hi : IsInts w A1 n1 c1 li) (hb : IsBytes w A2 n2 c2 lb) :
    Calls Try.prog 12 #[.string s, .slice A1 n1 c1, .slice A2 n2 c2] w fun e w' => e = .returned (.bool true) ∧ Below w.heap.size w w' := by
  obtain ⟨hri, hc1, hm1, h64⟩ := hi
  obtain ⟨hrb, hc2, hm2⟩ := hb
  unfold maxLen at hs hm1 hm2
  by_cases hbig : 10000 < n2 ∨ 10000 < s.size ∨ 5000 < n1
  · have hmain : ∀ (q : 10000 < n2 ∨ (¬ 10000 < n2 ∧ 10000 < s.size) ∨ (¬ 10000 < n2 ∧ ¬ 10000 < s.size ∧ 5000 < n1)), Calls Try.prog 12 #[.string s, .slice A1 n1 c1, .slice A2 n2 c2] w fun e w' => e = .returned (.bool true) ∧ Below w.heap.size w w' := by
      clear hri hrb h64 hbig
      intro q
      rcases q with q | q | q
      · go_enter Try.func12, Try.ntmps12
        go_wp2_with fail
        refine (alive01 w).mono ?_
        rintro e w1 ⟨rfl, b1⟩
        have B1 := Lib.hid b1
        clear b1
        go_wp2
        go_ret
        exact ⟨rfl, B1.out⟩
      · obtain ⟨q1, q2⟩ := q
        go_enter Try.func12, Try.ntmps12
        go_wp2_with fail
        refine (alive01 w).mono ?_
        rintro e w1 ⟨rfl, b1⟩
        have B1 := Lib.hid b1
        clear b1
        go_wp2
        go_ret
        exact ⟨rfl, B1.out⟩
      · obtain ⟨q1, q2, q3⟩ := q
        go_enter Try.func12, Try.ntmps12
        go_wp2_with fail
        refine (alive01 w).mono ?_
        rintro e w1 ⟨rfl, b1⟩
        have B1 := Lib.hid b1
        clear b1
        go_wp2
        go_ret
        exact ⟨rfl, B1.out⟩
    exact hmain (by omega)
  · have q1 : ¬ 10000 < n2 := by omega
    have q2 : ¬ 10000 < s.size := by omega
    have q3 : ¬ 5000 < n1 := by omega
    have HRI := Lib.hid hri
    have HRB := Lib.hid hrb
    have H64 := Lib.hid h64
    clear hri hrb h64 hbig
    go_enter Try.func12, Try.ntmps12
    go_wp2_with fail
    refine (alive01 w).mono ?_
    rintro e w1 ⟨rfl, b1⟩
    have B1 := Lib.hid b1
    clear b1
    go_wp2_with fail
    refine (ntext_or s w1).mono ?_
    rintro e w2 ⟨A3, k3, c3, x3, rfl, b2, hx3⟩
    have B2 := Lib.hid (then_ B1.out b2)
    have HX3 := Lib.hid hx3
    clear b2 hx3
    go_upto_if 48 with fail
    go_cut [12] (fun _ wx => Below w.heap.size w wx)
    case first =>
      rcases HX3.out with ⟨rfl, hsz, hk, hrd⟩ | ⟨rfl, hsz⟩
      · have hk2 : k3 ≤ 4106 := by
          rw [← hk]
          unfold Nm.txt
          rw [List.length_append, size_data]
          have := Nm.enc_len10 (n := s.size) (by omega)
          omega
        have HK := Lib.hid hk
        have HRD := Lib.hid hrd
        clear hk hrd
        go_wp2_with (at_builtin; refine app_bs rfl _ (.tmp 50) rfl w2.heap.size (.slice none 0 0) 0 [] rfl (World.ownsRow_nil _ _ _ _) w2.heap.size A3 k3 c3 (Nm.txt s.data.toList) rfl HRD.out ?c1 ?c2 ?_)
        case c1 => omega
        case c2 => exact Nat.le_refl _
        intro v3 w3 o3 g3
        have B3 := Lib.hid (g3.below (Nat.le_refl _) (by simp [Value.ownBlock]))
        have O3 : Hid (w3.ownsRow w2.heap.size 5 1 v3 k3 (cb (Nm.txt s.data.toList))) := by simpa [Hid] using o3
        clear o3 g3
        have r3 := Lib.hid ((HRB.out.below B2.out).below (B3.out.mono B2.out.size))
        go_wp2_with (at_builtin; refine app_bs rfl _ (.tmp 52) rfl w2.heap.size v3 k3 (Nm.txt s.data.toList) rfl O3.out w.heap.size A2 n2 c2 lb rfl r3.out ?c1 ?c2 ?_)
        case c1 => omega
        case c2 => exact B3.out.size
        intro v4 w4 o4 g4
        have B4 := Lib.hid (g4.belowOwn O3.out B3.out.size)
        have O4 := Lib.hid o4
        clear o4 g4
        obtain ⟨A4, c4, rfl, r4, hc4, _⟩ := own_form O4.out
        have R4 := Lib.hid r4
        clear r4
        have hgt : Nm.getText (Nm.txt s.data.toList ++ lb) = some (s.data.toList, k3) := by
          rw [← HK.out]
          exact Nm.getText_txt (by rw [size_data]; exact hsz) lb
        have HGT := Lib.hid hgt
        clear hgt
        go_wp2_with fail
        refine (getText_is A4 (k3 + n2) c4 _ _ s.data.toList s k3 w4 R4.out hc4 (by omega) HGT.out (S_of s)).mono ?_
        rintro e w5 ⟨rfl, rfl⟩
        go_wp2_with fail
        go_meet
        exact then_ B2.out (B3.out.trans B4.out)
      · go_wp2_with fail
        go_meet
        exact B2.out
    case rest =>
      have BC := Lib.hid hcut
      clear hcut
      go_wp2_with fail
      refine (nints_or A1 n1 c1 li wc (HRI.out.below BC.out |>.more BC.out.size) (by omega) H64.out).mono ?_
      rintro e w3 ⟨A4, k4, c4, x4, rfl, b3, hx4⟩
      have B3 := Lib.hid (then_ BC.out b3)
      have HX4 := Lib.hid hx4
      clear b3 hx4
      go_upto_if 77 with fail
      go_cut [15] (fun _ wx => Below w.heap.size w wx)
      case first =>
        rcases HX4.out with ⟨rfl, hle, hall, hk, hrd⟩ | ⟨hx0, hno⟩
        · have hin : ∀ a ∈ li, Nm.inR a = true := List.all_eq_true.1 hall
          have hk2 : k4 ≤ 40000 := by
            rw [← hk]
            unfold Nm.intsB
            rw [List.length_append]
            have := Nm.enc_len10 (n := li.length) (by omega)
            have := Nm.many_len li hin
            omega
          have hgi := Nm.getInts_ints hle hin lb
          rw [hk] at hgi
          have HGI := Lib.hid hgi
          have HK := Lib.hid hk
          have HRD := Lib.hid hrd
          have HLE := Lib.hid hle
          have HL1 := Lib.hid (HRI.out.len_i)
          clear hk hrd hgi hin hall hle
          go_wp2_with (at_builtin; refine app_bs rfl _ (.tmp 79) rfl w3.heap.size (.slice none 0 0) 0 [] rfl (World.ownsRow_nil _ _ _ _) w3.heap.size A4 k4 c4 (Nm.intsB li) rfl HRD.out ?c1 ?c2 ?_)
          case c1 => omega
          case c2 => exact Nat.le_refl _
          intro v5 w5 o5 g5
          have B5 := Lib.hid (g5.below (Nat.le_refl _) (by simp [Value.ownBlock]))
          have O5 : Hid (w5.ownsRow w3.heap.size 5 1 v5 k4 (cb (Nm.intsB li))) := by simpa [Hid] using o5
          clear o5 g5
          have r5 := Lib.hid ((HRB.out.below B3.out).below (B5.out.mono B3.out.size))
          go_wp2_with (at_builtin; refine app_bs rfl _ (.tmp 81) rfl w3.heap.size v5 k4 (Nm.intsB li) rfl O5.out w.heap.size A2 n2 c2 lb rfl r5.out ?c1 ?c2 ?_)
          case c1 => omega
          case c2 => exact B5.out.size
          intro v6 w6 o6 g6
          have B6 := Lib.hid (g6.belowOwn O5.out B5.out.size)
          have O6 := Lib.hid o6
          clear o6 g6
          obtain ⟨A6, c6, rfl, r6, hc6, _⟩ := own_form O6.out
          have R6 := Lib.hid r6
          clear r6
          have C6 := Lib.hid (then_ B3.out (B5.out.trans B6.out))
          go_wp2_with fail
          refine (getInts_is A6 (k4 + n2) c6 _ 4096 li k4 n1 w6 R6.out hc6 (by omega) (by omega) HGI.out HL1.out).mono ?_
          rintro e w7 ⟨A7, c7, rfl, r7, b7⟩
          have R7 := Lib.hid r7
          have C7 := Lib.hid (then_ C6.out b7)
          have RI7 := Lib.hid (HRI.out.below C7.out)
          clear r7 b7
          go_wp2_with fail
          go_loopw [16] (fun y wr => ∃ k : Nat, y = .int .i64 (k : Int) ∧ k ≤ n1 ∧ ∃ q, wr = w7.drewN q) (fun y _ => n1 - (intOf y).toNat)
          case atStart => exact ⟨0, rfl, by omega, 0, rfl⟩
          case round =>
            obtain ⟨k, rfl, hk, q, rfl⟩ := hrel
            by_cases hlt : k < n1
            · obtain ⟨ad, u, rfl, hbl, hu, hc⟩ := R7.out.at_ hlt
              obtain ⟨ad', u', rfl, hbl', hu', hc'⟩ := RI7.out.at_ hlt
              rw [hu] at hu'
              injection hu' with hu'
              subst hu'
              have hl1 := HL1.out
              have hg : li[k]? = some (li[k]'(by omega)) := List.getElem?_eq_getElem (by omega)
              rw [ci_get, hg] at hu
              simp only [Option.map_some, Option.some.injEq] at hu
              subst hu
              obtain ⟨z, hz⟩ : ∃ z, li[k]'(by omega) = z := ⟨_, rfl⟩
              rw [hz] at hc hc'
              clear hz hg hl1
              go_wp2_with fail
              go_quiet (fail)
              go_wp2
              go_roundw
              case rel => exact ⟨k + 1, by go_num, by omega, _, rfl⟩
              case measure => simp [intOf]; omega
            · go_wp2_with fail
              go_meet
              exact below_drewN C7.out q
        · have hx1 : (x4 == 0) = false := by simpa using hx0
          clear hx0 hno
          go_wp2_with fail
          go_meet
          exact B3.out
      case rest =>
        have BD := Lib.hid hcut
        clear hcut
        have RB := Lib.hid (HRB.out.below BD.out)
        go_wp2_with fail
        refine (getText_or A2 n2 c2 _ lb _ RB.out hc2 (by omega)).mono ?_
        rintro e w4 ⟨⟨t5, k5, x5, rfl, hx5⟩, rfl⟩
        have HX5 := Lib.hid hx5
        clear hx5
        go_upto_if 124 with fail
        go_cut [21] (fun _ wx => Below w.heap.size w wx)
        case first =>
          rcases HX5.out with ⟨rfl, l5, rfl, hg5⟩ | ⟨rfl, rfl, rfl, hg5⟩
          · obtain ⟨g1, g2, g3, g4, g5⟩ := Nm.getText_back hg5
            have hL := HRB.out.len_b
            rw [hL] at g3
            have HS5 : Hid ((S l5).size ≤ 4096) := by rw [Hid, S_size]; exact g1
            have HT5 : Hid (Nm.txt (S l5).data.toList = lb.take k5) := g4
            have HK5 : Hid ((lb.take k5).length = k5) := by rw [Hid, List.length_take, hL]; omega
            have HW := Lib.hid BD.out
            clear hg5 g1 g2 g4 g5 hL
            obtain ⟨y, hy⟩ : ∃ y, lb.take k5 = y := ⟨_, rfl⟩
            rw [hy] at HT5 HK5
            have HY := Lib.hid hy
            clear hy
            go_wp2_with fail
            refine (ntext_ok (S l5) y k5 _ HS5.out HT5.out HK5.out).mono ?_
            rintro e w8 ⟨A8, c8, rfl, o8, b8⟩
            have B8 := Lib.hid (then_ BD.out b8)
            have r8 := Reads.of_own o8
            have s1 : ∀ w, (Instr.slice 23 (.slice A2 n2 c2) none (some (.int .i64 (k5 : Int))) none).run Try.prog w = .ok (.slice A2 k5 c2) w := fun w => run_slice_to Try.underlying23 A2 n2 c2 k5 (by omega) w u8_size
            have r9 := ((HRB.out.below B8.out).first (k := k5) g3)
            rw [cb_take, HY.out] at r9
            have v1 := fun q => run_conv (P := Try.prog) Try.underlying23 Try.underlying5 Try.underlying9 (w := w8.drewN q) (c := c2) (r9.drewN q)
            have v2 := fun q => run_conv (P := Try.prog) Try.underlying23 Try.underlying5 Try.underlying9 (w := w8.drewN q) (c := c8) (r8.drewN q)
            have d1 : decide ((n2 : Int) < (k5 : Int)) = false := by simp; omega
            clear o8 b8 r8 r9
            go_wp2_with fail
            go_quiet (fail)
            go_wp2_with fail
            go_meet
            exact below_drewN B8.out _
          · go_wp2_with fail
            go_meet
            exact BD.out
        case rest =>
          have BE := Lib.hid hcut
          clear hcut
          have RB := Lib.hid (HRB.out.below BE.out)
          have RB2 := Lib.hid (RB.out.more BE.out.size)
          cases hgi : Nm.getInts lb 4096 with
          | none =>
            have HGI := Lib.hid hgi
            clear hgi
            go_wp2_with fail
            refine (getInts_no A2 n2 c2 lb 4096 _ RB2.out hc2 (by omega) (by omega) HGI.out).mono ?_
            rintro e w9 ⟨rfl, b9⟩
            have B9 := Lib.hid (then_ BE.out b9)
            clear b9
            go_wp2
            go_ret
            exact ⟨rfl, B9.out⟩
          | some p =>
            obtain ⟨r, k6⟩ := p
            obtain ⟨g1, g2, g3, g4, g5⟩ := Nm.getInts_back hgi
            have hL := HRB.out.len_b
            rw [hL] at g4
            have HK6 : Hid ((lb.take k6).length = k6) := by rw [Hid, List.length_take, hL]; omega
            have hallr : r.all Nm.inR = true := List.all_eq_true.2 g2
            have h64r : ∀ a ∈ r, -9223372036854775808 ≤ a ∧ a ≤ 9223372036854775807 := fun a ha => by
              have := Nm.inR_yes (g2 a ha)
              omega
            obtain ⟨m, hm⟩ : ∃ m, r.length = m := ⟨_, rfl⟩
            rw [hm] at g1
            have HGI := Lib.hid hgi
            have HM := Lib.hid hm
            have HALL := Lib.hid hallr
            have H64R := Lib.hid h64r
            have HG5 := Lib.hid g5
            clear hgi hm hallr h64r g2 g3 g5 hL
            obtain ⟨y, hy⟩ : ∃ y, lb.take k6 = y := ⟨_, rfl⟩
            rw [hy] at HK6 HG5
            have HY := Lib.hid hy
            clear hy
            go_wp2_with fail
            refine (getInts_is A2 n2 c2 lb 4096 r k6 m _ RB2.out hc2 (by omega) (by omega) HGI.out HM.out).mono ?_
            rintro e w9 ⟨A9, c9, rfl, r9, b9⟩
            have B9 := Lib.hid (then_ BE.out b9)
            have R9 := Lib.hid r9
            clear r9 b9
            go_wp2_with fail
            refine (ints_ok A9 m c9 r y k6 w9 R9.out g1 H64R.out HALL.out HG5.out HK6.out).mono ?_
            rintro e w10 ⟨A10, c10, rfl, r10, b10⟩
            have B10 := Lib.hid (then_ B9.out b10)
            have s1 : ∀ w, (Instr.slice 23 (.slice A2 n2 c2) none (some (.int .i64 (k6 : Int))) none).run Try.prog w = .ok (.slice A2 k6 c2) w := fun w => run_slice_to Try.underlying23 A2 n2 c2 k6 (by omega) w u8_size
            have r11 := ((HRB.out.below B10.out).first (k := k6) g4)
            rw [cb_take, HY.out] at r11
            have v1 := fun q => run_conv (P := Try.prog) Try.underlying23 Try.underlying5 Try.underlying9 (w := w10.drewN q) (c := c2) (r11.drewN q)
            have v2 := fun q => run_conv (P := Try.prog) Try.underlying23 Try.underlying5 Try.underlying9 (w := w10.drewN q) (c := c10) (r10.drewN q)
            have d1 : decide ((k6 : Int) ≤ (n2 : Int)) = true := by simp; omega
            clear r10 b10 r11
            go_wp2_with fail
            go_quiet (fail)
            go_wp2
            go_ret
            exact ⟨rfl, below_drewN B10.out _⟩
end Go.Proofs.Ytehjgnkolhdecaa
