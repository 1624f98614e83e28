/-
  Contracts of the reference of layer 1: IntsBytes, Ints, GetInts, SameInts.
-/
import Derived.Test.YtaoekfgeggopbaaNumRef
import Derived.Test.YtaoekfgeggopbaaNumIntsW
namespace Go.Proofs.Ytaoekfgeggopbaa
open Go.RowKit
set_option maxHeartbeats 400000
set_option maxRecDepth 100000
set_option linter.unusedVariables false

theorem own_below {w w' : World} {base n size : Nat} {e : TypeId} {v : Value} {xs : List Value} (h : w.ownsRow base e size v n xs) (hb : Below w.heap.size w w') : w'.ownsRow base e size v n xs :=
  h.kept (only_of_below hb none) (by cases v.ownBlock <;> simp)
theorem intsRel_own {l : List Int} {w wr : World} {x : Value} {k : Nat} (hk : l.length ≤ k) (hw : wr.ownsRow w.heap.size 5 1 x (Nm.enc l.length ++ Nm.many (l.take k)).length (cb (Nm.enc l.length ++ Nm.many (l.take k)))) :
    ∃ A c, x = .slice A (Nm.intsB l).length c ∧ wr.ownsRow w.heap.size 5 1 (.slice A (Nm.intsB l).length c) (Nm.intsB l).length (cb (Nm.intsB l)) := by
  rw [List.take_of_length_le hk] at hw
  obtain ⟨A, c, rfl, _, _, _⟩ := own_form hw
  exact ⟨A, c, rfl, hw⟩

theorem rintsBytes (A : Option Addr) (n c : Nat) (l : List Int) (w : World) (hr : Reads w w.heap.size 1 A n (ci l)) (hn : n ≤ 4096) (hin : ∀ a ∈ l, Nm.inR a = true) :
    Calls Try.prog 79 #[.slice A n c] w fun e w' => ∃ A c, e = .returned (.slice A (Nm.intsB l).length c) ∧ w'.ownsRow w.heap.size 5 1 (.slice A (Nm.intsB l).length c) (Nm.intsB l).length (cb (Nm.intsB l)) ∧ Below w.heap.size w w' := by
  have hl := hr.len_i
  have HI := Lib.hid hin
  clear hin
  go_enter Try.func79, Try.ntmps79
  go_wp2_with fail
  refine (rbytes_any n w (by omega) (by omega)).mono ?_
  rintro e w1 ⟨A1, c1, rfl, o1, b1⟩
  have B1 := Lib.hid b1
  have O1 : Hid (w1.ownsRow w.heap.size 5 1 (.slice A1 (Nm.enc n).length c1) (Nm.enc l.length).length (cb (Nm.enc l.length))) := by simpa [Hid, hl] using o1
  clear o1 b1
  go_wp2_with fail
  go_loopw [3, 4] (fun x y wr => IntsRel l w x y wr) (fun _ y _ => n - (intOf y).toNat)
  case atStart => exact ⟨0, rfl, by omega, by simp, by simpa [Nm.many] using O1.out, B1.out⟩
  case round =>
    obtain ⟨k, rfl, hk, ha, hw, hb⟩ := hrel
    by_cases hlt : k < n
    · obtain ⟨ad, u, rfl, hbl, hu, hc⟩ := (hr.below hb).at_ hlt
      have hg : l[k]? = some (l[k]'(by omega)) := List.getElem?_eq_getElem (by omega)
      rw [ci_get, hg] at hu
      simp only [Option.map_some, Option.some.injEq] at hu
      subst hu
      have hlen := Nm.many_len (l.take k) ha
      have hlen2 : (Nm.enc l.length ++ Nm.many (l.take k)).length ≤ 1000000 := by
        have := Nm.enc_len10 (n := l.length) (by omega)
        rw [List.length_append]
        rw [List.length_take] at hlen
        omega
      have hin := HI.out _ (List.getElem_mem (l := l) (n := k) (by omega))
      obtain ⟨i1, i2⟩ := Nm.inR_yes hin
      have hz6 := Nm.enc_len6 (n := (l[k]'(by omega)).toNat) (by omega)
      have HIN := Lib.hid hin
      have HA := Lib.hid ha
      have HW := Lib.hid hw
      have HB := Lib.hid hb
      have HR := Lib.hid hr
      clear hin ha hw hb hr hg hlen
      obtain ⟨z, hz⟩ : ∃ z, l[k]'(by omega) = z := ⟨_, rfl⟩
      rw [hz] at hc i1 i2 hz6
      have HZ := Lib.hid hz
      clear hz
      obtain ⟨q, hq⟩ : ∃ q, Nm.enc z.toNat = q := ⟨_, rfl⟩
      rw [hq] at hz6
      have HQ := Lib.hid hq
      go_wp2_with fail
      refine (rbytes_any z wr i1 (by omega)).mono ?_
      rw [hq]
      clear hq
      rintro e w2 ⟨A2, c2, rfl, o2, b2⟩
      have B2 := Lib.hid b2
      have R2 := Lib.hid (Reads.of_own o2)
      have W2 : Hid (w2.ownsRow w.heap.size 5 1 u3 (Nm.enc l.length ++ Nm.many (l.take k)).length (cb (Nm.enc l.length ++ Nm.many (l.take k)))) := own_below HW.out b2
      have G2 : Hid (Grew wr w2 u3 u3) := ⟨only_of_below b2 _, Or.inl rfl⟩
      have hz2 := b2.size
      clear o2 b2
      go_wp2_with (at_builtin; refine app_bs rfl (.tmp 14) (.tmp 19) rfl w.heap.size u3 _ _ rfl W2.out w2.heap.size A2 q.length c2 q rfl R2.out ?c1 ?c2 ?_)
      case c1 => omega
      case c2 => exact Nat.le_trans HB.out.size hz2
      intro v3 w3 o3 g3
      have O3 := Lib.hid o3
      have G3 := Lib.hid g3
      clear o3 g3
      go_wp2
      go_roundw
      case rel => exact intsRel_step (k := k) (by omega) HA.out HIN.out HB.out HW.out (by rw [HZ.out, HQ.out]; simpa [hl] using O3.out) (G2.out.trans G3.out)
      case measure => simp [intOf]; omega
    · have HA := Lib.hid ha
      have HW := Lib.hid hw
      have HB := Lib.hid hb
      clear ha hw hb hr
      go_wp2
      go_ret
      obtain ⟨A, c, rfl, e2⟩ := intsRel_own (k := k) (by omega) HW.out
      exact ⟨A, c, rfl, e2, HB.out⟩

theorem rgetInts_any (A : Option Addr) (n cp : Nat) (b : List UInt8) (most : Nat) (w : World) (hr : Reads w w.heap.size 1 A n (cb b)) (hcp : n ≤ cp) (hn : n ≤ 1000000000000) (hm : most ≤ 4096) :
    Calls Try.prog 101 #[.slice A n cp, .int .i64 (most : Int)] w (GetIntsPost (Nm.getInts b most) w) := by
  have hl := hr.len_b
  cases hg : Nm.get b with
  | none =>
    have e : Nm.getInts b most = none := by unfold Nm.getInts; rw [hg]
    rw [e]
    have HG := Lib.hid (rget_no A n cp _ b w hr hn hg)
    clear hg e hr
    go_enter Try.func101, Try.ntmps101
    go_wp2_with (first | (with_reducible refine HG.out.mono ?_; rintro e w' ⟨rfl, rfl⟩))
    go_ret3
    exact ⟨rfl, Below.refl _ _⟩
  | some p =>
    obtain ⟨c, k0⟩ := p
    have HG := Lib.hid (rget_is A n cp _ b c k0 w hr hn hg)
    obtain ⟨q1, q2, q3, q4⟩ := Nm.get_back hg
    by_cases hc : most < c
    · have e : Nm.getInts b most = none := by unfold Nm.getInts; rw [hg]; simp only; rw [if_pos hc]
      rw [e]
      clear hg e hr q4 q2
      go_enter Try.func101, Try.ntmps101
      go_wp2_with (first | (with_reducible refine HG.out.mono ?_; rintro e w' ⟨rfl, rfl⟩))
      go_ret3
      exact ⟨rfl, Below.refl _ _⟩
    · have e : Nm.getInts b most = (Nm.ints c (b.drop k0)).map fun p => (p.1, k0 + p.2) := by unfold Nm.getInts; rw [hg]; simp only; rw [if_neg hc]
      rw [e]
      clear hg e q4 q2
      have HL := Lib.hid hl
      clear hl
      go_enter Try.func101, Try.ntmps101
      go_wp2_with (first | (with_reducible refine HG.out.mono ?_; rintro e w' ⟨rfl, rfl⟩))
      go_loopw [10, 8, 11] (fun x s y wr => GetIntsRel b c k0 w x s y wr) (fun _ _ y _ => c - (intOf y).toNat)
      case atStart => exact ⟨0, k0, [], rfl, rfl, by omega, Nat.le_refl _, q3, rfl, World.ownsRow_nil _ _ _ _, Below.refl _ _, by simp⟩
      case round =>
        obtain ⟨i, at', acc, rfl, rfl, hi, h0, ha, hla, ho, hb, he⟩ := hrel
        have hle := HL.out
        by_cases hlt : i < c
        · have hs := fun w => run_slice_from (P := Try.prog) Try.underlying46 A n cp at' (by omega) w u8_size
          have hr2 := ((hr.below hb).rest (k := at') (c := cp) (by omega) hcp)
          rw [cb_drop] at hr2
          cases hgg : Nm.get (b.drop at') with
          | none =>
            have HG2 := Lib.hid (rget_no _ (n - at') (cp - at') _ _ wr hr2 (by omega) hgg)
            have HGG := Lib.hid hgg
            have HE := Lib.hid he
            have HB := Lib.hid hb
            clear hgg he hb ho hr hr2 hla hle
            go_wp2_with (first | (with_reducible refine HG2.out.mono ?_; rintro e w' ⟨rfl, rfl⟩))
            go_ret3
            exact getIntsRel_bad hlt HB.out HE.out HGG.out
          | some p =>
            obtain ⟨z, kz⟩ := p
            have HG2 := Lib.hid (rget_is _ (n - at') (cp - at') _ _ z kz wr hr2 (by omega) hgg)
            have hkz := (Nm.get_back hgg).2.2.1
            rw [List.length_drop] at hkz
            have HGG := Lib.hid hgg
            have HE := Lib.hid he
            have HB := Lib.hid hb
            have HO := Lib.hid ho
            have HLA := Lib.hid hla
            have HR := Lib.hid hr
            clear hgg he hb ho hr hr2 hla
            go_wp2_with fail
            refine HG2.out.mono ?_
            rintro e w' ⟨rfl, rfl⟩
            go_wp2_with (at_builtin; refine app_i1 rfl (.tmp 49) (.tmp 51) rfl w.heap.size u10 i acc rfl HO.out (z : Int) rfl ?c1 ?c2 ?_)
            case c1 => omega
            case c2 => exact HB.out.size
            intro v2 w2 o2 g2
            have O2 := Lib.hid o2
            have G2 := Lib.hid g2
            clear o2 g2
            go_wp2
            go_roundw
            case rel => exact getIntsRel_step hlt h0 ha HLA.out HO.out HB.out HE.out HGG.out O2.out G2.out
            case measure => simp [intOf]; omega
        · have HE := Lib.hid he
          have HB := Lib.hid hb
          have HO := Lib.hid ho
          have HLA := Lib.hid hla
          clear he hb ho hla hr hle
          go_wp2
          go_ret3
          exact getIntsRel_end (by omega) HLA.out HO.out HB.out HE.out
theorem rgetInts_arg (A : Option Addr) (n cp : Nat) (most : Int) (w : World) (h : ¬ (0 ≤ most ∧ most ≤ 4096)) :
    Calls Try.prog 101 #[.slice A n cp, .int .i64 most] w fun e w' => e = .returned (.tuple #[.slice none 0 0, .int .i64 0, .int .i64 2]) ∧ w = w' := by
  by_cases h0 : 0 ≤ most
  · have h1 : 4096 < most := by omega
    clear h
    go_enter Try.func101, Try.ntmps101
    go_wp2
    go_ret3
    exact ⟨rfl, rfl⟩
  · have h1 : most < 0 := by omega
    clear h h0
    go_enter Try.func101, Try.ntmps101
    go_wp2
    go_ret3
    exact ⟨rfl, rfl⟩
end Go.Proofs.Ytaoekfgeggopbaa
