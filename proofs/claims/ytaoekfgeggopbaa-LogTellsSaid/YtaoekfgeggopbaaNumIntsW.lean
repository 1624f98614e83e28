/-
  The walks of num.Ints, num.GetInts.
-/
import Derived.Test.YtaoekfgeggopbaaNumInts
import Derived.Test.YtaoekfgeggopbaaNumMore
namespace Go.Proofs.Ytaoekfgeggopbaa
open Go.RowKit
set_option maxHeartbeats 400000
set_option maxRecDepth 100000
set_option linter.unusedVariables false

/-- What Ints leaves. -/
def IntsPost (l : List Int) (w : World) (e : Ending) (w' : World) : Prop :=
  (l.all Nm.inR = true ∧ ∃ A c, e = .returned (.tuple #[.slice A (Nm.intsB l).length c, .int .i64 0]) ∧ w'.ownsRow w.heap.size 5 1 (.slice A (Nm.intsB l).length c) (Nm.intsB l).length (cb (Nm.intsB l)) ∧ Below w.heap.size w w') ∨
  (l.all Nm.inR = false ∧ e = .returned (.tuple #[.slice none 0 0, .int .i64 2]) ∧ Below w.heap.size w w')
def IntsRel (l : List Int) (w : World) (x y : Value) (wr : World) : Prop :=
  ∃ k : Nat, y = .int .i64 (k : Int) ∧ k ≤ l.length ∧ (∀ a ∈ l.take k, Nm.inR a = true) ∧ wr.ownsRow w.heap.size 5 1 x (Nm.enc l.length ++ Nm.many (l.take k)).length (cb (Nm.enc l.length ++ Nm.many (l.take k))) ∧ Below w.heap.size w wr
theorem take_one {α : Type} {l : List α} {k : Nat} (h : k < l.length) : l.take (k + 1) = l.take k ++ [l[k]] := by
  rw [List.take_succ_eq_append_getElem h]
theorem intsRel_step {l : List Int} {w wr w1 : World} {x x' : Value} {k : Nat} (hk : k < l.length) (ha : ∀ a ∈ l.take k, Nm.inR a = true) (hi : Nm.inR l[k] = true) (hb : Below w.heap.size w wr)
    (hw : wr.ownsRow w.heap.size 5 1 x (Nm.enc l.length ++ Nm.many (l.take k)).length (cb (Nm.enc l.length ++ Nm.many (l.take k))))
    (ho : w1.ownsRow w.heap.size 5 1 x' ((Nm.enc l.length ++ Nm.many (l.take k)).length + (Nm.enc (l[k]).toNat).length) (cb (Nm.enc l.length ++ Nm.many (l.take k) ++ Nm.enc (l[k]).toNat))) (hg : Grew wr w1 x x') :
    IntsRel l w x' (.int .i64 ((k : Int) + 1)) w1 := by
  have e : Nm.enc l.length ++ Nm.many (l.take (k + 1)) = Nm.enc l.length ++ Nm.many (l.take k) ++ Nm.enc (l[k]).toNat := by
    rw [take_one hk, Nm.many_append, Nm.many_one, List.append_assoc]
  refine ⟨k + 1, by go_num, by omega, ?_, ?_, hb.trans (hg.belowOwn hw hb.size)⟩
  · intro a h
    rw [take_one hk] at h
    rcases List.mem_append.1 h with h | h
    · exact ha a h
    · simp only [List.mem_singleton] at h
      subst h
      exact hi
  · rw [e, List.length_append]
    exact ho
theorem intsRel_end {l : List Int} {w wr : World} {x : Value} {k : Nat} (hk : l.length ≤ k) (ha : ∀ a ∈ l.take k, Nm.inR a = true) (hb : Below w.heap.size w wr)
    (hw : wr.ownsRow w.heap.size 5 1 x (Nm.enc l.length ++ Nm.many (l.take k)).length (cb (Nm.enc l.length ++ Nm.many (l.take k)))) : IntsPost l w (.returned (.tuple #[x, .int .i64 0])) wr := by
  rw [List.take_of_length_le hk] at ha hw
  obtain ⟨A, c, rfl, _, _, _⟩ := own_form hw
  exact Or.inl ⟨List.all_eq_true.2 ha, A, c, rfl, hw, hb⟩
theorem intsRel_bad {l : List Int} {w wr : World} {k : Nat} (hk : k < l.length) (hi : Nm.inR l[k] = false) (hb : Below w.heap.size w wr) : IntsPost l w (.returned (.tuple #[.slice none 0 0, .int .i64 2])) wr := by
  refine Or.inr ⟨?_, rfl, hb⟩
  cases h : l.all Nm.inR with
  | false => rfl
  | true =>
    have := List.all_eq_true.1 h _ (List.getElem_mem hk)
    rw [hi] at this
    cases this

theorem nints_any (A : Option Addr) (n c : Nat) (l : List Int) (w : World) (hr : Reads w w.heap.size 1 A n (ci l)) (hn : n ≤ 4096) (hi64 : ∀ a ∈ l, -9223372036854775808 ≤ a ∧ a ≤ 9223372036854775807) :
    Calls Try.prog 72 #[.slice A n c] w (IntsPost l w) := by
  have hl := hr.len_i
  have HI := Lib.hid hi64
  clear hi64
  go_enter Try.func72, Try.ntmps72
  go_wp2_with fail
  refine (put_any w.heap.size _ 0 [] n w (World.ownsRow_nil _ _ _ _) (by omega) (by omega) (by omega) (Nat.le_refl _)).mono ?_
  rintro e w1 ⟨v1, rfl, o1, g1⟩
  have B1 := Lib.hid (g1.below (Nat.le_refl _) (by simp [Value.ownBlock]))
  have O1 : Hid (w1.ownsRow w.heap.size 5 1 v1 (Nm.enc l.length).length (cb (Nm.enc l.length))) := by simpa [Hid, hl] using o1
  clear o1 g1
  go_wp2_with fail
  go_loopw [4, 15] (fun x y wr => IntsRel l w x y wr) (fun _ y _ => n - (intOf y).toNat)
  case atStart => exact ⟨0, rfl, by omega, by simp, by simpa [Nm.many] using O1.out, B1.out⟩
  case round =>
    obtain ⟨k, rfl, hk, ha, hw, hb⟩ := hrel
    by_cases hlt : k < n
    · obtain ⟨ad, u, rfl, hbl, hu, hc⟩ := (hr.below hb).at_ hlt
      have hg : l[k]? = some (l[k]'(by omega)) := List.getElem?_eq_getElem (by omega)
      rw [ci_get, hg] at hu
      simp only [Option.map_some, Option.some.injEq] at hu
      subst hu
      have h64 := HI.out _ (List.getElem_mem (l := l) (n := k) (by omega))
      have hlen := Nm.many_len (l.take k) ha
      have hlen2 : (Nm.enc l.length ++ Nm.many (l.take k)).length ≤ 1000000 := by
        have := Nm.enc_len10 (n := l.length) (by omega)
        rw [List.length_append]
        rw [List.length_take] at hlen
        omega
      cases hin : Nm.inR (l[k]'(by omega)) with
      | true =>
        obtain ⟨i1, i2⟩ := Nm.inR_yes hin
        have HIN := Lib.hid hin
        have HA := Lib.hid ha
        have HW := Lib.hid hw
        have HB := Lib.hid hb
        have HR := Lib.hid hr
        clear hin ha hw hb hr hg hlen h64
        obtain ⟨z, hz⟩ : ∃ z, l[k]'(by omega) = z := ⟨_, rfl⟩
        rw [hz] at hc i1 i2
        have HZ := Lib.hid hz
        clear hz
        go_wp2_with fail
        refine (in_yes z _ i1 i2).mono ?_
        rintro e w' ⟨rfl, rfl⟩
        go_wp2_with fail
        refine (put_any w.heap.size u4 _ _ z wr HW.out (by omega) i1 (by omega) HB.out.size).mono ?_
        rintro e w2 ⟨v2, rfl, o2, g2⟩
        have O2 := Lib.hid o2
        have G2 := Lib.hid g2
        clear o2 g2
        go_wp2
        go_roundw
        case rel => exact intsRel_step (k := k) (by omega) HA.out HIN.out HB.out HW.out (by rw [HZ.out]; exact O2.out) G2.out
        case measure => simp [intOf]; omega
      | false =>
        have HN := Lib.hid (Nm.inR_no hin)
        have HIN := Lib.hid hin
        have HB := Lib.hid hb
        obtain ⟨h64a, h64b⟩ := h64
        clear hin ha hw hb hr hg hlen
        obtain ⟨z, hz⟩ : ∃ z, l[k]'(by omega) = z := ⟨_, rfl⟩
        rw [hz] at hc h64a h64b
        have HN2 : Hid (¬ (0 ≤ z ∧ z ≤ 1099511627776)) := by rw [← hz]; exact HN
        have HZ := Lib.hid hz
        clear hz HN
        go_wp2_with fail
        refine (in_no z _ HN2.out).mono ?_
        rintro e w' ⟨rfl, rfl⟩
        go_wp2
        go_ret2
        exact intsRel_bad (k := k) (by omega) HIN.out HB.out
    · have HA := Lib.hid ha
      have HW := Lib.hid hw
      have HB := Lib.hid hb
      clear ha hw hb hr
      go_wp2
      go_ret2
      exact intsRel_end (k := k) (by omega) HA.out HB.out HW.out
theorem nints_many (A : Option Addr) (n c : Nat) (w : World) (h : 4096 < n) (hn : n ≤ 9223372036854775807) : Calls Try.prog 72 #[.slice A n c] w fun e w' => e = .returned (.tuple #[.slice none 0 0, .int .i64 4]) ∧ w = w' := by
  go_enter Try.func72, Try.ntmps72
  go_wp2
  go_ret2
  exact ⟨rfl, rfl⟩

/-! ### GetInts -/
/-- What GetInts leaves. -/
def GetIntsPost (o : Option (List Int × Nat)) (w : World) (e : Ending) (w' : World) : Prop := match o with
  | some (r, k) => ∃ A c, e = .returned (.tuple #[.slice A r.length c, .int .i64 (k : Int), .int .i64 0]) ∧ w'.ownsRow w.heap.size 3 1 (.slice A r.length c) r.length (ci r) ∧ Below w.heap.size w w'
  | none => e = .returned (.tuple #[.slice none 0 0, .int .i64 0, .int .i64 8]) ∧ Below w.heap.size w w'
def GetIntsRel (b : List UInt8) (c k0 : Nat) (w : World) (x s y : Value) (wr : World) : Prop :=
  ∃ (i at' : Nat) (acc : List Int), y = .int .i64 (i : Int) ∧ s = .int .i64 (at' : Int) ∧ i ≤ c ∧ k0 ≤ at' ∧ at' ≤ b.length ∧ acc.length = i ∧ wr.ownsRow w.heap.size 3 1 x i (ci acc) ∧ Below w.heap.size w wr ∧
    (Nm.ints c (b.drop k0)).map (fun p => (p.1, k0 + p.2)) = (Nm.ints (c - i) (b.drop at')).map fun p => (acc ++ p.1, at' + p.2)
theorem getIntsRel_step {b : List UInt8} {c k0 i at' n k : Nat} {acc : List Int} {w wr w1 : World} {x x' : Value} (hi : i < c) (h0 : k0 ≤ at') (ha : at' ≤ b.length) (hl : acc.length = i) (ho : wr.ownsRow w.heap.size 3 1 x i (ci acc)) (hb : Below w.heap.size w wr)
    (he : (Nm.ints c (b.drop k0)).map (fun p => (p.1, k0 + p.2)) = (Nm.ints (c - i) (b.drop at')).map fun p => (acc ++ p.1, at' + p.2)) (hg : Nm.get (b.drop at') = some (n, k))
    (ho1 : w1.ownsRow w.heap.size 3 1 x' (i + 1) (ci (acc ++ [(n : Int)]))) (hgr : Grew wr w1 x x') : GetIntsRel b c k0 w x' (.int .i64 ((at' : Int) + (k : Int))) (.int .i64 ((i : Int) + 1)) w1 := by
  have hk := (Nm.get_back hg).2.2.1
  rw [List.length_drop] at hk
  refine ⟨i + 1, at' + k, acc ++ [(n : Int)], by go_num, by go_num, by omega, by omega, by omega, by simp [hl], ho1, hb.trans (hgr.belowOwn ho hb.size), ?_⟩
  rw [he, show c - i = (c - (i + 1)) + 1 by omega, Nm.ints_succ_some hg, List.drop_drop, Option.map_map]
  congr 1
  funext p
  simp only [Function.comp_apply, List.append_assoc, List.cons_append, List.nil_append, Prod.mk.injEq, true_and]
  omega
theorem getIntsRel_end {b : List UInt8} {c k0 i at' : Nat} {acc : List Int} {w wr : World} {x : Value} (hi : i = c) (hl : acc.length = i) (ho : wr.ownsRow w.heap.size 3 1 x i (ci acc)) (hb : Below w.heap.size w wr)
    (he : (Nm.ints c (b.drop k0)).map (fun p => (p.1, k0 + p.2)) = (Nm.ints (c - i) (b.drop at')).map fun p => (acc ++ p.1, at' + p.2)) :
    GetIntsPost ((Nm.ints c (b.drop k0)).map fun p => (p.1, k0 + p.2)) w (.returned (.tuple #[x, .int .i64 (at' : Int), .int .i64 0])) wr := by
  rw [he, show c - i = 0 by omega]
  obtain ⟨A, cp, rfl, _, _, _⟩ := own_form ho
  subst hl
  exact ⟨A, cp, by simp, by simpa using ho, hb⟩
theorem getIntsRel_bad {b : List UInt8} {c k0 i at' : Nat} {acc : List Int} {w wr : World} (hi : i < c) (hb : Below w.heap.size w wr)
    (he : (Nm.ints c (b.drop k0)).map (fun p => (p.1, k0 + p.2)) = (Nm.ints (c - i) (b.drop at')).map fun p => (acc ++ p.1, at' + p.2)) (hg : Nm.get (b.drop at') = none) :
    GetIntsPost ((Nm.ints c (b.drop k0)).map fun p => (p.1, k0 + p.2)) w (.returned (.tuple #[.slice none 0 0, .int .i64 0, .int .i64 8])) wr := by
  rw [he, show c - i = (c - (i + 1)) + 1 by omega, Nm.ints_succ_none hg]
  exact ⟨rfl, hb⟩

theorem ngetInts_any (A : Option Addr) (n cp : Nat) (b : List UInt8) (most : Nat) (w : World) (hr : Reads w w.heap.size 1 A n (cb b)) (hcp : n ≤ cp) (hn : n ≤ 1000000000000) (hm : most ≤ 4096) :
    Calls Try.prog 98 #[.slice A n cp, .int .i64 (most : Int)] w (GetIntsPost (Nm.getInts b most) w) := by
  have hl := hr.len_b
  cases hg : Nm.get b with
  | none =>
    have e : Nm.getInts b most = none := by unfold Nm.getInts; rw [hg]
    rw [e]
    have HG := Lib.hid (get_no A n cp _ b w hr hn hg)
    clear hg e hr
    go_enter Try.func98, Try.ntmps98
    go_wp2_with (first | (with_reducible refine HG.out.mono ?_; rintro e w' ⟨rfl, rfl⟩))
    go_ret3
    exact ⟨rfl, Below.refl _ _⟩
  | some p =>
    obtain ⟨c, k0⟩ := p
    have HG := Lib.hid (get_is A n cp _ b c k0 w hr hn hg)
    obtain ⟨q1, q2, q3, q4⟩ := Nm.get_back hg
    by_cases hc : most < c
    · have e : Nm.getInts b most = none := by unfold Nm.getInts; rw [hg]; simp only; rw [if_pos hc]
      rw [e]
      clear hg e hr q4 q2
      go_enter Try.func98, Try.ntmps98
      go_wp2_with (first | (with_reducible refine HG.out.mono ?_; rintro e w' ⟨rfl, rfl⟩))
      go_ret3
      exact ⟨rfl, Below.refl _ _⟩
    · have e : Nm.getInts b most = (Nm.ints c (b.drop k0)).map fun p => (p.1, k0 + p.2) := by unfold Nm.getInts; rw [hg]; simp only; rw [if_neg hc]
      rw [e]
      clear hg e q4 q2
      have HL := Lib.hid hl
      clear hl
      go_enter Try.func98, Try.ntmps98
      go_wp2_with (first | (with_reducible refine HG.out.mono ?_; rintro e w' ⟨rfl, rfl⟩))
      go_loopw [4, 5, 31] (fun x s y wr => GetIntsRel b c k0 w x s y wr) (fun _ _ y _ => c - (intOf y).toNat)
      case atStart => exact ⟨0, k0, [], rfl, rfl, by omega, Nat.le_refl _, q3, rfl, World.ownsRow_nil _ _ _ _, Below.refl _ _, by simp⟩
      case round =>
        obtain ⟨i, at', acc, rfl, rfl, hi, h0, ha, hla, ho, hb, he⟩ := hrel
        have hle := HL.out
        by_cases hlt : i < c
        · have hs := fun w => run_slice_from (P := Try.prog) Try.underlying46 A n cp at' (by omega) w u8_size
          have hr2 := ((hr.below hb).rest (k := at') (c := cp) (by omega) hcp)
          rw [cb_drop] at hr2
          cases hgg : Nm.get (b.drop at') with
          | none =>
            have HG2 := Lib.hid (get_no _ (n - at') (cp - at') _ _ wr hr2 (by omega) hgg)
            have HGG := Lib.hid hgg
            have HE := Lib.hid he
            have HB := Lib.hid hb
            clear hgg he hb ho hr hr2 hla hle
            go_wp2_with (first | (with_reducible refine HG2.out.mono ?_; rintro e w' ⟨rfl, rfl⟩))
            go_ret3
            exact getIntsRel_bad hlt HB.out HE.out HGG.out
          | some p =>
            obtain ⟨z, kz⟩ := p
            have HG2 := Lib.hid (get_is _ (n - at') (cp - at') _ _ z kz wr hr2 (by omega) hgg)
            have hkz := (Nm.get_back hgg).2.2.1
            rw [List.length_drop] at hkz
            have HGG := Lib.hid hgg
            have HE := Lib.hid he
            have HB := Lib.hid hb
            have HO := Lib.hid ho
            have HLA := Lib.hid hla
            have HR := Lib.hid hr
            clear hgg he hb ho hr hr2 hla
            go_wp2_with fail
            refine HG2.out.mono ?_
            rintro e w' ⟨rfl, rfl⟩
            go_wp2_with (at_builtin; refine app_i1 rfl (.tmp 44) (.tmp 46) rfl w.heap.size u4 i acc rfl HO.out (z : Int) rfl ?c1 ?c2 ?_)
            case c1 => omega
            case c2 => exact HB.out.size
            intro v2 w2 o2 g2
            have O2 := Lib.hid o2
            have G2 := Lib.hid g2
            clear o2 g2
            go_wp2
            go_roundw
            case rel => exact getIntsRel_step hlt h0 ha HLA.out HO.out HB.out HE.out HGG.out O2.out G2.out
            case measure => simp [intOf]; omega
        · have HE := Lib.hid he
          have HB := Lib.hid hb
          have HO := Lib.hid ho
          have HLA := Lib.hid hla
          clear he hb ho hla hr hle
          go_wp2
          go_ret3
          exact getIntsRel_end (by omega) HLA.out HO.out HB.out HE.out
theorem ngetInts_arg (A : Option Addr) (n cp : Nat) (most : Int) (w : World) (h : ¬ (0 ≤ most ∧ most ≤ 4096)) :
    Calls Try.prog 98 #[.slice A n cp, .int .i64 most] w fun e w' => e = .returned (.tuple #[.slice none 0 0, .int .i64 0, .int .i64 2]) ∧ w = w' := by
  by_cases h0 : 0 ≤ most
  · have h1 : 4096 < most := by omega
    clear h
    go_enter Try.func98, Try.ntmps98
    go_wp2
    go_ret3
    exact ⟨rfl, rfl⟩
  · have h1 : most < 0 := by omega
    clear h h0
    go_enter Try.func98, Try.ntmps98
    go_wp2
    go_ret3
    exact ⟨rfl, rfl⟩
end Go.Proofs.Ytaoekfgeggopbaa
