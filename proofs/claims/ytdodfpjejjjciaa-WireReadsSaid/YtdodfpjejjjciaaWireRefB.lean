/-
  The reference of layer 23: a mail's bytes.
-/
import Derived.Test.YtdodfpjejjjciaaWireRefN
namespace Go.Proofs.Ytdodfpjejjjciaa
open Go.RowKit Bal
set_option maxHeartbeats 2000000
set_option maxRecDepth 100000
set_option linter.unusedVariables false
set_option linter.unusedSimpArgs false

namespace Wp
def mny (l : List Int) : List UInt8 := l.flatMap fun n => Nm.enc n.toNat
theorem mny_append (l m : List Int) : mny (l ++ m) = mny l ++ mny m := by simp [mny]
theorem mny_one (n : Int) : mny [n] = Nm.enc n.toNat := by simp [mny]
theorem mny_len : ∀ (l : List Int), (∀ n ∈ l, 0 ≤ n ∧ n ≤ 1099511627776) → (mny l).length ≤ 6 * l.length
  | [], _ => by simp [mny]
  | a :: l, h => by
    have h1 := h a List.mem_cons_self
    have h2 := mny_len l (fun n hn => h n (List.mem_cons_of_mem _ hn))
    have h3 := Nm.enc_len6 (n := a.toNat) (by omega)
    have : mny (a :: l) = Nm.enc a.toNat ++ mny l := by simp [mny]
    rw [this, List.length_append, List.length_cons]
    omega
theorem bytesM_nums (m : Mail) (h1 : 1 ≤ m.k) (h2 : m.k ≤ 9) : bytesM m = mny (numsM m) ++ (if valuedB m.k = true then Nm.txt m.v else []) := by
  obtain ⟨f, t, k, g, s, b, p, v, i, tm⟩ := m
  simp only at h1 h2
  have hk : k = 1 ∨ k = 2 ∨ k = 3 ∨ k = 4 ∨ k = 5 ∨ k = 6 ∨ k = 7 ∨ k = 8 ∨ k = 9 := by omega
  clear h1 h2
  rcases hk with rfl | rfl | rfl | rfl | rfl | rfl | rfl | rfl | rfl <;>
    simp [bytesM, mny, numsM, kindNums, valuedB, fieldsL, wrF, Mail.get]
theorem nums_in {m : Mail} (h : mayM m = true) : ∀ n ∈ numsM m, 0 ≤ n ∧ n ≤ 1099511627776 := by
  obtain ⟨a1, a2, a3, a4, a5, a6, a7, a8, a9, a10, _⟩ := mayM_cases h
  obtain ⟨f, t, k, g, s, b, p, v, i, tm⟩ := m
  simp only at a1 a2 a3 a4 a5 a6 a7 a8 a9 a10
  obtain ⟨h1, h2⟩ := a5
  have hk : k = 1 ∨ k = 2 ∨ k = 3 ∨ k = 4 ∨ k = 5 ∨ k = 6 ∨ k = 7 ∨ k = 8 ∨ k = 9 := by omega
  clear h1 h2 h
  intro n hn
  rcases hk with rfl | rfl | rfl | rfl | rfl | rfl | rfl | rfl | rfl <;> simp [numsM, kindNums] at hn <;> omega
theorem nums_len (m : Mail) : (numsM m).length ≤ 7 := by
  unfold numsM kindNums
  repeat' split
  all_goals simp
end Wp

theorem take_next {α : Type} {l : List α} {k : Nat} (h : k < l.length) : l.take (k + 1) = l.take k ++ [l[k]] := by
  rw [List.take_succ_eq_append_getElem h]
def NumsRel (l : List Int) (w : World) (x y : Value) (wr : World) : Prop :=
  ∃ k : Nat, y = .int .i64 (k : Int) ∧ k ≤ l.length ∧ wr.ownsRow w.heap.size 5 1 x (Wp.mny (l.take k)).length (cb (Wp.mny (l.take k))) ∧ Below w.heap.size w wr
theorem numsRel_step {l : List Int} {w wr w1 : World} {x x' : Value} {k : Nat} (hk : k < l.length) (hb : Below w.heap.size w wr)
    (hw : wr.ownsRow w.heap.size 5 1 x (Wp.mny (l.take k)).length (cb (Wp.mny (l.take k))))
    (ho : w1.ownsRow w.heap.size 5 1 x' ((Wp.mny (l.take k)).length + (Nm.enc (l[k]).toNat).length) (cb (Wp.mny (l.take k) ++ Nm.enc (l[k]).toNat))) (hg : Grew wr w1 x x') :
    NumsRel l w x' (.int .i64 ((k : Int) + 1)) w1 := by
  have e : Wp.mny (l.take (k + 1)) = Wp.mny (l.take k) ++ Nm.enc (l[k]).toNat := by
    rw [take_next hk, Wp.mny_append, Wp.mny_one]
  refine ⟨k + 1, by go_num, by omega, ?_, hb.trans (hg.belowOwn hw hb.size)⟩
  rw [e, List.length_append]
  exact ho

theorem rbytes23_any (f t k g s b p : Int) (u : ByteArray) (i tm : Int) (w : World) (lb : List UInt8) (nb : Nat) (hm : Wp.mayM ⟨f, t, k, g, s, b, p, u.data.toList, i, tm⟩ = true) (hlb : Wp.bytesM ⟨f, t, k, g, s, b, p, u.data.toList, i, tm⟩ = lb) (hnb : lb.length = nb) :
    Calls Try.prog 33 #[.agg #[.int .i64 f, .int .i64 t, .int .u8 k, .int .i64 g, .int .i64 s, .int .i64 b, .int .i64 p, .string u, .int .i64 i, .int .i64 tm]] w fun e w' => ∃ A c, e = .returned (.slice A nb c) ∧ w'.ownsRow w.heap.size 5 1 (.slice A nb c) nb (cb lb) ∧ Below w.heap.size w w' := by
  obtain ⟨-, -, -, hv, ⟨h1, h2⟩, -⟩ := Wp.mayM_cases hm
  have hin := Wp.nums_in hm
  have hlen := Wp.nums_len ⟨f, t, k, g, s, b, p, u.data.toList, i, tm⟩
  have hby := Wp.bytesM_nums ⟨f, t, k, g, s, b, p, u.data.toList, i, tm⟩ h1 h2
  rw [hlb] at hby
  simp only at h1 h2 hv hby
  rw [size_data] at hv
  obtain ⟨l, hl⟩ : ∃ l, Wp.numsM ⟨f, t, k, g, s, b, p, u.data.toList, i, tm⟩ = l := ⟨_, rfl⟩
  rw [hl] at hin hlen hby
  obtain ⟨n, hn⟩ : ∃ n, l.length = n := ⟨_, rfl⟩
  have CN := rnumbers_any f t k g s b p u i tm (w.alloc (.cells #[.int .i64 f, .int .i64 t, .int .u8 k, .int .i64 g, .int .i64 s, .int .i64 b, .int .i64 p, .string u, .int .i64 i, .int .i64 tm] 23)) h1 h2 n (by rw [hl, hn])
  rw [hl] at CN
  have K0 := Lib.hid (Blk.new w 23 #[.int .i64 f, .int .i64 t, .int .u8 k, .int .i64 g, .int .i64 s, .int .i64 b, .int .i64 p, .string u, .int .i64 i, .int .i64 tm])
  have B0 := Lib.hid ((Below.refl _ w).alloc (Nat.le_refl w.heap.size) (.cells #[.int .i64 f, .int .i64 t, .int .u8 k, .int .i64 g, .int .i64 s, .int .i64 b, .int .i64 p, .string u, .int .i64 i, .int .i64 tm] 23))
  have HI := Lib.hid hin
  have HY := Lib.hid hby
  have HNB := Lib.hid hnb
  rw [hn] at hlen
  have HN := Lib.hid hn
  clear hin hby hl hm hlb hn hnb
  go_enter Try.func33, Try.ntmps33
  go_wp2_with fail
  refine CN.mono ?_
  rintro e w1 ⟨A1, c1, rfl, o1, b1⟩
  have hr := Reads.of_own o1
  have K1 := Lib.hid (K0.out.below b1 K0.out.lt)
  have B1 := Lib.hid (then_ B0.out b1)
  clear CN o1 b1
  go_wp2_with fail
  go_loopw [4, 5] (fun x y wr => NumsRel l w1 x y wr) (fun _ y _ => n - (intOf y).toNat)
  case atStart => exact ⟨0, rfl, Nat.zero_le _, World.ownsRow_nil _ _ _ _, Below.refl _ _⟩
  case round =>
    obtain ⟨j, rfl, hj, hw, hb⟩ := hrel
    by_cases hlt : j < n
    · obtain ⟨ad, u0, rfl, hbl, hu, hc⟩ := (hr.below hb).at_ hlt
      have hlt2 : j < l.length := by have := HN.out; omega
      have hg : l[j]? = some (l[j]'hlt2) := List.getElem?_eq_getElem hlt2
      rw [ci_get, hg] at hu
      simp only [Option.map_some, Option.some.injEq] at hu
      subst hu
      have hml : (Wp.mny (l.take j)).length ≤ 100 := by
        have h := Wp.mny_len (l.take j) (fun a ha => HI.out a (List.mem_of_mem_take ha))
        rw [List.length_take] at h
        omega
      have hin := HI.out _ (List.getElem_mem (l := l) (n := j) hlt2)
      obtain ⟨i1, i2⟩ := hin
      have hz6 := Nm.enc_len6 (n := (l[j]'hlt2).toNat) (by omega)
      have HW := Lib.hid hw
      have HB := Lib.hid hb
      have HR := Lib.hid hr
      clear hw hb hr hg
      obtain ⟨z, hz⟩ : ∃ z, l[j]'hlt2 = z := ⟨_, rfl⟩
      rw [hz] at hc i1 i2 hz6
      have HZ := Lib.hid hz
      clear hz
      obtain ⟨q, hq⟩ : ∃ q, Nm.enc z.toNat = q := ⟨_, rfl⟩
      rw [hq] at hz6
      have HQ := Lib.hid hq
      go_wp2_with fail
      refine (rbytes_is z q q.length wr i1 (by omega) hq rfl).mono ?_
      clear hq
      rintro e w2 ⟨A2, c2, rfl, o2, b2⟩
      have B2 := Lib.hid b2
      have R2 := Lib.hid (Reads.of_own o2)
      have W2 := Lib.hid (own_kept HW.out b2)
      have G2 : Hid (Grew wr w2 u4 u4) := ⟨only_of_below b2 _, Or.inl rfl⟩
      have hz2 := b2.size
      clear o2 b2
      go_wp2_with (at_builtin; refine app_bs rfl (.tmp 14) (.tmp 19) rfl w1.heap.size u4 _ _ rfl W2.out w2.heap.size A2 q.length c2 q rfl R2.out ?c1 ?c2 ?_)
      case c1 => omega
      case c2 => exact Nat.le_trans HB.out.size hz2
      intro v3 w3 o3 g3
      have O3 := Lib.hid o3
      have G3 := Lib.hid g3
      clear o3 g3
      go_wp2
      go_roundw
      case rel => exact numsRel_step (k := j) hlt2 HB.out HW.out (by rw [HZ.out, HQ.out]; exact O3.out) (G2.out.trans G3.out)
      case measure => simp [intOf]; omega
    · have HW : Hid (wr.ownsRow w1.heap.size 5 1 u4 (Wp.mny l).length (cb (Wp.mny l))) := by
        rw [List.take_of_length_le (by have := HN.out; omega)] at hw
        exact hw
      have HB := Lib.hid hb
      have K2 := Lib.hid (K1.out.below hb K1.out.lt)
      have BB := Lib.hid (then_ B1.out hb)
      have hml : (Wp.mny l).length ≤ 100 := by
        have h := Wp.mny_len l HI.out
        have := HN.out
        omega
      obtain ⟨A4, c4, rfl, -, -, -⟩ := own_form HW.out
      have r2 := K2.out.cell 2
      have r7 := K2.out.cell 7
      clear hw hb hr hj
      cases hval : Wp.valuedB k with
      | true =>
        have HVV : Hid (lb = Wp.mny l ++ Nm.txt u.data.toList) := by have := HY.out; rw [hval, if_pos rfl] at this; exact this
        have htl : (Nm.txt u.data.toList).length ≤ 2000 := by
          have := Nm.enc_len6 (n := u.data.toList.length) (by rw [size_data]; omega)
          rw [Nm.txt, List.length_append, size_data]
          rw [size_data] at this
          omega
        obtain ⟨q, hq⟩ : ∃ q, Nm.txt u.data.toList = q := ⟨_, rfl⟩
        rw [hq] at htl HVV
        have HQ := Lib.hid hq
        clear hq
        go_wp2_with fail
        refine (rvalued_any k _ h1 h2).mono ?_
        rw [hval]
        rintro e w' ⟨rfl, rfl⟩
        clear hval
        go_wp2_with fail
        refine (rtextBytes u q q.length wr (by omega) HQ.out rfl).mono ?_
        rintro e w2 ⟨A2, c2, rfl, o2, b2⟩
        have B2 := Lib.hid (then_ BB.out b2)
        have R2 := Lib.hid (Reads.of_own o2)
        have W2 := Lib.hid (own_kept HW.out b2)
        have hz2 := b2.size
        clear o2 b2
        go_wp2_with (at_builtin; refine app_bs rfl (.tmp 25) (.tmp 28) rfl w1.heap.size _ _ _ rfl W2.out w2.heap.size A2 _ c2 q rfl R2.out ?d1 ?d2 ?_)
        case d1 => omega
        case d2 => exact Nat.le_trans HB.out.size hz2
        intro v3 w3 o3 g3
        have L3 : Hid (w3.ownsRow w.heap.size 5 1 v3 nb (cb lb)) := by
          have h := HNB.out
          rw [HVV.out] at h ⊢
          rw [List.length_append] at h
          subst h
          exact own_mono o3 B1.out.size
        have B3 := Lib.hid (B2.out.trans (g3.below B2.out.size (fun k hk => Nat.le_trans B1.out.size (W2.out.lt k hk).1)))
        obtain ⟨A5, c5, rfl, -, -, -⟩ := own_form L3.out
        clear o3 g3
        go_wp2
        go_ret
        exact ⟨_, _, rfl, L3.out, B3.out⟩
      | false =>
        have L3 : Hid (wr.ownsRow w.heap.size 5 1 (.slice A4 (Wp.mny l).length c4) nb (cb lb)) := by
          have h := HNB.out
          have h2 := HY.out
          rw [hval, if_neg (by decide), List.append_nil] at h2
          rw [h2] at h ⊢
          subst h
          exact own_mono HW.out B1.out.size
        have HNN : Hid ((Wp.mny l).length = nb) := by
          have h := HNB.out
          have h2 := HY.out
          rw [hval, if_neg (by decide), List.append_nil] at h2
          rw [h2] at h
          exact h
        go_wp2_with fail
        refine (rvalued_any k _ h1 h2).mono ?_
        rw [hval]
        rintro e w' ⟨rfl, rfl⟩
        clear hval
        go_wp2
        go_ret
        have L4 := L3.out
        rw [HNN.out] at L4 ⊢
        exact ⟨_, _, rfl, L4, BB.out⟩
end Go.Proofs.Ytdodfpjejjjciaa
