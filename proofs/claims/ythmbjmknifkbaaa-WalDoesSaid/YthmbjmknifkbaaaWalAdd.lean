/-
  Layer 4: wal.Add.
-/
import Derived.Test.YthmbjmknifkbaaaWalTwin
import Derived.Test.YthmbjmknifkbaaaWalPlain
import Derived.Test.YthmbjmknifkbaaaDiskSees
import Derived.Test.YthmbjmknifkbaaaBlist
import Derived.Test.YthmbjmknifkbaaaFrame
namespace Go.Proofs.Ythmbjmknifkbaaa
open Go.RowKit
set_option maxHeartbeats 16000000
set_option maxRecDepth 100000
set_option linter.unusedVariables false
set_option linter.unusedSimpArgs false

theorem sl_info : (Try.prog.info? 22).map (fun i => (i.zero, i.size, i.bytes)) = some (some (.slice none 0 0), 1, 24) := by kernel_rfl
theorem cs_one (l : List HP) : ∀ u ∈ cs l, u.oneCell' = true := by
  intro u hu
  simp only [cs, List.mem_map] at hu
  obtain ⟨p, _, rfl⟩ := hu
  rfl
theorem cs_append (l m : List HP) : cs (l ++ m) = cs l ++ cs m := by simp [cs]
/-- One slice of bytes onto a row of such of the call's own. -/
theorem app_s1 {ops : Array Oper} {rest : List Oper} {o : Oper} {a : Act} {Q : Exit → Act → World → Prop} {w : World} (hgd : o.guard = none) (s x : Operand)
    (ho : o.op = .call { callee := .builtin .append, args := #[s, x], argTypes := #[54, 54] })
    (base : Nat) (v : Value) (n : Nat) (l : List HP) (hs : a.eval s = v) (hown : w.ownsRow base 22 1 v n (cs l)) (p : HP) (hx : a.eval x = .slice (some ⟨w.heap.size, 0, none⟩) 1 1)
    (hn : n ≤ 1000000000) (hbase : base ≤ w.heap.size)
    (h : ∀ v' w', w'.ownsRow base 22 1 v' (n + 1) (cs (l ++ [p])) → Grew w w' v v' → wpList Try.prog ops Q rest (a.put o.dst v') w') :
    wpList Try.prog ops Q (o :: rest) a (w.alloc (.cells #[.slice p.A p.n p.c] 22)) := by
  obtain ⟨i0, hi0, hz0, hz1, hz2⟩ := info_parts sl_info
  have hr := Reads.new w 22 #[.slice p.A p.n p.c]
  refine wpList_append_any _ hgd s x 54 ho base 22 i0 _ 1 24 Try.underlying54 hi0 hz0 hz1 hz2 rfl (by decide) v n (cs l) hs (hown.alloc _) _ _ 1 1 [.slice p.A p.n p.c] hx hr (by simp; rfl) (by simp only [maxLen]; omega) (by omega) (by simp; omega) ?_
  intro v' w' h1 h2 h3
  refine h v' w' (by rw [cs_append]; exact h1) ⟨grown_of_alloc h2, ?_⟩
  rcases h3 with h3 | h3
  · exact Or.inl h3
  · exact Or.inr ⟨_, h3, by simp⟩

/-- The frames that were made. -/
def FrRel (w : World) (B : Nat) (l : List (List UInt8)) (x8 y : Value) (wr : World) : Prop :=
  ∃ (k : Nat) (fl : List HP), y = .int .i64 (k : Int) ∧ k ≤ l.length ∧ fl.length = k ∧ wr.ownsRow B 22 1 x8 k (cs fl) ∧ (∀ p ∈ fl, wr.ownsRow B 5 1 (.slice p.A p.n p.c) p.n (cb p.d) ∧ p.n ≤ 5000) ∧
    fl.map HP.d = (l.take k).map Nm.txt ∧ (∀ t ∈ l.take k, t.length ≤ 4096) ∧ Below w.heap.size w wr
theorem strs_at {w : World} {B n k : Nat} {A : Option Addr} {l : List (List UInt8)} (h : Reads w B 1 A n (ct (l.map S))) (hk : k < n) : ∃ ad t, A = some ad ∧ l[k]? = some t ∧ w.cell? (ad.add k) = some (.string (S t)) ∧ ad.block < B := by
  obtain ⟨ad, u, e, hb, hu, hc⟩ := h.at_ hk
  have hl : l.length = n := by have := h.len_t; simpa using this
  have hg : l[k]? = some (l[k]'(by omega)) := List.getElem?_eq_getElem (by omega)
  rw [ct_get, List.getElem?_map, hg] at hu
  simp only [Option.map_some, Option.some.injEq] at hu
  subst hu
  exact ⟨ad, _, e, hg, hc, hb⟩
theorem adds_next {X : Dp.Disk} {l : List (List UInt8)} {k : Nat} {t : List UInt8} (h : l[k]? = some t) : Wa.adds X (l.drop k) = if (Dp.write X ⟨false, Nm.txt t⟩).2 = 0 then Wa.adds (Dp.write X ⟨false, Nm.txt t⟩).1 (l.drop (k + 1)) else (Dp.zeroD, (Dp.write X ⟨false, Nm.txt t⟩).2) := by
  obtain ⟨hk, e⟩ := List.getElem?_eq_some_iff.1 h
  rw [List.drop_eq_getElem_cons hk, e]
  rfl
theorem all_false {l : List (List UInt8)} {k : Nat} {t : List UInt8} (h : l[k]? = some t) (ht : 4096 < t.length) : l.all (fun t => decide (t.length ≤ 4096)) = false := by
  cases hb : l.all (fun t => decide (t.length ≤ 4096)) with
  | false => rfl
  | true =>
    have := List.all_eq_true.1 hb t (List.mem_of_getElem? h)
    simp at this
    omega
theorem mem_take_next {l : List (List UInt8)} {k : Nat} {t : List UInt8} (h : l[k]? = some t) (ha : ∀ t ∈ l.take k, t.length ≤ 4096) (ht : t.length ≤ 4096) : ∀ t ∈ l.take (k + 1), t.length ≤ 4096 := by
  intro x hx
  rw [List.take_add_one, h] at hx
  rcases List.mem_append.1 hx with hx | hx
  · exact ha x hx
  · simp at hx; rw [hx]; exact ht

def ARel (w : World) (B : Nat) (FA : Option Addr) (n Fc : Nat) (fl : List HP) (d : Dp.Disk) (l : List (List UInt8)) (y : Value) (wr : World) : Prop :=
  ∃ (k : Nat) (X : HD), y = .int .i64 (k : Int) ∧ k ≤ n ∧ Below w.heap.size w wr ∧ Blk wr w.heap.size 25 #[.slice X.A X.n X.c, .slice X.WA X.Wn X.Wc] ∧ OwnDisk wr w.heap.size X ∧ Wa.adds d l = Wa.adds X.disk (l.drop k) ∧
    Blk wr (w.heap.size + 1) 25 #[.slice none 0 0, .slice none 0 0] ∧ wr.ownsRow B 22 1 (.slice FA n Fc) n (cs fl) ∧ ∀ p ∈ fl, wr.ownsRow B 5 1 (.slice p.A p.n p.c) p.n (cb p.d) ∧ p.n ≤ 5000
theorem cs_at {w : World} {B n k : Nat} {A : Option Addr} {l : List HP} (h : Reads w B 1 A n (cs l)) (hk : k < n) : ∃ ad p, A = some ad ∧ l[k]? = some p ∧ w.cell? (ad.add k) = some (.slice p.A p.n p.c) := by
  obtain ⟨ad, u, e, hb, hu, hc⟩ := h.at_ hk
  rw [cs_get] at hu
  cases hg : l[k]? with
  | none => rw [hg] at hu; simp at hu
  | some p =>
    rw [hg] at hu
    simp only [Option.map_some, Option.some.injEq] at hu
    subst hu
    exact ⟨ad, p, e, rfl, hc⟩
theorem map_at {fl : List HP} {l : List (List UInt8)} {k : Nat} {p : HP} (h : fl.map HP.d = l.map Nm.txt) (hk : fl[k]? = some p) : ∃ t, l[k]? = some t ∧ p.d = Nm.txt t := by
  have h1 := congrArg (fun x => x[k]?) h
  simp only [List.getElem?_map, hk, Option.map_some] at h1
  cases hl : l[k]? with
  | none => rw [hl] at h1; simp at h1
  | some t => rw [hl] at h1; simp at h1; exact ⟨t, rfl, h1⟩

theorem add_any (D : HD) (A : Option Addr) (n c : Nat) (l : List (List UInt8)) (w : World) (R : Dp.Disk) (r : Int) (hr : Wa.add D.disk l = (R, r)) (h : DiskAt w w.heap.size D) (hl : Reads w w.heap.size 1 A n (ct (l.map S))) (hn : n ≤ 1024) :
    Calls Try.prog 9 #[.agg #[.slice D.A D.n D.c, .slice D.WA D.Wn D.Wc], .slice A n c] w fun e w' => ∃ D', e = .returned (.tuple #[.agg #[.slice D'.A D'.n D'.c, .slice D'.WA D'.Wn D'.Wc], .int .i64 r]) ∧ OwnDisk w' w.heap.size D' ∧ D'.disk = R ∧ Below w.heap.size w w' := by
  have hz : w.heap.size + 1 < w.heap.size + 2 := by omega
  have hll : l.length = n := by have := hl.len_t; simpa using this
  have HD0 := Lib.hid h
  have HL0 := Lib.hid hl
  have HR := Lib.hid hr
  have HLL := Lib.hid hll
  have D1 := Lib.hid ((h.alloc (.cells #[.slice D.A D.n D.c, .slice D.WA D.Wn D.Wc] 25)).alloc (.cells #[.slice none 0 0, .slice none 0 0] 25))
  have C := Lib.hid (((Below.refl _ w).alloc (Nat.le_refl w.heap.size) (.cells #[.slice D.A D.n D.c, .slice D.WA D.Wn D.Wc] 25)).alloc (by simp) (.cells #[.slice none 0 0, .slice none 0 0] 25))
  have K1 := Lib.hid ((Blk.new w 25 #[.slice D.A D.n D.c, .slice D.WA D.Wn D.Wc]).alloc (.cells #[.slice none 0 0, .slice none 0 0] 25))
  have KR := Lib.hid (Blk.newAt (w := w.alloc (.cells #[.slice D.A D.n D.c, .slice D.WA D.Wn D.Wc] 25)) (g := w.heap.size + 1) (by simp) 25 #[.slice none 0 0, .slice none 0 0])
  clear h hr hl hll
  have y0 := K1.out.cell 0
  have y1 := K1.out.cell 1
  cases hm : Dp.mayD D.disk with
  | false =>
    have e0 : Dp.see D.disk = ([], 30) := by rw [Dp.see, if_neg (by rw [hm]; simp)]
    have hr := HR.out
    rw [Wa.add, if_neg (by rw [hm]; simp)] at hr
    obtain ⟨rfl, rfl⟩ := Prod.mk.inj hr
    have HS := Lib.hid e0
    clear hr e0 HR hm
    go_enter Try.func9, Try.ntmps9
    go_wp2_with fail
    refine (see_is D _ _ _ HS.out D1.out).mono ?_
    rintro e w2 ⟨A2, c2, m, rfl, hmm, ho, hb⟩
    replace KR := Lib.hid (KR.out.below hb KR.out.lt)
    replace C := Lib.hid (C.out.trans (hb.mono C.out.size))
    clear hmm ho hb y0 y1
    have z0 := KR.out.cell 0
    have z1 := KR.out.cell 1
    have fz0 := KR.out.frozen 0
    have fz1 := KR.out.frozen 1
    go_wp2
    exact bodyPost_ret (v := .tuple #[.agg #[.slice none 0 0, .slice none 0 0], .int .i64 30]) (by simp [results, Try.results9, go_sem, z0, z1]) rfl ⟨zeroHD, rfl, zeroHD_own _ _, rfl, (C.out.setCell (by simp) _).setCell (by simp) _⟩
  | true =>
    have e0 : Dp.see D.disk = (Dp.seen D.disk, 0) := by rw [Dp.see, if_pos hm]
    have HS := Lib.hid e0
    have HM := Lib.hid hm
    have hr := HR.out
    rw [Wa.add, if_pos hm] at hr
    have HR2 := Lib.hid hr
    have HSL := Lib.hid (Dp.seen_len hm)
    clear e0 hm hr HR
    go_enter Try.func9, Try.ntmps9
    go_wp2_with fail
    refine (see_is D _ _ _ HS.out D1.out).mono ?_
    rintro e w2 ⟨A2, c2, m, rfl, hmm, ho, hb⟩
    have hm20 : m ≤ 1048576 := by rw [← hmm]; exact HSL.out
    have hmc : m ≤ c2 := (own_cap ho).1
    have OB := Lib.hid ho
    have HMM := Lib.hid hmm
    have hw12 := C.out.size
    replace K1 := Lib.hid (K1.out.below hb K1.out.lt)
    replace KR := Lib.hid (KR.out.below hb KR.out.lt)
    replace C := Lib.hid (C.out.trans (hb.mono C.out.size))
    have hw2 : w.heap.size + 1 < w2.heap.size := KR.out.lt
    clear hmm ho hb y0 y1 D1
    have z1024 : ¬ (1024 : Int) < (n : Int) := by omega
    go_wp2
    -- the frames
    go_loopw [8, 33] (fun x y wr => FrRel w2 w2.heap.size l x y wr) (fun _ y _ => n - (intOf y).toNat)
    case atStart => exact ⟨0, [], rfl, Nat.zero_le _, rfl, World.ownsRow_nil _ _ _ _, by simp, by simp, by simp, Below.refl _ _⟩
    case round =>
      obtain ⟨k, fl, rfl, hk, hfl, ho, hp, hd, ha, hb⟩ := hrel
      obtain ⟨FA, Fc, rfl⟩ := own_shape ho
      have HFL := Lib.hid hfl
      have HO := Lib.hid ho
      have HPf := Lib.hid hp
      have HDD := Lib.hid hd
      have HA := Lib.hid ha
      have HB := Lib.hid hb
      have CW := Lib.hid (C.out.trans (hb.mono C.out.size))
      rw [HLL.out] at hk
      clear hfl ho hp hd ha hb
      by_cases hlt : k < n
      · obtain ⟨ad, t, rfl, ht, hc, hbl⟩ := strs_at (HL0.out.below CW.out) hlt
        have HT := Lib.hid ht
        have HC := Lib.hid hc
        clear ht hc
        by_cases h4 : t.length ≤ 4096
        · have c0 := HC.out
          go_wp2_with fail
          refine (frame_ok (S t) (Nm.txt t) (Nm.txt t).length wr (by rw [S_size]; exact h4) rfl rfl).mono ?_
          rintro e w5 ⟨A5, c5, rfl, ho, hb⟩
          have hsm := txt_small h4
          obtain ⟨q, hq⟩ : ∃ q, (Nm.txt t).length = q := ⟨_, rfl⟩
          rw [hq] at ho hsm
          have O5 := Lib.hid (own_mono (base' := w2.heap.size) ho HB.out.size)
          have HO5 := Lib.hid (own_below HO.out hb)
          have HP5 : Hid (∀ p ∈ fl, w5.ownsRow w2.heap.size 5 1 (.slice p.A p.n p.c) p.n (cb p.d) ∧ p.n ≤ 5000) := fun p hp => ⟨own_below (HPf.out p hp).1 hb, (HPf.out p hp).2⟩
          have HB5 := Lib.hid (HB.out.trans (hb.mono HB.out.size))
          rw [hq]
          have HQ := Lib.hid hq
          clear ho hb hq c0 HO HPf HB CW
          go_wp2_with (at_builtin; refine app_s1 rfl (.tmp 46) (.tmp 48) rfl w2.heap.size (.slice FA k Fc) k fl rfl HO5.out ⟨false, A5, q, c5, Nm.txt t⟩ rfl (by omega) HB5.out.size ?_)
          intro v6 w6 o6 g6
          obtain ⟨F6, cF6, rfl⟩ := own_shape o6
          have O6 := Lib.hid o6
          have HP6 : Hid (∀ p ∈ fl ++ [⟨false, A5, q, c5, Nm.txt t⟩], w6.ownsRow w2.heap.size 5 1 (.slice p.A p.n p.c) p.n (cb p.d) ∧ p.n ≤ 5000) := by
            intro p hp
            rcases List.mem_append.1 hp with hp | hp
            · exact ⟨own_other (HP5.out p hp).1 HO5.out (by decide) g6, (HP5.out p hp).2⟩
            · rw [List.mem_singleton] at hp
              subst hp
              exact ⟨own_other O5.out HO5.out (by decide) g6, hsm⟩
          have HB6 := Lib.hid (HB5.out.trans (g6.belowOwn HO5.out HB5.out.size))
          clear o6 g6 HO5 HP5 HB5 O5
          go_wp2
          go_roundw
          case rel => exact ⟨k + 1, fl ++ [⟨false, A5, q, c5, Nm.txt t⟩], by go_num, by rw [HLL.out]; omega, by rw [List.length_append, HFL.out]; rfl, O6.out, HP6.out, by rw [List.map_append, HDD.out, List.take_add_one, HT.out, List.map_append]; rfl, mem_take_next HT.out HA.out h4, HB6.out⟩
          case measure => simp [intOf]; omega
        · have c0 := HC.out
          go_wp2_with fail
          refine (frame_bad (S t) wr (by rw [S_size]; omega)).mono ?_
          rintro e w5 ⟨rfl, rfl⟩
          have hr := HR2.out
          rw [all_false HT.out (by omega), if_neg (by simp)] at hr
          obtain ⟨rfl, rfl⟩ := Prod.mk.inj hr
          replace KR := Lib.hid (KR.out.below HB.out KR.out.lt)
          replace C := CW
          clear hr HR2 c0
          have z0 := KR.out.cell 0
          have z1 := KR.out.cell 1
          have fz0 := KR.out.frozen 0
          have fz1 := KR.out.frozen 1
          go_wp2
          exact bodyPost_ret (v := .tuple #[.agg #[.slice none 0 0, .slice none 0 0], .int .i64 3]) (by simp [results, Try.results9, go_sem, z0, z1]) rfl ⟨zeroHD, rfl, zeroHD_own _ _, rfl, (C.out.setCell (by simp) _).setCell (by simp) _⟩
      · obtain rfl : k = n := by omega
        have hall : l.all (fun t => decide (t.length ≤ 4096)) = true := by
          rw [List.all_eq_true]
          intro t ht
          have e1 : l.take k = l := List.take_of_length_le (by rw [HLL.out]; exact Nat.le_refl _)
          exact decide_eq_true (HA.out t (by rw [e1]; exact ht))
        have hr := HR2.out
        rw [if_pos hall] at hr
        replace HR2 := Lib.hid hr
        have HDD2 : Hid (fl.map HP.d = l.map Nm.txt) := by rw [Hid, HDD.out, List.take_of_length_le (by rw [HLL.out]; exact Nat.le_refl _)]
        replace K1 := Lib.hid (K1.out.below HB.out K1.out.lt)
        replace KR := Lib.hid (KR.out.below HB.out KR.out.lt)
        replace OB := Lib.hid (own_below OB.out HB.out)
        replace C := CW
        have hw3 := HB.out.size
        clear hr hall HDD HA HB CW
        have kn : ¬ (k : Int) < (k : Int) := by omega
        go_wp2_with fail
        refine (cut_any A2 m c2 (Dp.seen D.disk) wr (Reads.of_own OB.out) hmc hm20).mono ?_
        rintro e w6 ⟨A6, c6, rfl, -, hb⟩
        obtain ⟨Lz, z, hcut⟩ : ∃ Lz z, Nm.cut (Dp.seen D.disk) = (Lz, z) := ⟨_, _, rfl⟩
        simp only [hcut]
        have hr := HR2.out
        rw [hcut, HMM.out] at hr
        simp only at hr
        replace HR2 := Lib.hid hr
        replace K1 := Lib.hid (K1.out.below hb K1.out.lt)
        replace KR := Lib.hid (KR.out.below hb KR.out.lt)
        replace HO := Lib.hid (own_below HO.out hb)
        have HP2 : Hid (∀ p ∈ fl, w6.ownsRow w2.heap.size 5 1 (.slice p.A p.n p.c) p.n (cb p.d) ∧ p.n ≤ 5000) := fun p hp => ⟨own_below (HPf.out p hp).1 hb, (HPf.out p hp).2⟩
        replace C := Lib.hid (C.out.trans (hb.mono C.out.size))
        have hw6 := hb.size
        clear hb hcut hr HPf OB
        by_cases hq : z = m
        · have hq2 : (z : Int) = (m : Int) := by omega
          have dq : decide ((z : Int) = (m : Int)) = true := decide_eq_true hq2
          have hr := HR2.out
          rw [if_pos hq] at hr
          replace HR2 := Lib.hid hr
          clear hr hq
          have y0 := K1.out.cell 0
          have y1 := K1.out.cell 1
          go_wp2_with fail
          refine (twin_any D _ ((HD0.out.below C.out).more C.out.size) (by have := may_wn HM.out; have := HD0.out.len_l; omega)).mono ?_
          rintro e w7 ⟨D7, rfl, hx, hex, hb⟩
          replace K1 := Lib.hid (K1.out.below hb K1.out.lt)
          replace KR := Lib.hid (KR.out.below hb KR.out.lt)
          replace HO := Lib.hid (own_below HO.out hb)
          have HP3 : Hid (∀ p ∈ fl, w7.ownsRow w2.heap.size 5 1 (.slice p.A p.n p.c) p.n (cb p.d) ∧ p.n ≤ 5000) := fun p hp => ⟨own_below (HP2.out p hp).1 hb, (HP2.out p hp).2⟩
          have O7 := Lib.hid (hx.mono (base' := w.heap.size) C.out.size)
          have E7 := Lib.hid hex
          replace C := Lib.hid (C.out.trans (hb.mono C.out.size))
          have hw7 := hb.size
          clear hx hex hb y0 y1 HP2
          have q0 := K1.out.cell 0
          have q1 := K1.out.cell 1
          have fq0 := K1.out.frozen 0
          have fq1 := K1.out.frozen 1
          have hne : w.heap.size ≠ w.heap.size + 1 := by omega
          have hne2 : w.heap.size + 1 ≠ w.heap.size := by omega
          have K18 := Lib.hid ((K1.out.set_ 0 (.slice D7.A D7.n D7.c)).set_ 1 (.slice D7.WA D7.Wn D7.Wc))
          have KR8 := Lib.hid ((KR.out.far (p := ⟨w.heap.size, 0, none⟩) hne2 (.slice D7.A D7.n D7.c)).far (p := ⟨w.heap.size, 1, none⟩) hne2 (.slice D7.WA D7.Wn D7.Wc))
          have HO8 := Lib.hid (own_set (own_set HO.out K1.out (by decide) 0 (.slice D7.A D7.n D7.c)) (K1.out.set_ 0 (.slice D7.A D7.n D7.c)) (by decide) 1 (.slice D7.WA D7.Wn D7.Wc))
          have HP8 : Hid (∀ p ∈ fl, ((w7.setCell ⟨w.heap.size, 0, none⟩ (.slice D7.A D7.n D7.c)).setCell ⟨w.heap.size, 1, none⟩ (.slice D7.WA D7.Wn D7.Wc)).ownsRow w2.heap.size 5 1 (.slice p.A p.n p.c) p.n (cb p.d) ∧ p.n ≤ 5000) := fun p hp => ⟨own_set (own_set (HP3.out p hp).1 K1.out (by decide) 0 _) (K1.out.set_ 0 _) (by decide) 1 _, (HP3.out p hp).2⟩
          have O8 := Lib.hid ((O7.out.set_ K1.out 0 (.slice D7.A D7.n D7.c)).set_ (K1.out.set_ 0 (.slice D7.A D7.n D7.c)) 1 (.slice D7.WA D7.Wn D7.Wc))
          have C8 := Lib.hid ((C.out.setCell (p := ⟨w.heap.size, 0, none⟩) (Nat.le_refl _) (.slice D7.A D7.n D7.c)).setCell (p := ⟨w.heap.size, 1, none⟩) (Nat.le_refl _) (.slice D7.WA D7.Wn D7.Wc))
          go_wp2
          clear q0 q1 fq0 fq1
          go_loopw [66] (fun y wr => ARel w w2.heap.size FA k Fc fl D.disk l y wr) (fun y _ => k - (intOf y).toNat)
          case atStart => exact ⟨0, D7, rfl, Nat.zero_le _, C8.out, K18.out, O8.out, by rw [E7.out, List.drop_zero], KR8.out, HO8.out, HP8.out⟩
          case round =>
            clear K18 KR8 HO8 HP8 O8 C8 K1 KR HO HP3 O7 E7
            obtain ⟨i, X, rfl, hi, hc, hk1, hx, he, hkr, ho, hp⟩ := hrel
            replace C := Lib.hid hc
            have K1 := Lib.hid hk1
            have KR := Lib.hid hkr
            have HX := Lib.hid hx
            have HE := Lib.hid he
            have HO := Lib.hid ho
            have HPf := Lib.hid hp
            clear hc hk1 hx he hkr ho hp
            by_cases hlt : i < k
            · obtain ⟨ad, p, rfl, hf, hcc⟩ := cs_at (Reads.of_own HO.out) hlt
              have hpm := List.mem_of_getElem? hf
              obtain ⟨t, ht, hpt⟩ := map_at HDD2.out hf
              obtain ⟨hpo, hpn⟩ := HPf.out p hpm
              obtain ⟨sw, pA, pn, pc, pd⟩ := p
              simp only at hpt hpo hpn hcc
              obtain ⟨R1, r1, hW⟩ : ∃ R1 r1, Dp.write X.disk ⟨false, pd⟩ = (R1, r1) := ⟨_, _, rfl⟩
              have hE := HE.out
              rw [adds_next ht, ← hpt, hW] at hE
              simp only at hE
              have HE2 := Lib.hid hE
              have HW := Lib.hid hW
              have PP : Hid (PutAt wr wr.heap.size ⟨false, pA, pn, pc, pd⟩) := ⟨Reads.of_own hpo, (own_cap hpo).1, (own_cap hpo).2, by show pn ≤ _; omega⟩
              have HC := Lib.hid hcc
              clear hpm hpt hpo hW hE HE hcc hf ht
              have c0 := HC.out
              have q0 := K1.out.cell 0
              have q1 := K1.out.cell 1
              have fq0 := K1.out.frozen 0
              have fq1 := K1.out.frozen 1
              go_wp2_with fail
              refine (append_is X pA pn pc pd _ R1 r1 HW.out HX.out.at_ PP.out).mono ?_
              rintro e w9 ⟨D9, rfl, hx, hex, hb⟩
              clear q0 q1 fq0 fq1 c0
              replace K1 := Lib.hid (K1.out.below hb K1.out.lt)
              replace KR := Lib.hid (KR.out.below hb KR.out.lt)
              replace HO := Lib.hid (own_below HO.out hb)
              have HP9 : Hid (∀ p ∈ fl, w9.ownsRow w2.heap.size 5 1 (.slice p.A p.n p.c) p.n (cb p.d) ∧ p.n ≤ 5000) := fun p hp => ⟨own_below (HPf.out p hp).1 hb, (HPf.out p hp).2⟩
              have O9 := Lib.hid (hx.mono (base' := w.heap.size) C.out.size)
              have E9 := Lib.hid hex
              replace C := Lib.hid (C.out.trans (hb.mono C.out.size))
              clear hx hex hb HPf PP HX HC
              have q0 := K1.out.cell 0
              have q1 := K1.out.cell 1
              have fq0 := K1.out.frozen 0
              have fq1 := K1.out.frozen 1
              have K18 := Lib.hid ((K1.out.set_ 0 (.slice D9.A D9.n D9.c)).set_ 1 (.slice D9.WA D9.Wn D9.Wc))
              have KR8 := Lib.hid ((KR.out.far (p := ⟨w.heap.size, 0, none⟩) hne2 (.slice D9.A D9.n D9.c)).far (p := ⟨w.heap.size, 1, none⟩) hne2 (.slice D9.WA D9.Wn D9.Wc))
              have HO8 := Lib.hid (own_set (own_set HO.out K1.out (by decide) 0 (.slice D9.A D9.n D9.c)) (K1.out.set_ 0 (.slice D9.A D9.n D9.c)) (by decide) 1 (.slice D9.WA D9.Wn D9.Wc))
              have HP8 : Hid (∀ p ∈ fl, ((w9.setCell ⟨w.heap.size, 0, none⟩ (.slice D9.A D9.n D9.c)).setCell ⟨w.heap.size, 1, none⟩ (.slice D9.WA D9.Wn D9.Wc)).ownsRow w2.heap.size 5 1 (.slice p.A p.n p.c) p.n (cb p.d) ∧ p.n ≤ 5000) := fun p hp => ⟨own_set (own_set (HP9.out p hp).1 K1.out (by decide) 0 _) (K1.out.set_ 0 _) (by decide) 1 _, (HP9.out p hp).2⟩
              have O8 := Lib.hid ((O9.out.set_ K1.out 0 (.slice D9.A D9.n D9.c)).set_ (K1.out.set_ 0 (.slice D9.A D9.n D9.c)) 1 (.slice D9.WA D9.Wn D9.Wc))
              have C8 := Lib.hid ((C.out.setCell (p := ⟨w.heap.size, 0, none⟩) (Nat.le_refl _) (.slice D9.A D9.n D9.c)).setCell (p := ⟨w.heap.size, 1, none⟩) (Nat.le_refl _) (.slice D9.WA D9.Wn D9.Wc))
              clear HP9 HO K1 C O9
              by_cases h0 : r1 = 0
              · subst h0
                have hE := HE2.out
                rw [if_pos rfl] at hE
                have HE3 := Lib.hid hE
                clear hE HE2
                go_wp2
                go_roundw
                case rel => exact ⟨i + 1, D9, by go_num, by omega, C8.out, K18.out, O8.out, by rw [E9.out]; exact HE3.out, KR8.out, HO8.out, HP8.out⟩
                case measure => simp [intOf]; omega
              · have hd0 : decide (r1 = 0) = false := decide_eq_false h0
                have hE := HE2.out
                rw [if_neg h0, HR2.out] at hE
                obtain ⟨rfl, rfl⟩ := Prod.mk.inj hE
                clear hE HE2 HR2
                have z0 := KR.out.cell 0
                have z1 := KR.out.cell 1
                have fz0 := KR.out.frozen 0
                have fz1 := KR.out.frozen 1
                go_wp2
                exact bodyPost_ret (v := .tuple #[.agg #[.slice none 0 0, .slice none 0 0], .int .i64 r]) (by simp [results, Try.results9, go_sem, z0, z1, hne, hne2]) rfl ⟨zeroHD, rfl, zeroHD_own _ _, rfl, (C8.out.setCell (by simp) _).setCell (by simp) _⟩
            · obtain rfl : i = k := by omega
              have hE := HE.out
              rw [List.drop_of_length_le (by rw [HLL.out]; exact Nat.le_refl _), HR2.out] at hE
              obtain ⟨rfl, rfl⟩ := Prod.mk.inj hE
              clear hE HE HR2
              have q0 := K1.out.cell 0
              have q1 := K1.out.cell 1
              have z0 := KR.out.cell 0
              have z1 := KR.out.cell 1
              have fz0 := KR.out.frozen 0
              have fz1 := KR.out.frozen 1
              go_wp2
              exact bodyPost_ret (v := .tuple #[.agg #[.slice X.A X.n X.c, .slice X.WA X.Wn X.Wc], .int .i64 0]) (by simp [results, Try.results9, go_sem, z0, z1]) rfl ⟨X, rfl, (HX.out.set_ KR.out 0 _).set_ (KR.out.set_ 0 _) 1 _, rfl, (C.out.setCell (by simp) _).setCell (by simp) _⟩
        · have hq2 : ¬ (z : Int) = (m : Int) := by omega
          have dq : decide ((z : Int) = (m : Int)) = false := decide_eq_false hq2
          have hr := HR2.out
          rw [if_neg hq] at hr
          obtain ⟨rfl, rfl⟩ := Prod.mk.inj hr
          clear hr HR2
          have z0 := KR.out.cell 0
          have z1 := KR.out.cell 1
          have fz0 := KR.out.frozen 0
          have fz1 := KR.out.frozen 1
          go_wp2
          exact bodyPost_ret (v := .tuple #[.agg #[.slice none 0 0, .slice none 0 0], .int .i64 8]) (by simp [results, Try.results9, go_sem, z0, z1]) rfl ⟨zeroHD, rfl, zeroHD_own _ _, rfl, (C.out.setCell (by simp) _).setCell (by simp) _⟩
end Go.Proofs.Ythmbjmknifkbaaa
