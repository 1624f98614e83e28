/-
  Layer 3: disk.wait, Append, Swap.
-/
import Derived.Test.YthmbjmknifkbaaaDiskB
import Derived.Deep.RegionLawGrows
namespace Go.Proofs.Ythmbjmknifkbaaa
open Go.RowKit
set_option maxHeartbeats 4000000
set_option maxRecDepth 100000
set_option linter.unusedVariables false
set_option linter.unusedSimpArgs false

/-! ### words -/
theorem grown_tr {a b c : World} {r : Option Nat} (h : a.grownBy b r) (k : b.grownBy c r) : a.grownBy c r :=
  ⟨k.os.trans h.os, k.tape.trans h.tape, k.output.trans h.output, Nat.le_trans h.size k.size, fun i hi hne => (k.block i (Nat.lt_of_lt_of_le hi h.size) hne).trans (h.block i hi hne)⟩
theorem grown_row {a b c : World} {r : Option Nat} {v : Value} (h : a.grownBy b r) (k : b.grownBy c v.ownBlock) (hv : ∀ g, v.ownBlock = some g → a.heap.size ≤ g) : a.grownBy c r :=
  ⟨k.os.trans h.os, k.tape.trans h.tape, k.output.trans h.output, Nat.le_trans h.size k.size, fun i hi hne => (k.block i (Nat.lt_of_lt_of_le hi h.size) (fun e => by have := hv i e.symm; omega)).trans (h.block i hi hne)⟩
theorem below_grown {B : Nat} {a b c : World} {g : Nat} (h : Below B a b) (k : b.grownBy c (some g)) (hB : B ≤ b.heap.size) (hg : B ≤ g) : Below B a c :=
  ⟨k.os.trans h.os, k.tape.trans h.tape, k.output.trans h.output, Nat.le_trans h.size k.size, fun i hi => (k.block i (Nat.lt_of_lt_of_le hi hB) (fun e => by injection e with e; omega)).trans (h.block i hi)⟩
theorem below_grown0 {B : Nat} {a b c : World} (h : Below B a b) (k : b.grownBy c none) (hB : B ≤ b.heap.size) : Below B a c :=
  ⟨k.os.trans h.os, k.tape.trans h.tape, k.output.trans h.output, Nat.le_trans h.size k.size, fun i hi => (k.block i (Nat.lt_of_lt_of_le hi hB) (by simp)).trans (h.block i hi)⟩
theorem own_grown0 {a b : World} {base n size : Nat} {e : TypeId} {v : Value} {xs : List Value} (h : a.ownsRow base e size v n xs) (k : a.grownBy b none) : b.ownsRow base e size v n xs :=
  own_keep h fun g' hg => k.block g' (own_lt h hg).2 (by simp)
theorem own_grown {a b : World} {base n size g : Nat} {e t : TypeId} {v : Value} {xs : List Value} {cs : Array Value} (h : a.ownsRow base e size v n xs) (k : a.grownBy b (some g)) (hb : Blk a g t cs) (hne : e ≠ t) : b.ownsRow base e size v n xs := by
  refine own_keep h fun g' hg => k.block g' (own_lt h hg).2 ?_
  intro e
  injection e with e
  subst e
  exact own_blk_ne h hb hne hg
theorem own_shape {w : World} {base n size : Nat} {e : TypeId} {v : Value} {xs : List Value} (h : w.ownsRow base e size v n xs) : ∃ A c, v = .slice A n c := by
  rcases h.2 with ⟨rfl, rfl⟩ | ⟨g, cap, cur, rfl, _⟩
  · exact ⟨none, 0, rfl⟩
  · exact ⟨_, cap, rfl⟩
theorem new_put (w : World) (sw : Bool) (A : Option Addr) (n c : Nat) (d : List UInt8) : Reads (w.alloc (.cells #[.bool sw, .slice A n c] 42)) (w.heap.size + 1) 2 (some ⟨w.heap.size, 0, none⟩) 1 (hp [⟨sw, A, n, c, d⟩]) := by
  refine ⟨rfl, fun _ => ⟨_, rfl, by simp, fun j u hu => ?_⟩⟩
  have hadd : (⟨w.heap.size, 0, none⟩ : Addr).add j = ⟨w.heap.size, j, none⟩ := by unfold Addr.add; split <;> simp_all
  rw [hadd, (Blk.new w 42 #[.bool sw, .slice A n c]).cell j]
  simpa [hp, hcells] using hu
/-- One write onto a full row that came in, at a step of a region that draws. -/
theorem step_full {ops : Array Oper} {o : Oper} {a : Act} {w : World} {K : Act → World → Prop} {Q : Exit → Act → World → Prop} {E : Prop} (hgd : o.guard = none) (sl x : Operand)
    (ho : o.op = .call { callee := .builtin .append, args := #[sl, x], argTypes := #[23, 23] })
    (B : Nat) (A : Option Addr) (n : Nat) (l : List HP) (hs : a.eval sl = .slice A n n) (hl : Reads w B 2 A n (hp l))
    (A2 : Option Addr) (c : Nat) (p : HP) (hx : a.eval x = .slice A2 1 c) (hr : Reads w (B + 1000000) 2 A2 1 (hp [p]) ∨ ∃ B2, Reads w B2 2 A2 1 (hp [p]))
    (hn : n ≤ 1000000000000)
    (h : ∀ v' w', w'.ownsRow w.heap.size 42 2 v' (n + 1) (hp (l ++ [p])) → w.grownBy w' none → K (a.put o.dst v') w') :
    if Region.wanted o (yielded ops a.tmps) = true then Oper.wp Try.prog o a w K Q else E := by
  obtain ⟨i0, hi0, hz0, hz1, hz2⟩ := info_parts put_info
  obtain ⟨B2, hr⟩ : ∃ B2, Reads w B2 2 A2 1 (hp [p]) := by
    rcases hr with h | h
    · exact ⟨_, h⟩
    · exact h
  obtain ⟨ad, rfl, _, hc2⟩ := hr.2 (by omega)
  have holds : ∀ b, A = some b → ∀ j u, (hp l)[j]? = some u → w.cell? (b.add j) = some u := by
    intro b hb j u hu
    rcases Nat.eq_zero_or_pos n with h0 | h0
    · subst h0
      have := hl.len_h
      obtain rfl : l = [] := List.eq_nil_of_length_eq_zero this
      simp [hp] at hu
    · obtain ⟨ad, e, _, hc⟩ := hl.2 h0
      rw [hb] at e
      injection e with e
      subst e
      exact hc j u hu
  refine step_append_grows hgd sl x 23 ho 42 i0 _ 2 32 Try.underlying23 hi0 hz0 hz1 hz2 rfl (by decide) A n n (hp l) hs ?_ hl.1 holds ad 1 c (hp [p]) hx hr.1 hc2 (hp_one _) (by omega) (by simp only [maxLen]; omega) (by omega) ?_
  · intro e
    subst e
    rcases Nat.eq_zero_or_pos n with h0 | h0
    · exact ⟨h0, h0⟩
    · obtain ⟨ad, e, _⟩ := hl.2 h0
      cases e
  · intro v' w' h1 h2
    exact h v' w' (by rw [hp_append]; exact h1) h2

theorem OwnDisk.set_ {w : World} {base g : Nat} {D : HD} {cs : Array Value} (h : OwnDisk w base D) (hb : Blk w g 25 cs) (i : Nat) (u : Value) : OwnDisk (w.setCell ⟨g, i, none⟩ u) base D :=
  ⟨own_set h.rd hb (by decide) i u, own_set h.rw_ hb (by decide) i u, h.lim, h.wlim, fun p hp' => ⟨own_set (h.all p hp').1 hb (by decide) i u, (h.all p hp').2⟩⟩
def DPutRel (w3 : World) (g7 : Nat) (A1 : Option Addr) (n c1 : Nat) (lp : List HP) (y : Value) (wr : World) : Prop :=
  ∃ (k : Nat) (WA : Option Addr) (Wc : Nat) (l' : List HP), y = .int .i64 (k : Int) ∧ k ≤ lp.length ∧ w3.grownBy wr (some g7) ∧ Blk wr g7 25 #[.slice A1 n c1, .slice WA k Wc] ∧
    wr.ownsRow w3.heap.size 42 2 (.slice WA k Wc) k (hp l') ∧ l'.map HP.put = (lp.take k).map HP.put ∧ ∀ q ∈ l', wr.ownsRow w3.heap.size 5 1 (.slice q.A q.n q.c) q.n (cb q.d) ∧ q.n ≤ 140737488351232
theorem cells5 {W : World} {h1 h2 : Nat} {a b c d : Value} {t1 t2 : TypeId} (k1 : Blk W h1 t1 #[a, b]) (k2 : Blk W h2 t2 #[c, d]) : W.cell? ⟨h1, 1, none⟩ = some b ∧ W.cell? ⟨h2, 0, none⟩ = some c ∧ W.cell? ⟨h2, 1, none⟩ = some d := ⟨k1.cell 1, k2.cell 0, k2.cell 1⟩

theorem wait_ok (D : HD) (p : HP) (w : World) (b : Bool) (h : DiskAt w w.heap.size D) (hp' : PutAt w w.heap.size p) (hm : Dp.mayD D.disk = true) (hb : Dp.mayD ⟨D.d, D.disk.wait ++ [p.put]⟩ = b) :
    Calls Try.prog 31 #[.agg #[.slice D.A D.n D.c, .slice D.WA D.Wn D.Wc], .agg #[.bool p.sw, .slice p.A p.n p.c]] w fun e w' => ∃ D', e = .returned (.tuple #[.agg #[.slice D'.A D'.n D'.c, .slice D'.WA D'.Wn D'.Wc], .int .i64 (if b = true then 0 else 9)]) ∧ OwnDisk w' w.heap.size D' ∧ D'.disk = (if b = true then ⟨D.d, D.disk.wait ++ [p.put]⟩ else Dp.zeroD) ∧ Below w.heap.size w w' := by
  have hwl := may_wn hm
  have hlen := h.len_l
  have hlim := h.lim
  have hwnc := h.wnc
  obtain ⟨A, n, c, d, WA, Wn, Wc, l⟩ := D
  obtain ⟨sw, pA, pn, pc, pd⟩ := p
  simp only at hwl hlen hlim hwnc ⊢
  rw [hlen] at hwl
  have hz : w.heap.size + 1 < w.heap.size + 2 := by omega
  have HA := Lib.hid (((h.alloc (.cells #[.slice A n c, .slice WA Wn Wc] 25)).alloc (.cells #[.bool sw, .slice pA pn pc] 42)).alloc (.cells #[.slice none 0 0, .slice none 0 0] 25))
  have HP0 := Lib.hid hp'
  have HD0 := Lib.hid h
  have HM := Lib.hid hm
  have HBB := Lib.hid hb
  have HL := Lib.hid hlen
  have B0 := Lib.hid ((((Below.refl _ w).alloc (Nat.le_refl w.heap.size) (.cells #[.slice A n c, .slice WA Wn Wc] 25)).alloc (by simp) (.cells #[.bool sw, .slice pA pn pc] 42)).alloc (by simp; omega) (.cells #[.slice none 0 0, .slice none 0 0] 25))
  have KD := Lib.hid (((Blk.new w 25 #[.slice A n c, .slice WA Wn Wc]).alloc (.cells #[.bool sw, .slice pA pn pc] 42)).alloc (.cells #[.slice none 0 0, .slice none 0 0] 25))
  have KP := Lib.hid ((Blk.newAt (w := w.alloc (.cells #[.slice A n c, .slice WA Wn Wc] 25)) (g := w.heap.size + 1) (by simp) 42 #[.bool sw, .slice pA pn pc]).alloc (.cells #[.slice none 0 0, .slice none 0 0] 25))
  have KR := Lib.hid (Blk.newAt (w := (w.alloc (.cells #[.slice A n c, .slice WA Wn Wc] 25)).alloc (.cells #[.bool sw, .slice pA pn pc] 42)) (g := w.heap.size + 2) (by simp) 25 #[.slice none 0 0, .slice none 0 0])
  have hs3 := fun W => run_slice2_full (P := Try.prog) Try.underlying23 WA Wn Wc hwnc W put_size
  clear h hp' hm hb hlen
  go_enter Try.func31, Try.ntmps31
  go_wp2_with fail
  refine (check_any ⟨A, n, c, d, WA, Wn, Wc, l⟩ _ true HM.out HA.out).mono ?_
  rintro e w1 ⟨rfl, hb1⟩
  rw [show eD true = 0 from rfl]
  have KD1 := Lib.hid (Blk.below KD.out hb1 KD.out.lt)
  have KP1 := Lib.hid (Blk.below KP.out hb1 KP.out.lt)
  have KR1 := Lib.hid (Blk.below KR.out hb1 KR.out.lt)
  have B1 := Lib.hid (B0.out.trans (hb1.mono B0.out.size))
  clear hb1 KD KP KR B0 HA
  have y0 := KD1.out.cell 0
  have y1 := KD1.out.cell 1
  go_wp2_with fail
  refine (clone_any A n c d w1 w.heap.size (HD0.out.rd.below B1.out) B1.out.size hlim).mono ?_
  rintro e w2 ⟨A1, c1, rfl, o1, b1⟩
  have KD2 := Lib.hid ((KD1.out.below b1 KD1.out.lt).alloc (.cells #[.slice A1 n c1, .slice none 0 0] 25))
  have KP2 := Lib.hid ((KP1.out.below b1 KP1.out.lt).alloc (.cells #[.slice A1 n c1, .slice none 0 0] 25))
  have KR2 := Lib.hid ((KR1.out.below b1 KR1.out.lt).alloc (.cells #[.slice A1 n c1, .slice none 0 0] 25))
  have K7 := Lib.hid (Blk.new w2 25 #[.slice A1 n c1, .slice none 0 0])
  have O1 := Lib.hid ((own_mono (base' := w.heap.size) o1 B1.out.size).alloc (.cells #[.slice A1 n c1, .slice none 0 0] 25))
  have B2 := Lib.hid ((B1.out.trans (b1.mono B1.out.size)).alloc (Nat.le_trans B1.out.size b1.size) (.cells #[.slice A1 n c1, .slice none 0 0] 25))
  have hz1 := KR1.out.lt
  have hz2 := b1.size
  clear o1 b1 y0 y1 KD1 KP1 KR1 B1
  go_wp2_with fail
  have HWS := Lib.hid (show (w2.alloc (.cells #[.slice A1 n c1, .slice none 0 0] 25)).heap.size = w2.heap.size + 1 by simp)
  generalize w2.alloc (.cells #[.slice A1 n c1, .slice none 0 0] 25) = W at *
  generalize w2.heap.size = g7 at *
  have HRW := Lib.hid (HD0.out.rw_.below B2.out)
  have hz3 : w.heap.size + 2 < g7 := by omega
  go_region_held3 (fun w' => w'.cell? ⟨w.heap.size, 1, none⟩ = some (.slice WA Wn Wc) ∧ w'.cell? ⟨w.heap.size + 1, 0, none⟩ = some (.bool sw) ∧ w'.cell? ⟨w.heap.size + 1, 1, none⟩ = some (.slice pA pn pc))
    (first | exact cells5 KD2.out.drew KP2.out.drew | exact cells5 (KD2.out.drew.alloc _) (KP2.out.drew.alloc _) | exact cells5 ((KD2.out.drew.alloc _).grown g3 (by simp)) ((KP2.out.drew.alloc _).grown g3 (by simp)))
    ((refine step_full (by rfl) (.tmp 28) (.tmp 30) (by rfl) w.heap.size WA Wn l (by simp [Act.eval, Act.put]) (HRW.out.drew.alloc B2.out.size _) (some ⟨W.heap.size, 0, none⟩) 1 ⟨sw, pA, pn, pc, pd⟩ (by simp [Act.eval, Act.put]) (Or.inr ⟨_, new_put W.drew sw pA pn pc pd⟩) (by omega) ?_; intro v3 w3 o3 g3; obtain ⟨A3, c3, rfl⟩ := own_shape o3))
  obtain ⟨lp, hlp⟩ : ∃ lp, l ++ [⟨sw, pA, pn, pc, pd⟩] = lp := ⟨_, rfl⟩
  rw [hlp] at o3
  have HLP : Hid (lp.length = Wn + 1) := by rw [Hid, ← hlp, List.length_append, HL.out]; rfl
  have HLM : Hid (lp.map HP.put = l.map HP.put ++ [⟨sw, pd⟩]) := by rw [Hid, ← hlp, List.map_append]; rfl
  have HALL : Hid (∀ q ∈ lp, PutAt w w.heap.size q) := by
    intro q hq
    rw [← hlp] at hq
    rcases List.mem_append.1 hq with hq | hq
    · exact HD0.out.all q hq
    · rw [List.mem_singleton] at hq
      rw [hq]
      exact HP0.out
  have hsz3 : W.heap.size + 1 ≤ w3.heap.size := by have := g3.size; simpa using this
  have hsz4 : g7 + 2 ≤ w3.heap.size := by have := HWS.out; omega
  have B3 := Lib.hid (below_grown0 (B2.out.drew.alloc B2.out.size (.cells #[.bool sw, .slice pA pn pc] 42)) g3 (Nat.le_trans B2.out.size (by simp)))
  have K73 := Lib.hid (((K7.out.drew.alloc (.cells #[.bool sw, .slice pA pn pc] 42)).grown g3 (by simp)))
  have KR3 := Lib.hid (((KR2.out.drew.alloc (.cells #[.bool sw, .slice pA pn pc] 42)).grown g3 (by simp)))
  have O13 := Lib.hid (own_grown0 ((show W.drew.ownsRow w.heap.size 5 1 (.slice A1 n c1) n (cb d) from own_keep O1.out fun _ _ => rfl).alloc (.cells #[.bool sw, .slice pA pn pc] 42)) g3)
  have O3 := Lib.hid o3
  clear o3 g3 hlp KD2 KP2 KR2 K7 O1 B2 HRW hs3
  go_wp2
  go_loopw [33] (fun y wr => DPutRel w3 g7 A1 n c1 lp y wr) (fun y _ => Wn + 1 - (intOf y).toNat)
  case atStart => exact ⟨0, none, 0, [], rfl, Nat.zero_le _, World.grownBy.refl _ _, K73.out, World.ownsRow_nil _ _ _ _, rfl, by simp⟩
  case round =>
    obtain ⟨k, WA2, Wc2, l', rfl, hk, hg, hK, hO, hl', hA⟩ := hrel
    have HG := Lib.hid hg
    have HK := Lib.hid hK
    have HO := Lib.hid hO
    have HL' := Lib.hid hl'
    have HA := Lib.hid hA
    clear hg hK hO hl' hA
    rw [HLP.out] at hk
    have HBW := Lib.hid (below_grown B3.out HG.out B3.out.size (by omega))
    have hszr := HG.out.size
    by_cases hlt : k < Wn + 1
    · have HO3 := Lib.hid (own_grown O3.out HG.out K73.out (by decide))
      obtain ⟨g, off, q, e, hgg, hmm, hc⟩ := (Reads.of_own HO3.out).hput hlt
      have hqa := HALL.out q (List.mem_of_getElem? hmm)
      obtain ⟨qw, qA, qn, qc, qd⟩ := q
      subst e
      have HC : Hid (wr.rangeAt g (off + k * 2) [.bool qw, .slice qA qn qc]) := Lib.hid hc
      have HM2 := Lib.hid hmm
      have HQ := Lib.hid ((hqa.below HBW.out).alloc1 HBW.out.size (.cells #[.bool qw, .slice qA qn qc] 42))
      have hqlim : qn ≤ 140737488351232 := hqa.2.2.2
      clear hc hmm hqa
      go_wp2_with (first | (with_reducible refine wpList_load_mid rfl _ _ rfl _ _ rfl _ _ HC.out Try.underlying42 rfl (by kernel_rfl) ?_) | fail)
      have KG := Lib.hid (HK.out.alloc (.cells #[.bool qw, .slice qA qn qc] 42)).drew
      have KB := Lib.hid (Blk.new wr 42 #[.bool qw, .slice qA qn qc]).drew
      have HS0 := Lib.hid (cells5 KG.out KB.out)
      refine T_region 10 (fun w' => w'.cell? ⟨g7, 1, none⟩ = some (.slice WA2 k Wc2) ∧ w'.cell? ⟨wr.heap.size, 0, none⟩ = some (.bool qw) ∧ w'.cell? ⟨wr.heap.size, 1, none⟩ = some (.slice qA qn qc)) (by kernel_rfl) (by kernel_rfl) ?_
      refine T_takeL (i := 0) (v := ?_) rfl (by kernel_rfl) (fun _ _ _ h => h) (Or.inl ⟨by rfl, ?_⟩) HS0.out ?_
      rotate_left
      · ((intro w hSw; (try dsimp only at hSw); go_simp) <;> with_reducible rfl)
      try simp only [Act.put, List.setIfInBounds_toArray, List.set_cons_zero, List.set_cons_succ]
      refine T_takeL (i := 2) (v := ?_) rfl (by kernel_rfl) (fun _ _ _ h => h) (Or.inl ⟨by rfl, ?_⟩) HS0.out ?_
      rotate_left
      · ((intro w hSw; (try dsimp only at hSw); go_simp) <;> with_reducible rfl)
      try simp only [Act.put, List.setIfInBounds_toArray, List.set_cons_zero, List.set_cons_succ]
      refine T_takeL (i := 4) (v := ?_) rfl (by kernel_rfl) (fun _ _ _ h => h) (Or.inl ⟨by rfl, ?_⟩) HS0.out ?_
      rotate_left
      · ((intro w hSw; (try dsimp only at hSw); go_simp) <;> with_reducible rfl)
      try simp only [Act.put, List.setIfInBounds_toArray, List.set_cons_zero, List.set_cons_succ]
      refine T_takeL (i := 1) (v := ?_) rfl (by kernel_rfl) (fun _ _ _ h => h) (Or.inl ⟨by rfl, ?_⟩) HS0.out ?_
      rotate_left
      · ((intro w hSw; (try dsimp only at hSw); go_simp) <;> with_reducible rfl)
      try simp only [Act.put, List.setIfInBounds_toArray, List.set_cons_zero, List.set_cons_succ]
      refine T_takeL (i := 3) (v := ?_) rfl (by kernel_rfl) (fun _ _ _ h => h) (Or.inl ⟨by rfl, ?_⟩) HS0.out ?_
      rotate_left
      · ((intro w hSw; (try dsimp only at hSw); go_simp) <;> with_reducible rfl)
      try simp only [Act.put, List.setIfInBounds_toArray, List.set_cons_zero, List.set_cons_succ]
      refine T_takeL (i := 5) (v := ?_) rfl (by kernel_rfl) (fun _ _ _ h => h) (Or.inl ⟨by rfl, ?_⟩) HS0.out ?_
      rotate_left
      · ((intro w hSw; (try dsimp only at hSw); go_simp) <;> with_reducible rfl)
      try simp only [Act.put, List.setIfInBounds_toArray, List.set_cons_zero, List.set_cons_succ]
      refine T_one (i := 6) rfl (by kernel_rfl) ?_
      go_wp2_with fail
      refine (clone_any qA qn qc qd (wr.alloc (.cells #[.bool qw, .slice qA qn qc] 42)).drew w.heap.size HQ.out.1.drew (by have := HBW.out.size; simp; omega) hqlim).mono ?_
      rintro e w4 ⟨A4, c4, rfl, o4, b4⟩
      have HG4 := Lib.hid (grown_tr (only_drew (only_alloc HG.out (.cells #[.bool qw, .slice qA qn qc] 42))) (only_of_below b4 (some g7)))
      have KG4 := Lib.hid (KG.out.below b4 KG.out.lt)
      have KB4 := Lib.hid (KB.out.below b4 KB.out.lt)
      have HO4 := Lib.hid (own_below (w := (wr.alloc (.cells #[.bool qw, .slice qA qn qc] 42)).drew) (own_keep (HO.out.alloc (.cells #[.bool qw, .slice qA qn qc] 42)) fun _ _ => rfl) b4)
      have HA4 : Hid (∀ q ∈ l', w4.ownsRow w3.heap.size 5 1 (.slice q.A q.n q.c) q.n (cb q.d) ∧ q.n ≤ 140737488351232) := fun q hq => ⟨own_below (w := (wr.alloc (.cells #[.bool qw, .slice qA qn qc] 42)).drew) (own_keep ((HA.out q hq).1.alloc (.cells #[.bool qw, .slice qA qn qc] 42)) fun _ _ => rfl) b4, (HA.out q hq).2⟩
      have hsw4 : wr.heap.size + 1 ≤ w4.heap.size := by have := b4.size; simpa using this
      have HLT : Hid (∀ g, (Value.slice WA2 k Wc2).ownBlock = some g → w3.heap.size ≤ g ∧ g < wr.heap.size) := fun g hg => own_lt HO.out hg
      have O4 := Lib.hid (own_mono (base' := w3.heap.size) o4 (by simp; omega))
      have HS4 := Lib.hid (cells5 KG4.out KB4.out)
      clear o4 b4 HG HK HO HA KG KB HS0 HC HQ
      go_wp2_with fail
      simp only [Qn]
      refine ⟨HS4.out, ?_⟩
      refine T_takeL (i := 7) (v := ?_) rfl (by kernel_rfl) (fun _ _ _ h => h) (Or.inl ⟨by rfl, ?_⟩) HS4.out ?_
      rotate_left
      · ((intro w hSw; (try dsimp only at hSw); go_simp) <;> with_reducible rfl)
      try simp only [Act.put, List.setIfInBounds_toArray, List.set_cons_zero, List.set_cons_succ]
      have KG5 := Lib.hid (KG4.out.alloc (.cells #[.bool qw, .slice A4 qn c4] 42))
      have KB5 := Lib.hid (KB4.out.alloc (.cells #[.bool qw, .slice A4 qn c4] 42))
      have HS5 := Lib.hid (cells5 KG5.out KB5.out)
      refine T_one (i := 8) rfl (by kernel_rfl) ?_
      go_wp2_with fail
      simp only [Qn]
      refine ⟨HS5.out, ?_⟩
      refine T_one (i := 9) rfl (by kernel_rfl) ?_
      refine (app_p rfl (.tmp 38) (.tmp 45) rfl w3.heap.size (.slice WA2 k Wc2) k l' rfl (HO4.out.alloc (.cells #[.bool qw, .slice A4 qn c4] 42)) (w4.heap.size + 1) (some ⟨w4.heap.size, 0, none⟩) 1 ⟨qw, A4, qn, c4, qd⟩ rfl (new_put w4 qw A4 qn c4 qd) (by omega) (by simp; omega) ?_)
      intro v5 w5 o5 g5
      have KG6 := Lib.hid (KG5.out.grown g5.1 (fun e => own_blk_ne (HO4.out.alloc (.cells #[.bool qw, .slice A4 qn c4] 42)) KG5.out (by decide) e.symm))
      have KB6 := Lib.hid (KB5.out.grown g5.1 (fun e => by have := (HLT.out _ e.symm).2; omega))
      have HG6 := Lib.hid (grown_row (only_alloc HG4.out (.cells #[.bool qw, .slice A4 qn c4] 42)) g5.1 (fun g hg => (HLT.out g hg).1))
      have HA6 : Hid (∀ q ∈ l' ++ [⟨qw, A4, qn, c4, qd⟩], w5.ownsRow w3.heap.size 5 1 (.slice q.A q.n q.c) q.n (cb q.d) ∧ q.n ≤ 140737488351232) := by
        intro q hq
        rcases List.mem_append.1 hq with hq | hq
        · exact ⟨own_other ((HA4.out q hq).1.alloc _) (HO4.out.alloc _) (by decide) g5, (HA4.out q hq).2⟩
        · rw [List.mem_singleton] at hq
          subst hq
          exact ⟨own_other (O4.out.alloc _) (HO4.out.alloc _) (by decide) g5, hqlim⟩
      have HS6 := Lib.hid (cells5 KG6.out KB6.out)
      obtain ⟨A5, c5, rfl⟩ := own_shape o5
      have O6 := Lib.hid o5
      have hsw6 := g5.1.size
      clear o5 g5 HG4 KG4 KB4 HO4 HA4 O4 HS4 KG5 KB5 HS5 HLT
      go_wp2_with fail
      simp only [Qn]
      refine ⟨HS6.out, ?_⟩
      refine T_end (by kernel_rfl) ?_
      have y1 := KG6.out.cell 1
      have fz1 := KG6.out.frozen 1
      go_wp2
      go_roundw
      case rel => exact ⟨k + 1, A5, c5, l' ++ [⟨qw, A4, qn, c4, qd⟩], by go_num, by rw [HLP.out]; omega, only_setCell HG6.out (Or.inl rfl) _, KG6.out.set_ 1 _, own_set O6.out KG6.out (by decide) 1 _, by rw [List.map_append, HL'.out, take_map_next HM2.out]; rfl, fun q hq => ⟨own_set (HA6.out q hq).1 KG6.out (by decide) 1 _, (HA6.out q hq).2⟩⟩
      case measure => simp [intOf]; omega
    · obtain rfl : k = Wn + 1 := by omega
      have KRr := Lib.hid (KR3.out.grown HG.out (by intro e; injection e with e; omega))
      have Or := Lib.hid (own_grown O13.out HG.out K73.out (by decide))
      have HLl : Hid (l'.map HP.put = l.map HP.put ++ [⟨sw, pd⟩]) := by
        rw [Hid, HL'.out, List.take_of_length_le (by rw [HLP.out]; exact Nat.le_refl _), HLM.out]
      have OD : Hid (OwnDisk wr w.heap.size ⟨A1, n, c1, d, WA2, Wn + 1, Wc2, l'⟩) := Lib.hid ⟨Or.out, own_mono HO.out B3.out.size, hlim, by show Wn + 1 ≤ _; omega, fun q hq => ⟨own_mono (HA.out q hq).1 B3.out.size, (HA.out q hq).2⟩⟩
      have HDk : Hid ((⟨A1, n, c1, d, WA2, Wn + 1, Wc2, l'⟩ : HD).disk = ⟨d, l.map HP.put ++ [⟨sw, pd⟩]⟩) := by rw [Hid, HD.disk]; simp only [HLl.out]
      have HMb : Hid (Dp.mayD (⟨A1, n, c1, d, WA2, Wn + 1, Wc2, l'⟩ : HD).disk = b) := by rw [Hid, HDk.out]; exact HBB.out
      clear HO HA HL' Or HLl HLM HLP HALL KR3 K73 O3 O13 B3 HG
      have y0 := HK.out.cell 0
      have y1 := HK.out.cell 1
      cases b with
      | true =>
        go_wp2_with fail
        refine (check_any ⟨A1, n, c1, d, WA2, Wn + 1, Wc2, l'⟩ wr true HMb.out OD.out.at_).mono ?_
        rintro e w7 ⟨rfl, hb7⟩
        rw [show eD true = 0 from rfl]
        have HK7 := Lib.hid (HK.out.below hb7 HK.out.lt)
        have KR7 := Lib.hid (KRr.out.below hb7 KRr.out.lt)
        have OD7 := Lib.hid (OD.out.below hb7)
        have B7 := Lib.hid (HBW.out.trans (hb7.mono HBW.out.size))
        clear hb7 HK KRr OD HBW y0 y1
        have y0 := HK7.out.cell 0
        have y1 := HK7.out.cell 1
        have z0 := KR7.out.cell 0
        have z1 := KR7.out.cell 1
        have fz0 := KR7.out.frozen 0
        have fz1 := KR7.out.frozen 1
        go_wp2
        exact bodyPost_ret (v := .tuple #[.agg #[.slice A1 n c1, .slice WA2 (Wn + 1 : Nat) Wc2], .int .i64 0]) (by simp [results, Try.results31, go_sem, z0, z1]) rfl ⟨⟨A1, n, c1, d, WA2, Wn + 1, Wc2, l'⟩, rfl, (OD7.out.set_ KR7.out 0 _).set_ (KR7.out.set_ 0 _) 1 _, HDk.out, (B7.out.setCell (by simp; omega) _).setCell (by simp; omega) _⟩
      | false =>
        go_wp2_with fail
        refine (check_any ⟨A1, n, c1, d, WA2, Wn + 1, Wc2, l'⟩ wr false HMb.out OD.out.at_).mono ?_
        rintro e w7 ⟨rfl, hb7⟩
        rw [show eD false = 30 from rfl]
        have KR7 := Lib.hid (KRr.out.below hb7 KRr.out.lt)
        have B7 := Lib.hid (HBW.out.trans (hb7.mono HBW.out.size))
        clear hb7 HK KRr OD HBW y0 y1
        have z0 := KR7.out.cell 0
        have z1 := KR7.out.cell 1
        have fz0 := KR7.out.frozen 0
        have fz1 := KR7.out.frozen 1
        go_wp2
        exact bodyPost_ret (v := .tuple #[.agg #[.slice none 0 0, .slice none 0 0], .int .i64 9]) (by simp [results, Try.results31, go_sem, z0, z1]) rfl ⟨zeroHD, rfl, zeroHD_own _ _, rfl, (B7.out.setCell (by simp; omega) _).setCell (by simp; omega) _⟩

theorem wait_bad (D : HD) (p : HP) (w : World) (h : DiskAt w w.heap.size D) (hm : Dp.mayD D.disk = false) :
    Calls Try.prog 31 #[.agg #[.slice D.A D.n D.c, .slice D.WA D.Wn D.Wc], .agg #[.bool p.sw, .slice p.A p.n p.c]] w fun e w' => e = .returned (.tuple #[.agg #[.slice none 0 0, .slice none 0 0], .int .i64 30]) ∧ Below w.heap.size w w' := by
  obtain ⟨sw, pA, pn, pc, pd⟩ := p
  simp only
  have hz : w.heap.size + 1 < w.heap.size + 2 := by omega
  have HA := Lib.hid (((h.alloc (.cells #[.slice D.A D.n D.c, .slice D.WA D.Wn D.Wc] 25)).alloc (.cells #[.bool sw, .slice pA pn pc] 42)).alloc (.cells #[.slice none 0 0, .slice none 0 0] 25))
  have HM := Lib.hid hm
  have B0 := Lib.hid ((((Below.refl _ w).alloc (Nat.le_refl w.heap.size) (.cells #[.slice D.A D.n D.c, .slice D.WA D.Wn D.Wc] 25)).alloc (by simp) (.cells #[.bool sw, .slice pA pn pc] 42)).alloc (by simp; omega) (.cells #[.slice none 0 0, .slice none 0 0] 25))
  have KR := Lib.hid (Blk.newAt (w := (w.alloc (.cells #[.slice D.A D.n D.c, .slice D.WA D.Wn D.Wc] 25)).alloc (.cells #[.bool sw, .slice pA pn pc] 42)) (g := w.heap.size + 2) (by simp) 25 #[.slice none 0 0, .slice none 0 0])
  clear h hm
  go_enter Try.func31, Try.ntmps31
  go_wp2_with fail
  refine (check_any D _ false HM.out HA.out).mono ?_
  rintro e w1 ⟨rfl, hb1⟩
  rw [show eD false = 30 from rfl]
  have KR7 := Lib.hid (Blk.below KR.out hb1 KR.out.lt)
  have B7 := Lib.hid (B0.out.trans (hb1.mono B0.out.size))
  clear hb1 KR B0 HA
  have z0 := KR7.out.cell 0
  have z1 := KR7.out.cell 1
  have fz0 := KR7.out.frozen 0
  have fz1 := KR7.out.frozen 1
  go_wp2
  exact bodyPost_ret (v := .tuple #[.agg #[.slice none 0 0, .slice none 0 0], .int .i64 30]) (by simp [results, Try.results31, go_sem, z0, z1]) rfl ⟨rfl, (B7.out.setCell (by simp; omega) _).setCell (by simp; omega) _⟩

/-- A write, and whether: one form. -/
theorem wait_any (D : HD) (p : HP) (w : World) (h : DiskAt w w.heap.size D) (hp' : PutAt w w.heap.size p) :
    Calls Try.prog 31 #[.agg #[.slice D.A D.n D.c, .slice D.WA D.Wn D.Wc], .agg #[.bool p.sw, .slice p.A p.n p.c]] w fun e w' => ∃ D', e = .returned (.tuple #[.agg #[.slice D'.A D'.n D'.c, .slice D'.WA D'.Wn D'.Wc], .int .i64 (Dp.write D.disk p.put).2]) ∧ OwnDisk w' w.heap.size D' ∧ D'.disk = (Dp.write D.disk p.put).1 ∧ Below w.heap.size w w' := by
  cases hm : Dp.mayD D.disk with
  | true =>
    cases hb : Dp.mayD ⟨D.d, D.disk.wait ++ [p.put]⟩ with
    | true =>
      have e : Dp.write D.disk p.put = (⟨D.d, D.disk.wait ++ [p.put]⟩, 0) := by
        rw [Dp.write, if_pos hm]
        exact if_pos hb
      rw [e]
      have := wait_ok D p w true h hp' hm hb
      simpa only [if_pos] using this
    | false =>
      have e : Dp.write D.disk p.put = (Dp.zeroD, 9) := by
        rw [Dp.write, if_pos hm]
        exact if_neg (by rw [show Dp.mayD ⟨D.disk.data, D.disk.wait ++ [p.put]⟩ = false from hb]; simp)
      rw [e]
      have := wait_ok D p w false h hp' hm hb
      simpa using this
  | false =>
    have e : Dp.write D.disk p.put = (Dp.zeroD, 30) := by rw [Dp.write, if_neg (by rw [hm]; simp)]
    rw [e]
    refine (wait_bad D p w h hm).mono ?_
    rintro e w1 ⟨rfl, hb⟩
    exact ⟨zeroHD, rfl, zeroHD_own _ _, rfl, hb⟩

/-! ### Append, Swap -/
theorem append_any (D : HD) (A : Option Addr) (n c : Nat) (d : List UInt8) (w : World) (h : DiskAt w w.heap.size D) (hp' : PutAt w w.heap.size ⟨false, A, n, c, d⟩) :
    Calls Try.prog 23 #[.agg #[.slice D.A D.n D.c, .slice D.WA D.Wn D.Wc], .slice A n c] w fun e w' => ∃ D', e = .returned (.tuple #[.agg #[.slice D'.A D'.n D'.c, .slice D'.WA D'.Wn D'.Wc], .int .i64 (Dp.write D.disk ⟨false, d⟩).2]) ∧ OwnDisk w' w.heap.size D' ∧ D'.disk = (Dp.write D.disk ⟨false, d⟩).1 ∧ Below w.heap.size w w' := by
  have hz : w.heap.size + 1 < w.heap.size + 2 := by omega
  have HA := Lib.hid ((h.alloc (.cells #[.slice D.A D.n D.c, .slice D.WA D.Wn D.Wc] 25)).alloc (.cells #[.slice none 0 0, .slice none 0 0] 25))
  have HPu := Lib.hid ((hp'.alloc (.cells #[.slice D.A D.n D.c, .slice D.WA D.Wn D.Wc] 25)).alloc (.cells #[.slice none 0 0, .slice none 0 0] 25))
  have B0 := Lib.hid (((Below.refl _ w).alloc (Nat.le_refl w.heap.size) (.cells #[.slice D.A D.n D.c, .slice D.WA D.Wn D.Wc] 25)).alloc (by simp) (.cells #[.slice none 0 0, .slice none 0 0] 25))
  have K0 := Lib.hid (Blk.newAt (w := w.alloc (.cells #[.slice D.A D.n D.c, .slice D.WA D.Wn D.Wc] 25)) (g := w.heap.size + 1) (by simp) 25 #[.slice none 0 0, .slice none 0 0])
  obtain ⟨r, hr⟩ : ∃ r, (Dp.write D.disk ⟨false, d⟩).2 = r := ⟨_, rfl⟩
  rw [hr]
  have HR := Lib.hid hr
  clear h hp' hr
  go_enter Try.func23, Try.ntmps23
  go_wp2_with fail
  refine (wait_any D ⟨false, A, n, c, d⟩ _ HA.out HPu.out).mono ?_
  rintro e w1 ⟨D', rfl, hd, he, hb⟩
  rw [show (Dp.write D.disk (HP.put ⟨false, A, n, c, d⟩)).2 = r from HR.out]
  have K1 := Lib.hid (Blk.below K0.out hb K0.out.lt)
  have B1 := Lib.hid (B0.out.trans (hb.mono B0.out.size))
  have OD := Lib.hid (hd.mono (base' := w.heap.size) (by simp; omega))
  have HE := Lib.hid he
  clear hd he hb K0 B0 HA HPu
  have z0 := K1.out.cell 0
  have z1 := K1.out.cell 1
  have fz0 := K1.out.frozen 0
  have fz1 := K1.out.frozen 1
  go_wp2
  exact bodyPost_ret (v := .tuple #[.agg #[.slice D'.A D'.n D'.c, .slice D'.WA D'.Wn D'.Wc], .int .i64 r]) (by simp [results, Try.results23, go_sem, z0, z1]) rfl ⟨D', rfl, (OD.out.set_ K1.out 0 _).set_ (K1.out.set_ 0 _) 1 _, HE.out, (B1.out.setCell (by simp) _).setCell (by simp) _⟩
theorem swap_any (D : HD) (A : Option Addr) (n c : Nat) (d : List UInt8) (w : World) (h : DiskAt w w.heap.size D) (hp' : PutAt w w.heap.size ⟨true, A, n, c, d⟩) :
    Calls Try.prog 17 #[.agg #[.slice D.A D.n D.c, .slice D.WA D.Wn D.Wc], .slice A n c] w fun e w' => ∃ D', e = .returned (.tuple #[.agg #[.slice D'.A D'.n D'.c, .slice D'.WA D'.Wn D'.Wc], .int .i64 (Dp.write D.disk ⟨true, d⟩).2]) ∧ OwnDisk w' w.heap.size D' ∧ D'.disk = (Dp.write D.disk ⟨true, d⟩).1 ∧ Below w.heap.size w w' := by
  have hz : w.heap.size + 1 < w.heap.size + 2 := by omega
  have HA := Lib.hid ((h.alloc (.cells #[.slice D.A D.n D.c, .slice D.WA D.Wn D.Wc] 25)).alloc (.cells #[.slice none 0 0, .slice none 0 0] 25))
  have HPu := Lib.hid ((hp'.alloc (.cells #[.slice D.A D.n D.c, .slice D.WA D.Wn D.Wc] 25)).alloc (.cells #[.slice none 0 0, .slice none 0 0] 25))
  have B0 := Lib.hid (((Below.refl _ w).alloc (Nat.le_refl w.heap.size) (.cells #[.slice D.A D.n D.c, .slice D.WA D.Wn D.Wc] 25)).alloc (by simp) (.cells #[.slice none 0 0, .slice none 0 0] 25))
  have K0 := Lib.hid (Blk.newAt (w := w.alloc (.cells #[.slice D.A D.n D.c, .slice D.WA D.Wn D.Wc] 25)) (g := w.heap.size + 1) (by simp) 25 #[.slice none 0 0, .slice none 0 0])
  obtain ⟨r, hr⟩ : ∃ r, (Dp.write D.disk ⟨true, d⟩).2 = r := ⟨_, rfl⟩
  rw [hr]
  have HR := Lib.hid hr
  clear h hp' hr
  go_enter Try.func17, Try.ntmps17
  go_wp2_with fail
  refine (wait_any D ⟨true, A, n, c, d⟩ _ HA.out HPu.out).mono ?_
  rintro e w1 ⟨D', rfl, hd, he, hb⟩
  rw [show (Dp.write D.disk (HP.put ⟨true, A, n, c, d⟩)).2 = r from HR.out]
  have K1 := Lib.hid (Blk.below K0.out hb K0.out.lt)
  have B1 := Lib.hid (B0.out.trans (hb.mono B0.out.size))
  have OD := Lib.hid (hd.mono (base' := w.heap.size) (by simp; omega))
  have HE := Lib.hid he
  clear hd he hb K0 B0 HA HPu
  have z0 := K1.out.cell 0
  have z1 := K1.out.cell 1
  have fz0 := K1.out.frozen 0
  have fz1 := K1.out.frozen 1
  go_wp2
  exact bodyPost_ret (v := .tuple #[.agg #[.slice D'.A D'.n D'.c, .slice D'.WA D'.Wn D'.Wc], .int .i64 r]) (by simp [results, Try.results17, go_sem, z0, z1]) rfl ⟨D', rfl, (OD.out.set_ K1.out 0 _).set_ (K1.out.set_ 0 _) 1 _, HE.out, (B1.out.setCell (by simp) _).setCell (by simp) _⟩
end Go.Proofs.Ythmbjmknifkbaaa
