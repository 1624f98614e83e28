/-
  The reference of layer 24: Take, Between; mail compared.
-/
import Derived.Test.YtmchnjnknnolmaaNetR
import Derived.Test.YtmchnjnknnolmaaNetD
import Derived.Deep.QuietTactic
import Derived.Deep.RegionLaw
namespace Go.Proofs.Ytmchnjnknnolmaa
open Go.RowKit Bal Go.Sort Go.BigFrame
set_option maxHeartbeats 4000000
set_option maxRecDepth 100000
set_option linter.unusedVariables false
set_option linter.unusedSimpArgs false

theorem step_ms {ops : Array Oper} {o : Oper} {a : Act} {w : World} {K : Act → World → Prop} {Q : Exit → Act → World → Prop} {E : Prop} (hgd : o.guard = none) (sl x : Operand)
    (ho : o.op = .call { callee := .builtin .append, args := #[sl, x], argTypes := #[22, 22] })
    (base : Nat) (v : Value) (n : Nat) (l : List Wp.Mail) (hs : a.eval sl = v) (hown : w.ownsRow base 25 10 v n (cm l))
    (B : Nat) (A : Option Addr) (m c : Nat) (news : List Wp.Mail) (hx : a.eval x = .slice A m c) (hr : Reads w B 10 A m (cm news))
    (hn : n + m ≤ 1000000000) (hbase : base ≤ w.heap.size)
    (h : ∀ v' w', w'.ownsRow base 25 10 v' (n + m) (cm (l ++ news)) → Grew w w' v v' → K (a.put o.dst v') w') :
    if Region.wanted o (yielded ops a.tmps) = true then Oper.wp Try.prog o a w K Q else E := by
  obtain ⟨i0, hi0, hz0, hz1, hz2⟩ := info_parts mail_info
  refine step_append_any w hgd sl x 22 ho base 25 i0 _ 10 88 Try.underlying22 hi0 hz0 hz1 hz2 rfl (by decide) v n (cm l) hs hown B A m c (cm news) hx hr (cm_one _) (by simp only [maxLen]; omega) (by omega) hbase ?_
  intro v' w' h1 h2 h3
  refine h v' w' (by rw [cm_append]; exact h1) ⟨h2, ?_⟩
  rcases h3 with h3 | h3
  · exact Or.inl h3
  · exact Or.inr ⟨_, h3, Nat.le_refl _⟩
theorem rtake_bad (A : Option Addr) (n c : Nat) (l : List Wp.Mail) (w : World) (hr : Reads w w.heap.size 10 A n (cm l)) (hc : n ≤ c) (hl : ∀ m ∈ l, IsMailM m) (hn : n ≤ 100000) (k : Int) (hok : okMails l = false) :
    Calls Try.prog 39 #[.slice A n c, .int .i64 k] w fun e w' => e = .returned (.tuple #[.slice none 0 0, .agg #[.int .i64 0, .int .i64 0, .int .u8 0, .int .i64 0, .int .i64 0, .int .i64 0, .int .i64 0, .string ⟨#[]⟩, .int .i64 0, .int .i64 0], .int .i64 8]) ∧ Below w.heap.size w w' := by
  have hz : w.heap.size < w.heap.size + 1 := by omega
  have H := Lib.hid (rMay_any A n c l (w.alloc (.cells #[.int .i64 0, .int .i64 0, .int .u8 0, .int .i64 0, .int .i64 0, .int .i64 0, .int .i64 0, .string ⟨#[]⟩, .int .i64 0, .int .i64 0] 25)) false hok ((hr.alloc (Nat.le_refl _) _).more (by simp)) hl (by omega))
  clear hr hl hok
  go_enter Try.func39, Try.ntmps39
  go_wp2_with fail
  refine H.out.mono ?_
  rintro e w1 ⟨rfl, hb⟩
  have K1 := Lib.hid (Blk.below (Blk.new w 25 #[.int .i64 0, .int .i64 0, .int .u8 0, .int .i64 0, .int .i64 0, .int .i64 0, .int .i64 0, .string ⟨#[]⟩, .int .i64 0, .int .i64 0]) hb (by simp))
  have B1 := Lib.hid (below_of_alloc (hb.mono (B' := w.heap.size) (by simp)) (Nat.le_refl _))
  clear hb H
  have z0 : w1.cell? ⟨w.heap.size, 0, none⟩ = some (.int .i64 0) := K1.out.cell 0
  have fz0 := K1.out.frozen 0
  have z1 : w1.cell? ⟨w.heap.size, 1, none⟩ = some (.int .i64 0) := K1.out.cell 1
  have fz1 := K1.out.frozen 1
  have z2 : w1.cell? ⟨w.heap.size, 2, none⟩ = some (.int .u8 0) := K1.out.cell 2
  have fz2 := K1.out.frozen 2
  have z3 : w1.cell? ⟨w.heap.size, 3, none⟩ = some (.int .i64 0) := K1.out.cell 3
  have fz3 := K1.out.frozen 3
  have z4 : w1.cell? ⟨w.heap.size, 4, none⟩ = some (.int .i64 0) := K1.out.cell 4
  have fz4 := K1.out.frozen 4
  have z5 : w1.cell? ⟨w.heap.size, 5, none⟩ = some (.int .i64 0) := K1.out.cell 5
  have fz5 := K1.out.frozen 5
  have z6 : w1.cell? ⟨w.heap.size, 6, none⟩ = some (.int .i64 0) := K1.out.cell 6
  have fz6 := K1.out.frozen 6
  have z7 : w1.cell? ⟨w.heap.size, 7, none⟩ = some (.string ⟨#[]⟩) := K1.out.cell 7
  have fz7 := K1.out.frozen 7
  have z8 : w1.cell? ⟨w.heap.size, 8, none⟩ = some (.int .i64 0) := K1.out.cell 8
  have fz8 := K1.out.frozen 8
  have z9 : w1.cell? ⟨w.heap.size, 9, none⟩ = some (.int .i64 0) := K1.out.cell 9
  have fz9 := K1.out.frozen 9
  go_wp2
  exact bodyPost_ret (v := .tuple #[.slice none 0 0, .agg #[.int .i64 0, .int .i64 0, .int .u8 0, .int .i64 0, .int .i64 0, .int .i64 0, .int .i64 0, .string ⟨#[]⟩, .int .i64 0, .int .i64 0], .int .i64 8]) (by simp [results, Try.results39, go_sem, z0, z1, z2, z3, z4, z5, z6, z7, z8, z9]) rfl ⟨rfl, by repeat (first | with_reducible exact B1.out | with_reducible refine set_z ?_ _ _)⟩
theorem rtake_arg (A : Option Addr) (n c : Nat) (l : List Wp.Mail) (w : World) (hr : Reads w w.heap.size 10 A n (cm l)) (hc : n ≤ c) (hl : ∀ m ∈ l, IsMailM m) (hn : n ≤ 100000) (k : Int) (hk : k < 0 ∨ (n : Int) ≤ k) (hok : okMails l = true) :
    Calls Try.prog 39 #[.slice A n c, .int .i64 k] w fun e w' => e = .returned (.tuple #[.slice none 0 0, .agg #[.int .i64 0, .int .i64 0, .int .u8 0, .int .i64 0, .int .i64 0, .int .i64 0, .int .i64 0, .string ⟨#[]⟩, .int .i64 0, .int .i64 0], .int .i64 2]) ∧ Below w.heap.size w w' := by
  have hz : w.heap.size < w.heap.size + 1 := by omega
  have H := Lib.hid (rMay_any A n c l (w.alloc (.cells #[.int .i64 0, .int .i64 0, .int .u8 0, .int .i64 0, .int .i64 0, .int .i64 0, .int .i64 0, .string ⟨#[]⟩, .int .i64 0, .int .i64 0] 25)) true hok ((hr.alloc (Nat.le_refl _) _).more (by simp)) hl (by omega))
  clear hr hl hok
  by_cases k0 : k < 0
  all_goals (try have k1 : (n : Int) ≤ k := by omega)
  all_goals clear hk
  all_goals (
    go_enter Try.func39, Try.ntmps39
    go_wp2_with fail
    refine H.out.mono ?_
    rintro e w1 ⟨rfl, hb⟩
    have K1 := Lib.hid (Blk.below (Blk.new w 25 #[.int .i64 0, .int .i64 0, .int .u8 0, .int .i64 0, .int .i64 0, .int .i64 0, .int .i64 0, .string ⟨#[]⟩, .int .i64 0, .int .i64 0]) hb (by simp))
    have B1 := Lib.hid (below_of_alloc (hb.mono (B' := w.heap.size) (by simp)) (Nat.le_refl _))
    clear hb H
    have z0 : w1.cell? ⟨w.heap.size, 0, none⟩ = some (.int .i64 0) := K1.out.cell 0
    have fz0 := K1.out.frozen 0
    have z1 : w1.cell? ⟨w.heap.size, 1, none⟩ = some (.int .i64 0) := K1.out.cell 1
    have fz1 := K1.out.frozen 1
    have z2 : w1.cell? ⟨w.heap.size, 2, none⟩ = some (.int .u8 0) := K1.out.cell 2
    have fz2 := K1.out.frozen 2
    have z3 : w1.cell? ⟨w.heap.size, 3, none⟩ = some (.int .i64 0) := K1.out.cell 3
    have fz3 := K1.out.frozen 3
    have z4 : w1.cell? ⟨w.heap.size, 4, none⟩ = some (.int .i64 0) := K1.out.cell 4
    have fz4 := K1.out.frozen 4
    have z5 : w1.cell? ⟨w.heap.size, 5, none⟩ = some (.int .i64 0) := K1.out.cell 5
    have fz5 := K1.out.frozen 5
    have z6 : w1.cell? ⟨w.heap.size, 6, none⟩ = some (.int .i64 0) := K1.out.cell 6
    have fz6 := K1.out.frozen 6
    have z7 : w1.cell? ⟨w.heap.size, 7, none⟩ = some (.string ⟨#[]⟩) := K1.out.cell 7
    have fz7 := K1.out.frozen 7
    have z8 : w1.cell? ⟨w.heap.size, 8, none⟩ = some (.int .i64 0) := K1.out.cell 8
    have fz8 := K1.out.frozen 8
    have z9 : w1.cell? ⟨w.heap.size, 9, none⟩ = some (.int .i64 0) := K1.out.cell 9
    have fz9 := K1.out.frozen 9
    go_wp2
    exact bodyPost_ret (v := .tuple #[.slice none 0 0, .agg #[.int .i64 0, .int .i64 0, .int .u8 0, .int .i64 0, .int .i64 0, .int .i64 0, .int .i64 0, .string ⟨#[]⟩, .int .i64 0, .int .i64 0], .int .i64 2]) (by simp [results, Try.results39, go_sem, z0, z1, z2, z3, z4, z5, z6, z7, z8, z9]) rfl ⟨rfl, by repeat (first | with_reducible exact B1.out | with_reducible refine set_z ?_ _ _)⟩)
theorem rtake_ok (A : Option Addr) (n c : Nat) (l : List Wp.Mail) (w : World) (hr : Reads w w.heap.size 10 A n (cm l)) (hc : n ≤ c) (hl : ∀ m ∈ l, IsMailM m) (hn : n ≤ 100000) (k : Nat) (m : Wp.Mail) (hk : l[k]? = some m) (hok : okMails l = true) :
    Calls Try.prog 39 #[.slice A n c, .int .i64 (k : Int)] w fun e w' => ∃ A3 c3, e = .returned (.tuple #[.slice A3 (n - 1) c3, .agg (mA m), .int .i64 0]) ∧ w'.ownsRow w.heap.size 25 10 (.slice A3 (n - 1) c3) (n - 1) (cm (l.take k ++ l.drop (k + 1))) ∧ Below w.heap.size w w' := by
  have hz : w.heap.size < w.heap.size + 1 := by omega
  have H := Lib.hid (rMay_any A n c l (w.alloc (.cells #[.int .i64 0, .int .i64 0, .int .u8 0, .int .i64 0, .int .i64 0, .int .i64 0, .int .i64 0, .string ⟨#[]⟩, .int .i64 0, .int .i64 0] 25)) true hok ((hr.alloc (Nat.le_refl _) _).more (by simp)) hl (by omega))
  have hlt : k < n := by rw [← hr.len_m]; exact (List.getElem?_eq_some_iff.1 hk).1
  have hn1 : n ≤ 4096 := by have h1 := hr.len_m; have h2 := hok; rw [okMails, Bool.and_eq_true] at h2; have h3 := of_decide_eq_true h2.1; omega
  obtain ⟨U, hU⟩ : ∃ U, S m.v = U := ⟨_, rfl⟩
  have eA : mA m = #[.int .i64 m.f, .int .i64 m.t, .int .u8 m.k, .int .i64 m.g, .int .i64 m.s, .int .i64 m.b, .int .i64 m.p, .string U, .int .i64 m.i, .int .i64 m.tm] := by rw [← hU]; rfl
  obtain ⟨g, off, m', rfl, hg, hm', -⟩ := hr.mail hlt
  obtain rfl : m = m' := by rw [hk] at hm'; injection hm'
  rw [eA]
  have EA := Lib.hid eA
  have HR := Lib.hid hr
  have HK := Lib.hid hk
  have HSV := Lib.hid hU
  have hs1 := fun W => run_sliceN_to (P := Try.prog) Try.underlying22 10 (some ⟨g, off, none⟩) n c k (by omega) W mail_size
  have hs2 := fun W => run_sliceN_from (P := Try.prog) Try.underlying22 10 (some ⟨g, off, none⟩) n c (k + 1) (by omega) W mail_size
  rw [show ((k + 1 : Nat) : Int) = (k : Int) + 1 from rfl] at hs2
  have q1 := hr.firstN (k := k) (by omega)
  have q2 := hr.restN (k := k + 1) (c := c) (by omega) hc
  rw [cm_take] at q1
  rw [cm_drop] at q2
  obtain ⟨A2, hA2⟩ : ∃ x, cutN 10 (some ⟨g, off, none⟩) c (k + 1) = x := ⟨_, rfl⟩
  obtain ⟨n2, hn2⟩ : ∃ x, n - (k + 1) = x := ⟨_, rfl⟩
  obtain ⟨c2, hc2⟩ : ∃ x, c - (k + 1) = x := ⟨_, rfl⟩
  rw [hA2, hn2, hc2] at hs2
  rw [hA2, hn2] at q2
  have hsum : k + n2 = n - 1 := by omega
  have hn2b : n2 ≤ n := by omega
  have HSUM := Lib.hid hsum
  have Q1 := Lib.hid q1
  have Q2 := Lib.hid q2
  have hwr : IntKind.i64.wrap ((k : Int) + 1) = (k : Int) + 1 := by rw [IntKind.wrap_i64]; omega
  clear eA hU hr hl hok hk hm' q1 q2 hA2 hn2 hc2 hsum
  go_enter Try.func39, Try.ntmps39
  go_wp2_with fail
  refine H.out.mono ?_
  rintro e w1 ⟨rfl, hb⟩
  have K1 := Lib.hid (Blk.below (Blk.new w 25 #[.int .i64 0, .int .i64 0, .int .u8 0, .int .i64 0, .int .i64 0, .int .i64 0, .int .i64 0, .string ⟨#[]⟩, .int .i64 0, .int .i64 0]) hb (by simp))
  have B1 := Lib.hid (below_of_alloc (hb.mono (B' := w.heap.size) (by simp)) (Nat.le_refl _))
  have hgr : w.heap.size + 1 ≤ w1.heap.size := by have := hb.size; simpa using this
  clear hb H
  go_wp2_with (at_builtin; refine app_ms rfl (.tmp 21) (.tmp 24) rfl (w.heap.size + 1) (.slice none 0 0) 0 [] rfl (World.ownsRow_nil _ _ _ _) w.heap.size (some ⟨g, off, none⟩) k c (l.take k) rfl (Q1.out.below B1.out) ?c1 ?c2 ?_)
  case c1 => omega
  case c2 => exact hgr
  intro v3 w3 o3 g3
  have O3 : Hid (w3.ownsRow (w.heap.size + 1) 25 10 v3 k (cm (l.take k))) := by simpa [Hid] using o3
  have BG := Lib.hid (g3.below hgr (by intro k hk; cases hk))
  have B3 := Lib.hid (B1.out.trans (BG.out.mono (Nat.le_succ _)))
  have K3 := Lib.hid (K1.out.below BG.out (Nat.lt_succ_self _))
  have HC : Hid (w3.rangeAt g (off + k * 10) (mcells m)) := by
    obtain ⟨g2, off2, m2, e, -, hm2, hc2⟩ := (HR.out.below B3.out).mail hlt
    injection e with e
    injection e with e1 e2
    subst e1 e2
    rw [HK.out] at hm2
    injection hm2 with hm2
    subst hm2
    exact hc2
  have O3base : w.heap.size + 1 ≤ w3.heap.size := Nat.le_trans hgr BG.out.size
  clear o3 g3 BG
  go_upto_region 7 with fail
  have x0 : w3.cell? ⟨g, off + k * 10, none⟩ = some (.int .i64 m.f) := by have h := HC.out 0 _ rfl; exact h
  have x1 : w3.cell? ⟨g, off + k * 10 + 1, none⟩ = some (.int .i64 m.t) := by have h := HC.out 1 _ rfl; exact h
  have x2 : w3.cell? ⟨g, off + k * 10 + 2, none⟩ = some (.int .u8 m.k) := by have h := HC.out 2 _ rfl; exact h
  have x3 : w3.cell? ⟨g, off + k * 10 + 3, none⟩ = some (.int .i64 m.g) := by have h := HC.out 3 _ rfl; exact h
  have x4 : w3.cell? ⟨g, off + k * 10 + 4, none⟩ = some (.int .i64 m.s) := by have h := HC.out 4 _ rfl; exact h
  have x5 : w3.cell? ⟨g, off + k * 10 + 5, none⟩ = some (.int .i64 m.b) := by have h := HC.out 5 _ rfl; exact h
  have x6 : w3.cell? ⟨g, off + k * 10 + 6, none⟩ = some (.int .i64 m.p) := by have h := HC.out 6 _ rfl; exact h
  have x7 : w3.cell? ⟨g, off + k * 10 + 7, none⟩ = some (.string U) := by have h := HC.out 7 _ rfl; rw [show S m.v = U from HSV.out] at h; exact h
  have x8 : w3.cell? ⟨g, off + k * 10 + 8, none⟩ = some (.int .i64 m.i) := by have h := HC.out 8 _ rfl; exact h
  have x9 : w3.cell? ⟨g, off + k * 10 + 9, none⟩ = some (.int .i64 m.tm) := by have h := HC.out 9 _ rfl; exact h
  have z0 : w3.cell? ⟨w.heap.size, 0, none⟩ = some (.int .i64 0) := K3.out.cell 0
  have fz0 := K3.out.frozen 0
  have z1 : w3.cell? ⟨w.heap.size, 1, none⟩ = some (.int .i64 0) := K3.out.cell 1
  have fz1 := K3.out.frozen 1
  have z2 : w3.cell? ⟨w.heap.size, 2, none⟩ = some (.int .u8 0) := K3.out.cell 2
  have fz2 := K3.out.frozen 2
  have z3 : w3.cell? ⟨w.heap.size, 3, none⟩ = some (.int .i64 0) := K3.out.cell 3
  have fz3 := K3.out.frozen 3
  have z4 : w3.cell? ⟨w.heap.size, 4, none⟩ = some (.int .i64 0) := K3.out.cell 4
  have fz4 := K3.out.frozen 4
  have z5 : w3.cell? ⟨w.heap.size, 5, none⟩ = some (.int .i64 0) := K3.out.cell 5
  have fz5 := K3.out.frozen 5
  have z6 : w3.cell? ⟨w.heap.size, 6, none⟩ = some (.int .i64 0) := K3.out.cell 6
  have fz6 := K3.out.frozen 6
  have z7 : w3.cell? ⟨w.heap.size, 7, none⟩ = some (.string ⟨#[]⟩) := K3.out.cell 7
  have fz7 := K3.out.frozen 7
  have z8 : w3.cell? ⟨w.heap.size, 8, none⟩ = some (.int .i64 0) := K3.out.cell 8
  have fz8 := K3.out.frozen 8
  have z9 : w3.cell? ⟨w.heap.size, 9, none⟩ = some (.int .i64 0) := K3.out.cell 9
  have fz9 := K3.out.frozen 9
  go_region_law (refine step_ms rfl (.tmp 26) (.tmp 30) rfl (w.heap.size + 1) v3 k (l.take k) (by simp [Act.eval, Act.put]) (by exact O3.out) w.heap.size A2 n2 c2 (l.drop (k + 1)) (by simp [Act.eval, Act.put]) (by exact (Q2.out.below B3.out).drew) (by omega) (by simpa using O3base) ?_; intro v4 w4 o4 g4; have BG2 := g4.belowOwn (base := w.heap.size + 1) (by exact O3.out) (by simpa using O3base); have xx0 := (BG2.cell (p := ⟨g, off + k * 10, none⟩) (by show g < _; omega)).trans x0; have xx1 := (BG2.cell (p := ⟨g, off + k * 10 + 1, none⟩) (by show g < _; omega)).trans x1; have xx2 := (BG2.cell (p := ⟨g, off + k * 10 + 2, none⟩) (by show g < _; omega)).trans x2; have xx3 := (BG2.cell (p := ⟨g, off + k * 10 + 3, none⟩) (by show g < _; omega)).trans x3; have xx4 := (BG2.cell (p := ⟨g, off + k * 10 + 4, none⟩) (by show g < _; omega)).trans x4; have xx5 := (BG2.cell (p := ⟨g, off + k * 10 + 5, none⟩) (by show g < _; omega)).trans x5; have xx6 := (BG2.cell (p := ⟨g, off + k * 10 + 6, none⟩) (by show g < _; omega)).trans x6; have xx7 := (BG2.cell (p := ⟨g, off + k * 10 + 7, none⟩) (by show g < _; omega)).trans x7; have xx8 := (BG2.cell (p := ⟨g, off + k * 10 + 8, none⟩) (by show g < _; omega)).trans x8; have xx9 := (BG2.cell (p := ⟨g, off + k * 10 + 9, none⟩) (by show g < _; omega)).trans x9; have zz0 := (BG2.cell (p := ⟨w.heap.size, 0, none⟩) hz).trans z0; have ff0 := (BG2.frozen (p := ⟨w.heap.size, 0, none⟩) hz).trans fz0; have zz1 := (BG2.cell (p := ⟨w.heap.size, 1, none⟩) hz).trans z1; have ff1 := (BG2.frozen (p := ⟨w.heap.size, 1, none⟩) hz).trans fz1; have zz2 := (BG2.cell (p := ⟨w.heap.size, 2, none⟩) hz).trans z2; have ff2 := (BG2.frozen (p := ⟨w.heap.size, 2, none⟩) hz).trans fz2; have zz3 := (BG2.cell (p := ⟨w.heap.size, 3, none⟩) hz).trans z3; have ff3 := (BG2.frozen (p := ⟨w.heap.size, 3, none⟩) hz).trans fz3; have zz4 := (BG2.cell (p := ⟨w.heap.size, 4, none⟩) hz).trans z4; have ff4 := (BG2.frozen (p := ⟨w.heap.size, 4, none⟩) hz).trans fz4; have zz5 := (BG2.cell (p := ⟨w.heap.size, 5, none⟩) hz).trans z5; have ff5 := (BG2.frozen (p := ⟨w.heap.size, 5, none⟩) hz).trans fz5; have zz6 := (BG2.cell (p := ⟨w.heap.size, 6, none⟩) hz).trans z6; have ff6 := (BG2.frozen (p := ⟨w.heap.size, 6, none⟩) hz).trans fz6; have zz7 := (BG2.cell (p := ⟨w.heap.size, 7, none⟩) hz).trans z7; have ff7 := (BG2.frozen (p := ⟨w.heap.size, 7, none⟩) hz).trans fz7; have zz8 := (BG2.cell (p := ⟨w.heap.size, 8, none⟩) hz).trans z8; have ff8 := (BG2.frozen (p := ⟨w.heap.size, 8, none⟩) hz).trans fz8; have zz9 := (BG2.cell (p := ⟨w.heap.size, 9, none⟩) hz).trans z9; have ff9 := (BG2.frozen (p := ⟨w.heap.size, 9, none⟩) hz).trans fz9)
  all_goals
    have HO := Lib.hid (show w4.ownsRow (w.heap.size + 1) 25 10 v4 (n - 1) (cm (l.take k ++ l.drop (k + 1))) from by rw [← HSUM.out]; exact o4)
    have B4 := Lib.hid (B3.out.drew.trans (g4.belowOwn (base := w.heap.size) (own_mono (base := w.heap.size + 1) (by exact O3.out) (Nat.le_succ _)) (by have := O3base; simp; omega)))
    obtain ⟨A5, c5, rfl, -, -, -⟩ := own_formN HO.out
    clear o4 g4 BG2 x0 xx0 z0 fz0 x1 xx1 z1 fz1 x2 xx2 z2 fz2 x3 xx3 z3 fz3 x4 xx4 z4 fz4 x5 xx5 z5 fz5 x6 xx6 z6 fz6 x7 xx7 z7 fz7 x8 xx8 z8 fz8 x9 xx9 z9 fz9
    go_wp2
    exact bodyPost_ret (v := .tuple #[.slice A5 (n - 1) c5, .agg #[.int .i64 m.f, .int .i64 m.t, .int .u8 m.k, .int .i64 m.g, .int .i64 m.s, .int .i64 m.b, .int .i64 m.p, .string U, .int .i64 m.i, .int .i64 m.tm], .int .i64 0]) (by simp [results, Try.results39, go_sem, zz0, ff0, zz1, ff1, zz2, ff2, zz3, ff3, zz4, ff4, zz5, ff5, zz6, ff6, zz7, ff7, zz8, ff8, zz9, ff9]) rfl ⟨_, _, rfl, own_mono (base := w.heap.size + 1) (by repeat (first | with_reducible exact HO.out | with_reducible refine own_far ?_ hz _ _)) (Nat.le_succ _), by repeat (first | with_reducible exact B4.out | with_reducible refine set_z ?_ _ _)⟩
end Go.Proofs.Ytmchnjnknnolmaa
