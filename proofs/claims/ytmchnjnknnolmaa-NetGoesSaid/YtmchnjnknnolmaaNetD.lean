/-
  Layer 24: net.Send, Copy, Take, Drop.
-/
import Derived.Test.YtmchnjnknnolmaaNetC
import Derived.Deep.RegionWith
import Derived.Deep.RegionHeld3
namespace Go.Proofs.Ytmchnjnknnolmaa
open Go.RowKit Bal
set_option maxHeartbeats 4000000
set_option maxRecDepth 100000
set_option linter.unusedVariables false
set_option linter.unusedSimpArgs false

theorem set_z {w W : World} (h : Below w.heap.size w W) (i : Nat) (u : Value) : Below w.heap.size w (W.setCell ⟨w.heap.size, i, none⟩ u) := h.setCell (Nat.le_refl _) u
theorem alloc_b {w W : World} (h : Below w.heap.size w W) (o : Obj) : Below w.heap.size w (W.alloc o) := h.alloc h.size o
theorem own_far {w : World} {base size n g : Nat} {e : TypeId} {v : Value} {xs : List Value} (h : w.ownsRow base e size v n xs) (hg : g < base) (i : Nat) (u : Value) : (w.setCell ⟨g, i, none⟩ u).ownsRow base e size v n xs := by
  refine ⟨h.1, ?_⟩
  rcases h.2 with h2 | ⟨g', cap, cur, h2, h3, h4, h5⟩
  · exact Or.inl h2
  · exact Or.inr ⟨g', cap, cur, h2, h3, (Below.heap_setCell w ⟨g, i, none⟩ u g' (by show g' ≠ g; omega)).trans h4, h5⟩
theorem two_reads {w : World} {A A2 : Option Addr} {n n2 : Nat} {l l2 : List Wp.Mail} (hr : Reads w w.heap.size 10 A n (cm l)) (o : Obj) : Reads (w.alloc o) (w.alloc o).heap.size 10 A n (cm l) := (hr.alloc (Nat.le_refl _) o).more (by simp)
theorem nwithout_any (A : Option Addr) (n c at' : Nat) (l : List Wp.Mail) (w : World) (hr : Reads w w.heap.size 10 A n (cm l)) (hc : n ≤ c) (hat : at' < n) (hn : n ≤ 100000) :
    Calls Try.prog 69 #[.slice A n c, .int .i64 (at' : Int)] w fun e w' => ∃ A3 c3, e = .returned (.slice A3 (n - 1) c3) ∧ w'.ownsRow w.heap.size 25 10 (.slice A3 (n - 1) c3) (n - 1) (cm (l.take at' ++ l.drop (at' + 1))) ∧ Below w.heap.size w w' := by
  have hs1 := fun W => run_sliceN_to (P := Try.prog) Try.underlying22 10 A n c at' (by omega) W mail_size
  have hs2 := fun W => run_sliceN_from (P := Try.prog) Try.underlying22 10 A n c (at' + 1) (by omega) W mail_size
  rw [show ((at' + 1 : Nat) : Int) = (at' : Int) + 1 from rfl] at hs2
  have q1 := hr.firstN (k := at') (by omega)
  have q2 := hr.restN (k := at' + 1) (c := c) (by omega) hc
  rw [cm_take] at q1
  rw [cm_drop] at q2
  obtain ⟨A2, hA2⟩ : ∃ x, cutN 10 A c (at' + 1) = x := ⟨_, rfl⟩
  obtain ⟨n2, hn2⟩ : ∃ x, n - (at' + 1) = x := ⟨_, rfl⟩
  obtain ⟨c2, hc2⟩ : ∃ x, c - (at' + 1) = x := ⟨_, rfl⟩
  rw [hA2, hn2, hc2] at hs2
  rw [hA2, hn2] at q2
  have hsum : at' + n2 = n - 1 := by omega
  have HC := nconcat_any w.heap.size A A2 at' c n2 c2 (l.take at') (l.drop (at' + 1)) (w.alloc (.cells #[.slice A at' c, .slice A2 n2 c2] 22)).drew ((Blk.new w 22 #[.slice A at' c, .slice A2 n2 c2]).drew.cell 0) ((Blk.new w 22 #[.slice A at' c, .slice A2 n2 c2]).drew.cell 1)
    ((q1.alloc (Nat.le_refl _) _).more (by simp)).drew ((q2.alloc (Nat.le_refl _) _).more (by simp)).drew (by omega)
  rw [hsum] at HC
  have H := Lib.hid HC
  have B0 := Lib.hid ((Below.refl _ w).alloc (Nat.le_refl w.heap.size) (.cells #[.slice A at' c, .slice A2 n2 c2] 22)).drew
  have hwr : IntKind.i64.wrap ((at' : Int) + 1) = (at' : Int) + 1 := by rw [IntKind.wrap_i64]; omega
  clear q1 q2 hA2 hn2 hc2 hsum HC hr
  go_enter Try.func69, Try.ntmps69
  go_wp2_with fail
  go_region_with (go_at_call 68; refine H.out.mono ?_; rintro e w1 ⟨A3, c3, rfl, ho, hb⟩)
  have HO := Lib.hid (own_mono (base' := w.heap.size) ho B0.out.size)
  have HB := Lib.hid (B0.out.trans (hb.mono B0.out.size))
  clear ho hb
  go_wp2
  go_ret
  exact ⟨_, _, rfl, HO.out, HB.out⟩

theorem nsend_bad (A A2 : Option Addr) (n c n2 c2 : Nat) (l l2 : List Wp.Mail) (w : World) (hr : Reads w w.heap.size 10 A n (cm l)) (hr2 : Reads w w.heap.size 10 A2 n2 (cm l2)) (hl : ∀ m ∈ l, IsMailM m) (hl2 : ∀ m ∈ l2, IsMailM m) (hn : n ≤ 1000000) (hn2 : n2 ≤ 1000000) (h : okMails l = false ∨ l2.any badB = true) :
    Calls Try.prog 20 #[.slice A n c, .slice A2 n2 c2] w fun e w' => e = .returned (.tuple #[.slice none 0 0, .int .i64 8]) ∧ Below w.heap.size w w' := by
  cases hok : okMails l with
  | false =>
    have H1 := Lib.hid (ncheck_any A n c l w false hok hr hl (by omega))
    clear h hr hr2 hl hl2 hok
    go_enter Try.func20, Try.ntmps20
    go_wp2_with fail
    refine H1.out.mono ?_
    rintro e w1 ⟨rfl, hb⟩
    have B1 := Lib.hid hb
    clear hb
    go_wp2
    go_ret2
    exact ⟨rfl, B1.out⟩
  | true =>
    have h2 : l2.any badB = true := h.resolve_left (by rw [hok]; decide)
    have H1 := Lib.hid (ncheck_any A n c l w true hok hr hl (by omega))
    have H2 := Lib.hid (fun w1 hr => ncontains_any A2 n2 c2 l2 w1 true h2 hr hl2 (by omega))
    have HR2 := Lib.hid hr2
    clear h hr hr2 hl hl2 hok h2
    go_enter Try.func20, Try.ntmps20
    go_wp2_with fail
    refine H1.out.mono ?_
    rintro e w1 ⟨rfl, hb⟩
    have B1 := Lib.hid hb
    clear hb
    go_wp2_with fail
    refine (H2.out w1 ((HR2.out.below B1.out).more B1.out.size)).mono ?_
    rintro e w2 ⟨rfl, hb⟩
    have B2 := Lib.hid (then_ B1.out hb)
    clear hb
    go_wp2
    go_ret2
    exact ⟨rfl, B2.out⟩
theorem nsend_full (A A2 : Option Addr) (n c n2 c2 : Nat) (l l2 : List Wp.Mail) (w : World) (hr : Reads w w.heap.size 10 A n (cm l)) (hr2 : Reads w w.heap.size 10 A2 n2 (cm l2)) (hl : ∀ m ∈ l, IsMailM m) (hl2 : ∀ m ∈ l2, IsMailM m) (hn : n ≤ 1000000) (hn2 : n2 ≤ 1000000) (hok : okMails l = true) (h2 : l2.any badB = false) (hf : 4096 < n + n2) :
    Calls Try.prog 20 #[.slice A n c, .slice A2 n2 c2] w fun e w' => e = .returned (.tuple #[.slice none 0 0, .int .i64 9]) ∧ Below w.heap.size w w' := by
  have H1 := Lib.hid (ncheck_any A n c l w true hok hr hl (by omega))
  have H2 := Lib.hid (fun w1 hr => ncontains_any A2 n2 c2 l2 w1 false h2 hr hl2 (by omega))
  have HR2 := Lib.hid hr2
  have hff : (4096 : Int) < (n : Int) + (n2 : Int) := by omega
  clear hr hr2 hl hl2 hok h2 hf
  go_enter Try.func20, Try.ntmps20
  go_wp2_with fail
  refine H1.out.mono ?_
  rintro e w1 ⟨rfl, hb⟩
  have B1 := Lib.hid hb
  clear hb
  go_wp2_with fail
  refine (H2.out w1 ((HR2.out.below B1.out).more B1.out.size)).mono ?_
  rintro e w2 ⟨rfl, hb⟩
  have B2 := Lib.hid (then_ B1.out hb)
  clear hb
  go_wp2
  go_ret2
  exact ⟨rfl, B2.out⟩
theorem nsend_ok (A A2 : Option Addr) (n c n2 c2 : Nat) (l l2 : List Wp.Mail) (w : World) (hr : Reads w w.heap.size 10 A n (cm l)) (hr2 : Reads w w.heap.size 10 A2 n2 (cm l2)) (hl : ∀ m ∈ l, IsMailM m) (hl2 : ∀ m ∈ l2, IsMailM m) (hn : n ≤ 1000000) (hn2 : n2 ≤ 1000000) (hok : okMails l = true) (h2 : l2.any badB = false) (hf : n + n2 ≤ 4096) :
    Calls Try.prog 20 #[.slice A n c, .slice A2 n2 c2] w fun e w' => ∃ A3 c3, e = .returned (.tuple #[.slice A3 (n + n2) c3, .int .i64 0]) ∧ w'.ownsRow w.heap.size 25 10 (.slice A3 (n + n2) c3) (n + n2) (cm (l ++ l2)) ∧ Below w.heap.size w w' := by
  have H1 := Lib.hid (ncheck_any A n c l w true hok hr hl (by omega))
  have H2 := Lib.hid (fun w1 hr => ncontains_any A2 n2 c2 l2 w1 false h2 hr hl2 (by omega))
  have HR1 := Lib.hid hr
  have HR2 := Lib.hid hr2
  have hff : ¬ (4096 : Int) < (n : Int) + (n2 : Int) := by omega
  clear hr hr2 hl hl2 hok h2
  go_enter Try.func20, Try.ntmps20
  go_wp2_with fail
  refine H1.out.mono ?_
  rintro e w1 ⟨rfl, hb⟩
  have B1 := Lib.hid hb
  clear hb
  go_wp2_with fail
  refine (H2.out w1 ((HR2.out.below B1.out).more B1.out.size)).mono ?_
  rintro e w2 ⟨rfl, hb⟩
  have B2 := Lib.hid (then_ B1.out hb)
  clear hb
  go_wp2_with fail
  have BX := Lib.hid (B2.out.alloc B2.out.size (.cells #[.slice A n c, .slice A2 n2 c2] 22))
  refine (nconcat_any w2.heap.size A A2 n c n2 c2 l l2 _ ((Blk.new w2 22 #[.slice A n c, .slice A2 n2 c2]).cell 0) ((Blk.new w2 22 #[.slice A n c, .slice A2 n2 c2]).cell 1) ((HR1.out.below BX.out).more BX.out.size) ((HR2.out.below BX.out).more BX.out.size) (by omega)).mono ?_
  rintro e w3 ⟨A3, c3, rfl, ho, hb⟩
  have HO := Lib.hid (own_mono (base' := w.heap.size) ho BX.out.size)
  have B3 := Lib.hid (BX.out.trans (hb.mono BX.out.size))
  clear ho hb
  go_wp2
  go_ret2
  exact ⟨_, _, rfl, HO.out, B3.out⟩

theorem ncopy_bad (A : Option Addr) (n c : Nat) (l : List Wp.Mail) (w : World) (hr : Reads w w.heap.size 10 A n (cm l)) (hc : n ≤ c) (hl : ∀ m ∈ l, IsMailM m) (hn : n ≤ 100000) (k : Int) (hok : okMails l = false) :
    Calls Try.prog 22 #[.slice A n c, .int .i64 k] w fun e w' => e = .returned (.tuple #[.agg #[.int .i64 0, .int .i64 0, .int .u8 0, .int .i64 0, .int .i64 0, .int .i64 0, .int .i64 0, .string ⟨#[]⟩, .int .i64 0, .int .i64 0], .int .i64 8]) ∧ Below w.heap.size w w' := by
  have hz : w.heap.size < w.heap.size + 1 := by omega
  have H := Lib.hid (ncheck_any A n c l (w.alloc (.cells #[.int .i64 0, .int .i64 0, .int .u8 0, .int .i64 0, .int .i64 0, .int .i64 0, .int .i64 0, .string ⟨#[]⟩, .int .i64 0, .int .i64 0] 25)) false hok ((hr.alloc (Nat.le_refl _) _).more (by simp)) hl (by omega))
  clear hr hl hok
  go_enter Try.func22, Try.ntmps22
  go_wp2_with fail
  refine H.out.mono ?_
  rintro e w1 ⟨rfl, hb⟩
  have K1 := Lib.hid (Blk.below (Blk.new w 25 #[.int .i64 0, .int .i64 0, .int .u8 0, .int .i64 0, .int .i64 0, .int .i64 0, .int .i64 0, .string ⟨#[]⟩, .int .i64 0, .int .i64 0]) hb (by simp))
  have B1 := Lib.hid (below_of_alloc (hb.mono (B' := w.heap.size) (by simp)) (Nat.le_refl _))
  clear hb H
  have z0 : w1.cell? ⟨w.heap.size, 0, none⟩ = some (.int .i64 0) := K1.out.cell 0
  have fz0 := K1.out.frozen 0
  have z1 : w1.cell? ⟨w.heap.size, 1, none⟩ = some (.int .i64 0) := K1.out.cell 1
  have fz1 := K1.out.frozen 1
  have z2 : w1.cell? ⟨w.heap.size, 2, none⟩ = some (.int .u8 0) := K1.out.cell 2
  have fz2 := K1.out.frozen 2
  have z3 : w1.cell? ⟨w.heap.size, 3, none⟩ = some (.int .i64 0) := K1.out.cell 3
  have fz3 := K1.out.frozen 3
  have z4 : w1.cell? ⟨w.heap.size, 4, none⟩ = some (.int .i64 0) := K1.out.cell 4
  have fz4 := K1.out.frozen 4
  have z5 : w1.cell? ⟨w.heap.size, 5, none⟩ = some (.int .i64 0) := K1.out.cell 5
  have fz5 := K1.out.frozen 5
  have z6 : w1.cell? ⟨w.heap.size, 6, none⟩ = some (.int .i64 0) := K1.out.cell 6
  have fz6 := K1.out.frozen 6
  have z7 : w1.cell? ⟨w.heap.size, 7, none⟩ = some (.string ⟨#[]⟩) := K1.out.cell 7
  have fz7 := K1.out.frozen 7
  have z8 : w1.cell? ⟨w.heap.size, 8, none⟩ = some (.int .i64 0) := K1.out.cell 8
  have fz8 := K1.out.frozen 8
  have z9 : w1.cell? ⟨w.heap.size, 9, none⟩ = some (.int .i64 0) := K1.out.cell 9
  have fz9 := K1.out.frozen 9
  go_wp2
  exact bodyPost_ret (v := .tuple #[.agg #[.int .i64 0, .int .i64 0, .int .u8 0, .int .i64 0, .int .i64 0, .int .i64 0, .int .i64 0, .string ⟨#[]⟩, .int .i64 0, .int .i64 0], .int .i64 8]) (by simp [results, Try.results22, go_sem, z0, z1, z2, z3, z4, z5, z6, z7, z8, z9]) rfl ⟨rfl, by repeat (first | with_reducible exact B1.out | with_reducible refine set_z ?_ _ _)⟩
theorem ncopy_arg (A : Option Addr) (n c : Nat) (l : List Wp.Mail) (w : World) (hr : Reads w w.heap.size 10 A n (cm l)) (hc : n ≤ c) (hl : ∀ m ∈ l, IsMailM m) (hn : n ≤ 100000) (k : Int) (hk : k < 0 ∨ (n : Int) ≤ k) (hok : okMails l = true) :
    Calls Try.prog 22 #[.slice A n c, .int .i64 k] w fun e w' => e = .returned (.tuple #[.agg #[.int .i64 0, .int .i64 0, .int .u8 0, .int .i64 0, .int .i64 0, .int .i64 0, .int .i64 0, .string ⟨#[]⟩, .int .i64 0, .int .i64 0], .int .i64 2]) ∧ Below w.heap.size w w' := by
  have hz : w.heap.size < w.heap.size + 1 := by omega
  have H := Lib.hid (ncheck_any A n c l (w.alloc (.cells #[.int .i64 0, .int .i64 0, .int .u8 0, .int .i64 0, .int .i64 0, .int .i64 0, .int .i64 0, .string ⟨#[]⟩, .int .i64 0, .int .i64 0] 25)) true hok ((hr.alloc (Nat.le_refl _) _).more (by simp)) hl (by omega))
  clear hr hl hok
  by_cases k0 : k < 0
  all_goals (try have k1 : (n : Int) ≤ k := by omega)
  all_goals clear hk
  all_goals (
    go_enter Try.func22, Try.ntmps22
    go_wp2_with fail
    refine H.out.mono ?_
    rintro e w1 ⟨rfl, hb⟩
    have K1 := Lib.hid (Blk.below (Blk.new w 25 #[.int .i64 0, .int .i64 0, .int .u8 0, .int .i64 0, .int .i64 0, .int .i64 0, .int .i64 0, .string ⟨#[]⟩, .int .i64 0, .int .i64 0]) hb (by simp))
    have B1 := Lib.hid (below_of_alloc (hb.mono (B' := w.heap.size) (by simp)) (Nat.le_refl _))
    clear hb H
    have z0 : w1.cell? ⟨w.heap.size, 0, none⟩ = some (.int .i64 0) := K1.out.cell 0
    have fz0 := K1.out.frozen 0
    have z1 : w1.cell? ⟨w.heap.size, 1, none⟩ = some (.int .i64 0) := K1.out.cell 1
    have fz1 := K1.out.frozen 1
    have z2 : w1.cell? ⟨w.heap.size, 2, none⟩ = some (.int .u8 0) := K1.out.cell 2
    have fz2 := K1.out.frozen 2
    have z3 : w1.cell? ⟨w.heap.size, 3, none⟩ = some (.int .i64 0) := K1.out.cell 3
    have fz3 := K1.out.frozen 3
    have z4 : w1.cell? ⟨w.heap.size, 4, none⟩ = some (.int .i64 0) := K1.out.cell 4
    have fz4 := K1.out.frozen 4
    have z5 : w1.cell? ⟨w.heap.size, 5, none⟩ = some (.int .i64 0) := K1.out.cell 5
    have fz5 := K1.out.frozen 5
    have z6 : w1.cell? ⟨w.heap.size, 6, none⟩ = some (.int .i64 0) := K1.out.cell 6
    have fz6 := K1.out.frozen 6
    have z7 : w1.cell? ⟨w.heap.size, 7, none⟩ = some (.string ⟨#[]⟩) := K1.out.cell 7
    have fz7 := K1.out.frozen 7
    have z8 : w1.cell? ⟨w.heap.size, 8, none⟩ = some (.int .i64 0) := K1.out.cell 8
    have fz8 := K1.out.frozen 8
    have z9 : w1.cell? ⟨w.heap.size, 9, none⟩ = some (.int .i64 0) := K1.out.cell 9
    have fz9 := K1.out.frozen 9
    go_wp2
    exact bodyPost_ret (v := .tuple #[.agg #[.int .i64 0, .int .i64 0, .int .u8 0, .int .i64 0, .int .i64 0, .int .i64 0, .int .i64 0, .string ⟨#[]⟩, .int .i64 0, .int .i64 0], .int .i64 2]) (by simp [results, Try.results22, go_sem, z0, z1, z2, z3, z4, z5, z6, z7, z8, z9]) rfl ⟨rfl, by repeat (first | with_reducible exact B1.out | with_reducible refine set_z ?_ _ _)⟩)
theorem ncopy_ok (A : Option Addr) (n c : Nat) (l : List Wp.Mail) (w : World) (hr : Reads w w.heap.size 10 A n (cm l)) (hc : n ≤ c) (hl : ∀ m ∈ l, IsMailM m) (hn : n ≤ 100000) (k : Nat) (m : Wp.Mail) (hk : l[k]? = some m) (hok : okMails l = true) :
    Calls Try.prog 22 #[.slice A n c, .int .i64 (k : Int)] w fun e w' => e = .returned (.tuple #[.agg (mA m), .int .i64 0]) ∧ Below w.heap.size w w' := by
  have hz : w.heap.size < w.heap.size + 1 := by omega
  have H := Lib.hid (ncheck_any A n c l (w.alloc (.cells #[.int .i64 0, .int .i64 0, .int .u8 0, .int .i64 0, .int .i64 0, .int .i64 0, .int .i64 0, .string ⟨#[]⟩, .int .i64 0, .int .i64 0] 25)) true hok ((hr.alloc (Nat.le_refl _) _).more (by simp)) hl (by omega))
  have hlt : k < n := by rw [← hr.len_m]; exact (List.getElem?_eq_some_iff.1 hk).1
  obtain ⟨U, hU⟩ : ∃ U, S m.v = U := ⟨_, rfl⟩
  have eA : mA m = #[.int .i64 m.f, .int .i64 m.t, .int .u8 m.k, .int .i64 m.g, .int .i64 m.s, .int .i64 m.b, .int .i64 m.p, .string U, .int .i64 m.i, .int .i64 m.tm] := by rw [← hU]; rfl
  obtain ⟨g, off, m', rfl, hg, hm', -⟩ := hr.mail hlt
  obtain rfl : m = m' := by rw [hk] at hm'; injection hm'
  rw [eA]
  have EA := Lib.hid eA
  have HR := Lib.hid hr
  have HK := Lib.hid hk
  clear eA hU hr hl hok hk hm'

  go_enter Try.func22, Try.ntmps22
  go_wp2_with fail
  refine H.out.mono ?_
  rintro e w1 ⟨rfl, hb⟩
  have K1 := Lib.hid (Blk.below (Blk.new w 25 #[.int .i64 0, .int .i64 0, .int .u8 0, .int .i64 0, .int .i64 0, .int .i64 0, .int .i64 0, .string ⟨#[]⟩, .int .i64 0, .int .i64 0]) hb (by simp))
  have B1 := Lib.hid (below_of_alloc (hb.mono (B' := w.heap.size) (by simp)) (Nat.le_refl _))
  have HC : Hid (w1.rangeAt g (off + k * 10) (mcells m)) := by
    obtain ⟨g2, off2, m2, e, -, hm2, hc2⟩ := (HR.out.below B1.out).mail hlt
    injection e with e
    injection e with e1 e2
    subst e1 e2
    rw [HK.out] at hm2
    injection hm2 with hm2
    subst hm2
    exact hc2
  clear hb H
  have z0 : w1.cell? ⟨w.heap.size, 0, none⟩ = some (.int .i64 0) := K1.out.cell 0
  have fz0 := K1.out.frozen 0
  have z1 : w1.cell? ⟨w.heap.size, 1, none⟩ = some (.int .i64 0) := K1.out.cell 1
  have fz1 := K1.out.frozen 1
  have z2 : w1.cell? ⟨w.heap.size, 2, none⟩ = some (.int .u8 0) := K1.out.cell 2
  have fz2 := K1.out.frozen 2
  have z3 : w1.cell? ⟨w.heap.size, 3, none⟩ = some (.int .i64 0) := K1.out.cell 3
  have fz3 := K1.out.frozen 3
  have z4 : w1.cell? ⟨w.heap.size, 4, none⟩ = some (.int .i64 0) := K1.out.cell 4
  have fz4 := K1.out.frozen 4
  have z5 : w1.cell? ⟨w.heap.size, 5, none⟩ = some (.int .i64 0) := K1.out.cell 5
  have fz5 := K1.out.frozen 5
  have z6 : w1.cell? ⟨w.heap.size, 6, none⟩ = some (.int .i64 0) := K1.out.cell 6
  have fz6 := K1.out.frozen 6
  have z7 : w1.cell? ⟨w.heap.size, 7, none⟩ = some (.string ⟨#[]⟩) := K1.out.cell 7
  have fz7 := K1.out.frozen 7
  have z8 : w1.cell? ⟨w.heap.size, 8, none⟩ = some (.int .i64 0) := K1.out.cell 8
  have fz8 := K1.out.frozen 8
  have z9 : w1.cell? ⟨w.heap.size, 9, none⟩ = some (.int .i64 0) := K1.out.cell 9
  have fz9 := K1.out.frozen 9
  go_wp2_with (first | ((with_reducible refine wpList_load_mid rfl _ _ rfl _ _ rfl _ _ HC.out Try.underlying25 rfl (by kernel_rfl) ?_); rw [show (mcells m).toArray = #[.int .i64 m.f, .int .i64 m.t, .int .u8 m.k, .int .i64 m.g, .int .i64 m.s, .int .i64 m.b, .int .i64 m.p, .string U, .int .i64 m.i, .int .i64 m.tm] from EA.out]) | fail)
  exact bodyPost_ret (v := .tuple #[.agg #[.int .i64 m.f, .int .i64 m.t, .int .u8 m.k, .int .i64 m.g, .int .i64 m.s, .int .i64 m.b, .int .i64 m.p, .string U, .int .i64 m.i, .int .i64 m.tm], .int .i64 0]) (by simp [results, Try.results22, go_sem, z0, z1, z2, z3, z4, z5, z6, z7, z8, z9]) rfl ⟨rfl, by repeat (first | with_reducible exact B1.out | with_reducible refine set_z ?_ _ _)⟩
theorem ntake_bad (A : Option Addr) (n c : Nat) (l : List Wp.Mail) (w : World) (hr : Reads w w.heap.size 10 A n (cm l)) (hc : n ≤ c) (hl : ∀ m ∈ l, IsMailM m) (hn : n ≤ 100000) (k : Int) (hok : okMails l = false) :
    Calls Try.prog 21 #[.slice A n c, .int .i64 k] w fun e w' => e = .returned (.tuple #[.slice none 0 0, .agg #[.int .i64 0, .int .i64 0, .int .u8 0, .int .i64 0, .int .i64 0, .int .i64 0, .int .i64 0, .string ⟨#[]⟩, .int .i64 0, .int .i64 0], .int .i64 8]) ∧ Below w.heap.size w w' := by
  have hz : w.heap.size < w.heap.size + 1 := by omega
  have HC := Lib.hid (ncopy_bad A n c l (w.alloc (.cells #[.int .i64 0, .int .i64 0, .int .u8 0, .int .i64 0, .int .i64 0, .int .i64 0, .int .i64 0, .string ⟨#[]⟩, .int .i64 0, .int .i64 0] 25)) ((hr.alloc (Nat.le_refl _) _).more (by simp)) hc hl hn k hok)
  clear hr hl hok
  go_enter Try.func21, Try.ntmps21
  go_wp2_with fail
  refine HC.out.mono ?_
  rintro e w1 ⟨rfl, hb⟩
  have K1 := Lib.hid (Blk.below (Blk.new w 25 #[.int .i64 0, .int .i64 0, .int .u8 0, .int .i64 0, .int .i64 0, .int .i64 0, .int .i64 0, .string ⟨#[]⟩, .int .i64 0, .int .i64 0]) hb (by simp))
  have B1 := Lib.hid (below_of_alloc (hb.mono (B' := w.heap.size) (by simp)) (Nat.le_refl _))
  have BX := Lib.hid (B1.out.alloc B1.out.size (.cells #[.int .i64 0, .int .i64 0, .int .u8 0, .int .i64 0, .int .i64 0, .int .i64 0, .int .i64 0, .string ⟨#[]⟩, .int .i64 0, .int .i64 0] 25))
  have hlt := K1.out.lt
  clear hb HC
  have z0 : w1.cell? ⟨w.heap.size, 0, none⟩ = some (.int .i64 0) := K1.out.cell 0
  have fz0 := K1.out.frozen 0
  have z1 : w1.cell? ⟨w.heap.size, 1, none⟩ = some (.int .i64 0) := K1.out.cell 1
  have fz1 := K1.out.frozen 1
  have z2 : w1.cell? ⟨w.heap.size, 2, none⟩ = some (.int .u8 0) := K1.out.cell 2
  have fz2 := K1.out.frozen 2
  have z3 : w1.cell? ⟨w.heap.size, 3, none⟩ = some (.int .i64 0) := K1.out.cell 3
  have fz3 := K1.out.frozen 3
  have z4 : w1.cell? ⟨w.heap.size, 4, none⟩ = some (.int .i64 0) := K1.out.cell 4
  have fz4 := K1.out.frozen 4
  have z5 : w1.cell? ⟨w.heap.size, 5, none⟩ = some (.int .i64 0) := K1.out.cell 5
  have fz5 := K1.out.frozen 5
  have z6 : w1.cell? ⟨w.heap.size, 6, none⟩ = some (.int .i64 0) := K1.out.cell 6
  have fz6 := K1.out.frozen 6
  have z7 : w1.cell? ⟨w.heap.size, 7, none⟩ = some (.string ⟨#[]⟩) := K1.out.cell 7
  have fz7 := K1.out.frozen 7
  have z8 : w1.cell? ⟨w.heap.size, 8, none⟩ = some (.int .i64 0) := K1.out.cell 8
  have fz8 := K1.out.frozen 8
  have z9 : w1.cell? ⟨w.heap.size, 9, none⟩ = some (.int .i64 0) := K1.out.cell 9
  have fz9 := K1.out.frozen 9
  go_wp2
  exact bodyPost_ret (v := .tuple #[.slice none 0 0, .agg #[.int .i64 0, .int .i64 0, .int .u8 0, .int .i64 0, .int .i64 0, .int .i64 0, .int .i64 0, .string ⟨#[]⟩, .int .i64 0, .int .i64 0], .int .i64 8]) (by simp [results, Try.results21, go_sem, hlt, z0, z1, z2, z3, z4, z5, z6, z7, z8, z9]) rfl ⟨rfl, by refine alloc_b ?_ _; repeat (first | with_reducible exact B1.out | with_reducible refine set_z ?_ _ _)⟩
theorem ntake_arg (A : Option Addr) (n c : Nat) (l : List Wp.Mail) (w : World) (hr : Reads w w.heap.size 10 A n (cm l)) (hc : n ≤ c) (hl : ∀ m ∈ l, IsMailM m) (hn : n ≤ 100000) (k : Int) (hk : k < 0 ∨ (n : Int) ≤ k) (hok : okMails l = true) :
    Calls Try.prog 21 #[.slice A n c, .int .i64 k] w fun e w' => e = .returned (.tuple #[.slice none 0 0, .agg #[.int .i64 0, .int .i64 0, .int .u8 0, .int .i64 0, .int .i64 0, .int .i64 0, .int .i64 0, .string ⟨#[]⟩, .int .i64 0, .int .i64 0], .int .i64 2]) ∧ Below w.heap.size w w' := by
  have hz : w.heap.size < w.heap.size + 1 := by omega
  have HC := Lib.hid (ncopy_arg A n c l (w.alloc (.cells #[.int .i64 0, .int .i64 0, .int .u8 0, .int .i64 0, .int .i64 0, .int .i64 0, .int .i64 0, .string ⟨#[]⟩, .int .i64 0, .int .i64 0] 25)) ((hr.alloc (Nat.le_refl _) _).more (by simp)) hc hl hn k hk hok)
  clear hr hl hok hk
  go_enter Try.func21, Try.ntmps21
  go_wp2_with fail
  refine HC.out.mono ?_
  rintro e w1 ⟨rfl, hb⟩
  have K1 := Lib.hid (Blk.below (Blk.new w 25 #[.int .i64 0, .int .i64 0, .int .u8 0, .int .i64 0, .int .i64 0, .int .i64 0, .int .i64 0, .string ⟨#[]⟩, .int .i64 0, .int .i64 0]) hb (by simp))
  have B1 := Lib.hid (below_of_alloc (hb.mono (B' := w.heap.size) (by simp)) (Nat.le_refl _))
  have BX := Lib.hid (B1.out.alloc B1.out.size (.cells #[.int .i64 0, .int .i64 0, .int .u8 0, .int .i64 0, .int .i64 0, .int .i64 0, .int .i64 0, .string ⟨#[]⟩, .int .i64 0, .int .i64 0] 25))
  have hlt := K1.out.lt
  clear hb HC
  have z0 : w1.cell? ⟨w.heap.size, 0, none⟩ = some (.int .i64 0) := K1.out.cell 0
  have fz0 := K1.out.frozen 0
  have z1 : w1.cell? ⟨w.heap.size, 1, none⟩ = some (.int .i64 0) := K1.out.cell 1
  have fz1 := K1.out.frozen 1
  have z2 : w1.cell? ⟨w.heap.size, 2, none⟩ = some (.int .u8 0) := K1.out.cell 2
  have fz2 := K1.out.frozen 2
  have z3 : w1.cell? ⟨w.heap.size, 3, none⟩ = some (.int .i64 0) := K1.out.cell 3
  have fz3 := K1.out.frozen 3
  have z4 : w1.cell? ⟨w.heap.size, 4, none⟩ = some (.int .i64 0) := K1.out.cell 4
  have fz4 := K1.out.frozen 4
  have z5 : w1.cell? ⟨w.heap.size, 5, none⟩ = some (.int .i64 0) := K1.out.cell 5
  have fz5 := K1.out.frozen 5
  have z6 : w1.cell? ⟨w.heap.size, 6, none⟩ = some (.int .i64 0) := K1.out.cell 6
  have fz6 := K1.out.frozen 6
  have z7 : w1.cell? ⟨w.heap.size, 7, none⟩ = some (.string ⟨#[]⟩) := K1.out.cell 7
  have fz7 := K1.out.frozen 7
  have z8 : w1.cell? ⟨w.heap.size, 8, none⟩ = some (.int .i64 0) := K1.out.cell 8
  have fz8 := K1.out.frozen 8
  have z9 : w1.cell? ⟨w.heap.size, 9, none⟩ = some (.int .i64 0) := K1.out.cell 9
  have fz9 := K1.out.frozen 9
  go_wp2
  exact bodyPost_ret (v := .tuple #[.slice none 0 0, .agg #[.int .i64 0, .int .i64 0, .int .u8 0, .int .i64 0, .int .i64 0, .int .i64 0, .int .i64 0, .string ⟨#[]⟩, .int .i64 0, .int .i64 0], .int .i64 2]) (by simp [results, Try.results21, go_sem, hlt, z0, z1, z2, z3, z4, z5, z6, z7, z8, z9]) rfl ⟨rfl, by refine alloc_b ?_ _; repeat (first | with_reducible exact B1.out | with_reducible refine set_z ?_ _ _)⟩
theorem ntake_ok (A : Option Addr) (n c : Nat) (l : List Wp.Mail) (w : World) (hr : Reads w w.heap.size 10 A n (cm l)) (hc : n ≤ c) (hl : ∀ m ∈ l, IsMailM m) (hn : n ≤ 100000) (k : Nat) (m : Wp.Mail) (hk : l[k]? = some m) (hok : okMails l = true) :
    Calls Try.prog 21 #[.slice A n c, .int .i64 (k : Int)] w fun e w' => ∃ A3 c3, e = .returned (.tuple #[.slice A3 (n - 1) c3, .agg (mA m), .int .i64 0]) ∧ w'.ownsRow w.heap.size 25 10 (.slice A3 (n - 1) c3) (n - 1) (cm (l.take k ++ l.drop (k + 1))) ∧ Below w.heap.size w w' := by
  have hz : w.heap.size < w.heap.size + 1 := by omega
  have HC := Lib.hid (ncopy_ok A n c l (w.alloc (.cells #[.int .i64 0, .int .i64 0, .int .u8 0, .int .i64 0, .int .i64 0, .int .i64 0, .int .i64 0, .string ⟨#[]⟩, .int .i64 0, .int .i64 0] 25)) ((hr.alloc (Nat.le_refl _) _).more (by simp)) hc hl hn k m hk hok)
  have hlt : k < n := by rw [← hr.len_m]; exact (List.getElem?_eq_some_iff.1 hk).1
  obtain ⟨U, hU⟩ : ∃ U, S m.v = U := ⟨_, rfl⟩
  have eA : mA m = #[.int .i64 m.f, .int .i64 m.t, .int .u8 m.k, .int .i64 m.g, .int .i64 m.s, .int .i64 m.b, .int .i64 m.p, .string U, .int .i64 m.i, .int .i64 m.tm] := by rw [← hU]; rfl
  rw [eA] at HC ⊢
  have HR := Lib.hid hr
  clear hr hl hok hk eA hU
  go_enter Try.func21, Try.ntmps21
  go_wp2_with fail
  refine HC.out.mono ?_
  rintro e w1 ⟨rfl, hb⟩
  have K1 := Lib.hid (Blk.alloc (Blk.below (Blk.new w 25 #[.int .i64 0, .int .i64 0, .int .u8 0, .int .i64 0, .int .i64 0, .int .i64 0, .int .i64 0, .string ⟨#[]⟩, .int .i64 0, .int .i64 0]) hb (by simp)) (.cells #[.int .i64 m.f, .int .i64 m.t, .int .u8 m.k, .int .i64 m.g, .int .i64 m.s, .int .i64 m.b, .int .i64 m.p, .string U, .int .i64 m.i, .int .i64 m.tm] 25))
  have B1 := Lib.hid (below_of_alloc (hb.mono (B' := w.heap.size) (by simp)) (Nat.le_refl _))
  have BX := Lib.hid (B1.out.alloc B1.out.size (.cells #[.int .i64 m.f, .int .i64 m.t, .int .u8 m.k, .int .i64 m.g, .int .i64 m.s, .int .i64 m.b, .int .i64 m.p, .string U, .int .i64 m.i, .int .i64 m.tm] 25))
  have KM := Lib.hid (Blk.new w1 25 #[.int .i64 m.f, .int .i64 m.t, .int .u8 m.k, .int .i64 m.g, .int .i64 m.s, .int .i64 m.b, .int .i64 m.p, .string U, .int .i64 m.i, .int .i64 m.tm])
  have h01 : w.heap.size < w1.heap.size := (Blk.below (Blk.new w 25 #[.int .i64 0, .int .i64 0, .int .u8 0, .int .i64 0, .int .i64 0, .int .i64 0, .int .i64 0, .string ⟨#[]⟩, .int .i64 0, .int .i64 0]) hb (by simp)).lt
  clear hb HC
  go_upto_region 4 with fail
  generalize w1.alloc (.cells #[.int .i64 m.f, .int .i64 m.t, .int .u8 m.k, .int .i64 m.g, .int .i64 m.s, .int .i64 m.b, .int .i64 m.p, .string U, .int .i64 m.i, .int .i64 m.tm] 25) = W at *
  obtain ⟨gm, hgm⟩ : ∃ x, w1.heap.size = x := ⟨_, rfl⟩
  rw [hgm] at KM h01
  rw [hgm]
  clear hgm
  have hne : gm ≠ w.heap.size := by omega
  have hne2 := Ne.symm hne
  have hgl := KM.out.lt
  have hzl := K1.out.lt
  have HRW := Lib.hid ((HR.out.below BX.out).more BX.out.size)
  have z0 : W.cell? ⟨w.heap.size, 0, none⟩ = some (.int .i64 0) := K1.out.cell 0
  have fz0 := K1.out.frozen 0
  have z1 : W.cell? ⟨w.heap.size, 1, none⟩ = some (.int .i64 0) := K1.out.cell 1
  have fz1 := K1.out.frozen 1
  have z2 : W.cell? ⟨w.heap.size, 2, none⟩ = some (.int .u8 0) := K1.out.cell 2
  have fz2 := K1.out.frozen 2
  have z3 : W.cell? ⟨w.heap.size, 3, none⟩ = some (.int .i64 0) := K1.out.cell 3
  have fz3 := K1.out.frozen 3
  have z4 : W.cell? ⟨w.heap.size, 4, none⟩ = some (.int .i64 0) := K1.out.cell 4
  have fz4 := K1.out.frozen 4
  have z5 : W.cell? ⟨w.heap.size, 5, none⟩ = some (.int .i64 0) := K1.out.cell 5
  have fz5 := K1.out.frozen 5
  have z6 : W.cell? ⟨w.heap.size, 6, none⟩ = some (.int .i64 0) := K1.out.cell 6
  have fz6 := K1.out.frozen 6
  have z7 : W.cell? ⟨w.heap.size, 7, none⟩ = some (.string ⟨#[]⟩) := K1.out.cell 7
  have fz7 := K1.out.frozen 7
  have z8 : W.cell? ⟨w.heap.size, 8, none⟩ = some (.int .i64 0) := K1.out.cell 8
  have fz8 := K1.out.frozen 8
  have z9 : W.cell? ⟨w.heap.size, 9, none⟩ = some (.int .i64 0) := K1.out.cell 9
  have fz9 := K1.out.frozen 9
  have y0 : W.cell? ⟨gm, 0, none⟩ = some (.int .i64 m.f) := KM.out.cell 0
  have y1 : W.cell? ⟨gm, 1, none⟩ = some (.int .i64 m.t) := KM.out.cell 1
  have y2 : W.cell? ⟨gm, 2, none⟩ = some (.int .u8 m.k) := KM.out.cell 2
  have y3 : W.cell? ⟨gm, 3, none⟩ = some (.int .i64 m.g) := KM.out.cell 3
  have y4 : W.cell? ⟨gm, 4, none⟩ = some (.int .i64 m.s) := KM.out.cell 4
  have y5 : W.cell? ⟨gm, 5, none⟩ = some (.int .i64 m.b) := KM.out.cell 5
  have y6 : W.cell? ⟨gm, 6, none⟩ = some (.int .i64 m.p) := KM.out.cell 6
  have y7 : W.cell? ⟨gm, 7, none⟩ = some (.string U) := KM.out.cell 7
  have y8 : W.cell? ⟨gm, 8, none⟩ = some (.int .i64 m.i) := KM.out.cell 8
  have y9 : W.cell? ⟨gm, 9, none⟩ = some (.int .i64 m.tm) := KM.out.cell 9
  go_region_with (go_at_call 69; refine (nwithout_any A n c k l _ (by first | exact HRW.out | exact HRW.out.drew) hc hlt hn).mono ?_; rintro e w2 ⟨A3, c3, rfl, ho, hb⟩; have yy0 := (hb.cell (p := ⟨gm, 0, none⟩) (by simpa using hgl)).trans y0; have yy1 := (hb.cell (p := ⟨gm, 1, none⟩) (by simpa using hgl)).trans y1; have yy2 := (hb.cell (p := ⟨gm, 2, none⟩) (by simpa using hgl)).trans y2; have yy3 := (hb.cell (p := ⟨gm, 3, none⟩) (by simpa using hgl)).trans y3; have yy4 := (hb.cell (p := ⟨gm, 4, none⟩) (by simpa using hgl)).trans y4; have yy5 := (hb.cell (p := ⟨gm, 5, none⟩) (by simpa using hgl)).trans y5; have yy6 := (hb.cell (p := ⟨gm, 6, none⟩) (by simpa using hgl)).trans y6; have yy7 := (hb.cell (p := ⟨gm, 7, none⟩) (by simpa using hgl)).trans y7; have yy8 := (hb.cell (p := ⟨gm, 8, none⟩) (by simpa using hgl)).trans y8; have yy9 := (hb.cell (p := ⟨gm, 9, none⟩) (by simpa using hgl)).trans y9; have zz0 := (hb.cell (p := ⟨w.heap.size, 0, none⟩) (by simpa using hzl)).trans z0; have ff0 := (hb.frozen (p := ⟨w.heap.size, 0, none⟩) (by simpa using hzl)).trans fz0; have zz1 := (hb.cell (p := ⟨w.heap.size, 1, none⟩) (by simpa using hzl)).trans z1; have ff1 := (hb.frozen (p := ⟨w.heap.size, 1, none⟩) (by simpa using hzl)).trans fz1; have zz2 := (hb.cell (p := ⟨w.heap.size, 2, none⟩) (by simpa using hzl)).trans z2; have ff2 := (hb.frozen (p := ⟨w.heap.size, 2, none⟩) (by simpa using hzl)).trans fz2; have zz3 := (hb.cell (p := ⟨w.heap.size, 3, none⟩) (by simpa using hzl)).trans z3; have ff3 := (hb.frozen (p := ⟨w.heap.size, 3, none⟩) (by simpa using hzl)).trans fz3; have zz4 := (hb.cell (p := ⟨w.heap.size, 4, none⟩) (by simpa using hzl)).trans z4; have ff4 := (hb.frozen (p := ⟨w.heap.size, 4, none⟩) (by simpa using hzl)).trans fz4; have zz5 := (hb.cell (p := ⟨w.heap.size, 5, none⟩) (by simpa using hzl)).trans z5; have ff5 := (hb.frozen (p := ⟨w.heap.size, 5, none⟩) (by simpa using hzl)).trans fz5; have zz6 := (hb.cell (p := ⟨w.heap.size, 6, none⟩) (by simpa using hzl)).trans z6; have ff6 := (hb.frozen (p := ⟨w.heap.size, 6, none⟩) (by simpa using hzl)).trans fz6; have zz7 := (hb.cell (p := ⟨w.heap.size, 7, none⟩) (by simpa using hzl)).trans z7; have ff7 := (hb.frozen (p := ⟨w.heap.size, 7, none⟩) (by simpa using hzl)).trans fz7; have zz8 := (hb.cell (p := ⟨w.heap.size, 8, none⟩) (by simpa using hzl)).trans z8; have ff8 := (hb.frozen (p := ⟨w.heap.size, 8, none⟩) (by simpa using hzl)).trans fz8; have zz9 := (hb.cell (p := ⟨w.heap.size, 9, none⟩) (by simpa using hzl)).trans z9; have ff9 := (hb.frozen (p := ⟨w.heap.size, 9, none⟩) (by simpa using hzl)).trans fz9)
  all_goals
    have HO := Lib.hid ho
    have B2 := Lib.hid (BX.out.drew.trans (hb.mono (by simpa using BX.out.size)))
    have hbw : w.heap.size < W.drew.heap.size := by simpa using hzl
    clear ho hb y0 yy0 z0 fz0 y1 yy1 z1 fz1 y2 yy2 z2 fz2 y3 yy3 z3 fz3 y4 yy4 z4 fz4 y5 yy5 z5 fz5 y6 yy6 z6 fz6 y7 yy7 z7 fz7 y8 yy8 z8 fz8 y9 yy9 z9 fz9
    go_wp2
    exact bodyPost_ret (v := .tuple #[.slice A3 (n - 1) c3, .agg #[.int .i64 m.f, .int .i64 m.t, .int .u8 m.k, .int .i64 m.g, .int .i64 m.s, .int .i64 m.b, .int .i64 m.p, .string U, .int .i64 m.i, .int .i64 m.tm], .int .i64 0]) (by simp [results, Try.results21, go_sem, zz0, ff0, zz1, ff1, zz2, ff2, zz3, ff3, zz4, ff4, zz5, ff5, zz6, ff6, zz7, ff7, zz8, ff8, zz9, ff9]) rfl ⟨_, _, rfl, own_mono (base := W.drew.heap.size) (by repeat (first | with_reducible exact HO.out | with_reducible refine own_far ?_ hbw _ _)) (Nat.le_of_lt hbw), by repeat (first | with_reducible exact B2.out | with_reducible refine set_z ?_ _ _)⟩
end Go.Proofs.Ytmchnjnknnolmaa
