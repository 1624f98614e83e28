/-
  Layer 4: the laws' one, joined and alive.
-/
import Derived.Test.YtihinhdgfbnlmaaWalAdd
import Derived.Test.YtihinhdgfbnlmaaWalOpen
import Derived.Test.YtihinhdgfbnlmaaWalLaw
import Derived.Test.YtihinhdgfbnlmaaDiskSome
import Derived.Test.YtihinhdgfbnlmaaFrameLit
import Derived.Test.YtihinhdgfbnlmaaTexts
namespace Go.Proofs.Ytihinhdgfbnlmaa
open Go.RowKit
set_option maxHeartbeats 16000000
set_option maxRecDepth 100000
set_option linter.unusedVariables false
set_option linter.unusedSimpArgs false

/-- Texts onto a row of texts of the call's own. -/
theorem app_tl {ops : Array Oper} {rest : List Oper} {o : Oper} {a : Act} {Q : Exit → Act → World → Prop} {w : World} (hgd : o.guard = none) (sl x : Operand)
    (ho : o.op = .call { callee := .builtin .append, args := #[sl, x], argTypes := #[54, 54] })
    (base : Nat) (v : Value) (n : Nat) (l : List ByteArray) (hs : a.eval sl = v) (hown : w.ownsRow base 9 1 v n (ct l))
    (B : Nat) (A : Option Addr) (m c : Nat) (news : List ByteArray) (hx : a.eval x = .slice A m c) (hr : Reads w B 1 A m (ct news))
    (hn : n + m ≤ 1000000000000) (hbase : base ≤ w.heap.size)
    (h : ∀ v' w', w'.ownsRow base 9 1 v' (n + m) (ct (l ++ news)) → Grew w w' v v' → wpList Try.prog ops Q rest (a.put o.dst v') w') :
    wpList Try.prog ops Q (o :: rest) a w := by
  obtain ⟨i0, hi0, hz0, hz1, hz2⟩ := info_parts str_info
  refine wpList_append_any _ hgd sl x 54 ho base 9 i0 _ 1 16 Try.underlying54 hi0 hz0 hz1 hz2 rfl (by decide) v n (ct l) hs hown B A m c (ct news) hx hr (ct_one _) (by simp only [maxLen]; omega) (by omega) hbase ?_
  intro v' w' h1 h2 h3
  refine h v' w' (by rw [ct_append]; exact h1) ⟨h2, ?_⟩
  rcases h3 with h3 | h3
  · exact Or.inl h3
  · exact Or.inr ⟨_, h3, Nat.le_refl _⟩

theorem newTAt {w : World} {g : Nat} (hg : w.heap.size = g) (l : List ByteArray) (cs : Array Value) (h : cs.toList = ct l) : Reads (w.alloc (.cells cs 9)) (g + 1) 1 (some ⟨g, 0, none⟩) l.length (ct l) := by
  subst hg
  exact newT w l cs h
theorem joined_any (A1 : Option Addr) (n1 c1 : Nat) (l1 : List ByteArray) (A2 : Option Addr) (n2 c2 : Nat) (l2 : List ByteArray) (w : World) (h1 : Reads w w.heap.size 1 A1 n1 (ct l1)) (h2 : Reads w w.heap.size 1 A2 n2 (ct l2)) (hn : n1 + n2 ≤ 1000000000) :
    Calls Try.prog 38 #[.slice A1 n1 c1, .slice A2 n2 c2] w fun e w' => ∃ A c, e = .returned (.slice A (n1 + n2) c) ∧ w'.ownsRow w.heap.size 9 1 (.slice A (n1 + n2) c) (n1 + n2) (ct (l1 ++ l2)) ∧ Below w.heap.size w w' := by
  have H1 := Lib.hid h1
  have H2 := Lib.hid h2
  clear h1 h2
  go_enter Try.func38, Try.ntmps38
  go_wp2_with (at_builtin; refine app_tl rfl (.const (.slice none 0 0)) (.tmp 5) rfl w.heap.size (.slice none 0 0) 0 [] rfl (World.ownsRow_nil _ _ _ _) w.heap.size A1 n1 c1 l1 rfl H1.out (by omega) (Nat.le_refl _) ?_)
  intro v3 w3 o3 g3
  have hb3 : w.grownBy w3 none := g3.1
  have B3 := Lib.hid (below_grown0 (Below.refl _ w) hb3 (Nat.le_refl _))
  have O3 := Lib.hid o3
  obtain ⟨A3, c3, rfl⟩ := own_shape o3
  have R2 := Lib.hid (H2.out.below B3.out)
  clear o3 g3 hb3
  go_wp2_with (at_builtin; refine app_tl rfl (.tmp 6) (.tmp 7) rfl w.heap.size (.slice A3 n1 c3) n1 l1 rfl O3.out w.heap.size A2 n2 c2 l2 rfl R2.out (by omega) B3.out.size ?_)
  intro v4 w4 o4 g4
  have O4 := Lib.hid o4
  have B4 := Lib.hid (B3.out.trans (g4.belowOwn O3.out B3.out.size))
  obtain ⟨A4, c4, rfl⟩ := own_shape o4
  clear o4 g4
  go_wp2
  go_ret
  exact ⟨A4, c4, rfl, O4.out, B4.out⟩

theorem one_any (w : World) : Calls Try.prog 39 #[] w fun e w' => ∃ D, e = .returned (.agg #[.slice D.A D.n D.c, .slice D.WA D.Wn D.Wc]) ∧ DiskAt w' w'.heap.size D ∧ D.disk = ⟨[1, 97], []⟩ ∧ Below w.heap.size w w' := by
  have hz : w.heap.size < w.heap.size + 1 := by omega
  have B0 := Lib.hid (((Below.refl _ w).alloc (Nat.le_refl w.heap.size) (.cells #[.slice (some ⟨w.heap.size + 1, 0, none⟩) 2 2, .slice none 0 0] 25)).alloc (by simp) (.cells #[.int .u8 1, .int .u8 97] 5))
  have Ka := Lib.hid (Blk.newAt (w := w.alloc (.cells #[.slice (some ⟨w.heap.size + 1, 0, none⟩) 2 2, .slice none 0 0] 25)) (g := w.heap.size + 1) (by simp) 5 #[.int .u8 1, .int .u8 97])
  go_enter Try.func39, Try.ntmps39
  go_wp2
  exact bodyPost_ret (v := .agg #[.slice (some ⟨w.heap.size + 1, 0, none⟩) 2 2, .slice none 0 0]) (by simp [results, Try.results39, go_sem]) rfl ⟨⟨some ⟨w.heap.size + 1, 0, none⟩, 2, 2, [1, 97], none, 0, 0, []⟩, rfl, blk_disk Ka.out rfl rfl (by decide), rfl, B0.out⟩

theorem alive04_any (w : World) : Calls Try.prog 37 #[] w fun e w' => e = .returned (.bool true) ∧ Below w.heap.size w w' := by
  go_enter Try.func37, Try.ntmps37
  go_wp2_with fail
  refine (one_any w).mono ?_
  rintro e w1 ⟨D, rfl, hd, hd2, hb⟩
  have HD := Lib.hid (hd.alloc (.cells #[.string (S [98, 99])] 9))
  have HE := Lib.hid hd2
  have C := Lib.hid (below_alloc hb (.cells #[.string (S [98, 99])] 9))
  have RT := Lib.hid ((newT w1 [S [98, 99]] #[.string (S [98, 99])] rfl).more (B' := (w1.alloc (.cells #[.string (S [98, 99])] 9)).heap.size) (by simp))
  clear hd hd2 hb
  go_wp2_with fail
  refine (add_any D (some ⟨w1.heap.size, 0, none⟩) 1 1 [[98, 99]] _ ⟨[1, 97], [⟨false, [2, 98, 99]⟩]⟩ 0 (by rw [HE.out]; exact Wa.ex_add) HD.out RT.out (by decide)).mono ?_
  rintro e w2 ⟨D2, rfl, hx, hex, hb⟩
  have HD2 := Lib.hid (hx.at_.alloc (.cells #[.slice D2.A D2.n D2.c, .slice D2.WA D2.Wn D2.Wc] 25))
  have HE2 := Lib.hid hex
  replace C := Lib.hid (below_alloc (C.out.trans (hb.mono C.out.size)) (.cells #[.slice D2.A D2.n D2.c, .slice D2.WA D2.Wn D2.Wc] 25))
  clear hx hex hb HD RT HE
  go_wp2_with fail
  refine (open_any D2 _ ⟨[1, 97], [⟨false, [2, 98, 99]⟩]⟩ [[97], [98, 99]] 0 (by rw [HE2.out]; exact Wa.ex_open) HD2.out).mono ?_
  rintro e w3 ⟨D3, A3, n3, c3, rfl, hx, hex, hn3, ho, hb⟩
  obtain rfl : n3 = 2 := hn3.symm
  have R3 := Lib.hid (((Reads.of_own ho).alloc (Nat.le_refl _) (.cells #[.slice D3.A D3.n D3.c, .slice D3.WA D3.Wn D3.Wc] 25)).alloc (by simp) (.cells #[.string (S [97]), .string (S [98, 99])] 9))
  have R4 := Lib.hid (newTAt (w := w3.alloc (.cells #[.slice D3.A D3.n D3.c, .slice D3.WA D3.Wn D3.Wc] 25)) (g := w3.heap.size + 1) (by simp) [S [97], S [98, 99]] #[.string (S [97]), .string (S [98, 99])] rfl)
  replace C := Lib.hid (below_alloc (below_alloc (C.out.trans (hb.mono C.out.size)) (.cells #[.slice D3.A D3.n D3.c, .slice D3.WA D3.Wn D3.Wc] 25)) (.cells #[.string (S [97]), .string (S [98, 99])] 9))
  clear hx hex hb ho hn3 HD2 HE2
  go_wp2_with fail
  refine (sameTexts_yes A3 2 c3 (some ⟨w3.heap.size + 1, 0, none⟩) 2 2 _ _ _ [S [97], S [98, 99]] _ R3.out R4.out (by omega) rfl).mono ?_
  rintro e w4 ⟨rfl, q, rfl⟩
  go_wp2
  go_ret
  exact ⟨rfl, then_drewN C.out q⟩
end Go.Proofs.Ytihinhdgfbnlmaa
