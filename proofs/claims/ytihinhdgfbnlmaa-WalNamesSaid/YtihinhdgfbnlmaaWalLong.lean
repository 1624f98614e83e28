/-
  Layer 4: too many writes that wait, too many texts.
-/
import Derived.Test.YtihinhdgfbnlmaaDiskNames
import Derived.Test.YtihinhdgfbnlmaaWalSome
import Derived.Test.YtihinhdgfbnlmaaWalReset
import Derived.Test.YtihinhdgfbnlmaaWalLaw
import Derived.Test.YtihinhdgfbnlmaaFrameNames
namespace Go.Proofs.Ytihinhdgfbnlmaa
open Go.RowKit
set_option maxHeartbeats 16000000
set_option maxRecDepth 100000
set_option linter.unusedVariables false
set_option linter.unusedSimpArgs false

theorem see_long (A : Option Addr) (n c : Nat) (WA : Option Addr) (Wn Wc : Nat) (w : World) (z : 1024 < Wn) (z0 : Wn ≤ 140737488351232) :
    Calls Try.prog 13 #[.agg #[.slice A n c, .slice WA Wn Wc]] w fun e w' => e = .returned (.tuple #[.slice none 0 0, .int .i64 30]) ∧ Below w.heap.size w w' := by
  have B0 := Lib.hid ((Below.refl _ w).alloc (Nat.le_refl w.heap.size) (.cells #[.slice A n c, .slice WA Wn Wc] 25))
  go_enter Try.func13, Try.ntmps13
  go_wp2_with fail
  refine (check_long A n c WA Wn Wc _ z z0).mono ?_
  rintro e w1 ⟨rfl, hb⟩
  have B1 := Lib.hid (B0.out.trans (hb.mono B0.out.size))
  clear hb B0
  go_wp2
  go_ret2
  exact ⟨rfl, B1.out⟩
theorem open_long (A : Option Addr) (n c : Nat) (WA : Option Addr) (Wn Wc : Nat) (w : World) (z : 1024 < Wn) (z0 : Wn ≤ 140737488351232) :
    Calls Try.prog 30 #[.agg #[.slice A n c, .slice WA Wn Wc]] w fun e w' => e = .returned (.tuple #[.agg #[.slice none 0 0, .slice none 0 0], .slice none 0 0, .int .i64 30]) ∧ Below w.heap.size w w' := by
  have hz : w.heap.size + 1 < w.heap.size + 2 := by omega
  have C := Lib.hid (((Below.refl _ w).alloc (Nat.le_refl w.heap.size) (.cells #[.slice A n c, .slice WA Wn Wc] 25)).alloc (by simp) (.cells #[.slice none 0 0, .slice none 0 0] 25))
  have K1 := Lib.hid ((Blk.new w 25 #[.slice A n c, .slice WA Wn Wc]).alloc (.cells #[.slice none 0 0, .slice none 0 0] 25))
  have KR := Lib.hid (Blk.newAt (w := w.alloc (.cells #[.slice A n c, .slice WA Wn Wc] 25)) (g := w.heap.size + 1) (by simp) 25 #[.slice none 0 0, .slice none 0 0])
  have y0 := K1.out.cell 0
  have y1 := K1.out.cell 1
  go_enter Try.func30, Try.ntmps30
  go_wp2_with fail
  refine (see_long A n c WA Wn Wc _ z z0).mono ?_
  rintro e w2 ⟨rfl, hb⟩
  replace KR := Lib.hid (KR.out.below hb KR.out.lt)
  replace C := Lib.hid (C.out.trans (hb.mono C.out.size))
  clear hb y0 y1 K1
  have z0 := KR.out.cell 0
  have z1 := KR.out.cell 1
  have fz0 := KR.out.frozen 0
  have fz1 := KR.out.frozen 1
  go_wp2
  exact bodyPost_ret (v := .tuple #[.agg #[.slice none 0 0, .slice none 0 0], .slice none 0 0, .int .i64 30]) (by simp [results, Try.results30, go_sem, z0, z1]) rfl ⟨rfl, (C.out.setCell (by simp) _).setCell (by simp) _⟩
theorem add_many (D : HD) (A : Option Addr) (n c : Nat) (w : World) (h : DiskAt w w.heap.size D) (hm : Dp.mayD D.disk = true) (hn : 1024 < n) (hn2 : n ≤ 1000000000) :
    Calls Try.prog 32 #[.agg #[.slice D.A D.n D.c, .slice D.WA D.Wn D.Wc], .slice A n c] w fun e w' => e = .returned (.tuple #[.agg #[.slice none 0 0, .slice none 0 0], .int .i64 4]) ∧ Below w.heap.size w w' := by
  have hz : w.heap.size + 1 < w.heap.size + 2 := by omega
  have e0 : Dp.see D.disk = (Dp.seen D.disk, 0) := by rw [Dp.see, if_pos hm]
  have HS := Lib.hid e0
  have D1 := Lib.hid ((h.alloc (.cells #[.slice D.A D.n D.c, .slice D.WA D.Wn D.Wc] 25)).alloc (.cells #[.slice none 0 0, .slice none 0 0] 25))
  have C := Lib.hid (((Below.refl _ w).alloc (Nat.le_refl w.heap.size) (.cells #[.slice D.A D.n D.c, .slice D.WA D.Wn D.Wc] 25)).alloc (by simp) (.cells #[.slice none 0 0, .slice none 0 0] 25))
  have K1 := Lib.hid ((Blk.new w 25 #[.slice D.A D.n D.c, .slice D.WA D.Wn D.Wc]).alloc (.cells #[.slice none 0 0, .slice none 0 0] 25))
  have KR := Lib.hid (Blk.newAt (w := w.alloc (.cells #[.slice D.A D.n D.c, .slice D.WA D.Wn D.Wc] 25)) (g := w.heap.size + 1) (by simp) 25 #[.slice none 0 0, .slice none 0 0])
  clear h hm e0
  have y0 := K1.out.cell 0
  have y1 := K1.out.cell 1
  go_enter Try.func32, Try.ntmps32
  go_wp2_with fail
  refine (see_is D _ _ _ HS.out D1.out).mono ?_
  rintro e w2 ⟨A2, c2, m, rfl, hmm, ho, hb⟩
  replace KR := Lib.hid (KR.out.below hb KR.out.lt)
  replace C := Lib.hid (C.out.trans (hb.mono C.out.size))
  clear hmm ho hb y0 y1 K1
  have z1024 : (1024 : Int) < (n : Int) := by omega
  have z0 := KR.out.cell 0
  have z1 := KR.out.cell 1
  have fz0 := KR.out.frozen 0
  have fz1 := KR.out.frozen 1
  go_wp2
  exact bodyPost_ret (v := .tuple #[.agg #[.slice none 0 0, .slice none 0 0], .int .i64 4]) (by simp [results, Try.results32, go_sem, z0, z1]) rfl ⟨rfl, (C.out.setCell (by simp) _).setCell (by simp) _⟩
end Go.Proofs.Ytihinhdgfbnlmaa
