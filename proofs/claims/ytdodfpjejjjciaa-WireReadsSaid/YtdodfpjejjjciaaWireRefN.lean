/-
  The reference of layer 23: a mail's numbers.
-/
import Derived.Test.YtdodfpjejjjciaaWireWriteW
import Derived.Test.YtdodfpjejjjciaaRecordRefM
import Derived.Test.YtdodfpjejjjciaaAppI
namespace Go.Proofs.Ytdodfpjejjjciaa
open Go.RowKit Bal
set_option maxHeartbeats 2000000
set_option maxRecDepth 100000
set_option linter.unusedVariables false
set_option linter.unusedSimpArgs false

namespace Wp
/-- A kind's own numbers. -/
def kindNums (m : Mail) : List Int := if m.k = 1 then [m.s, m.b] else if m.k = 2 then [m.s, m.b, m.p] else if m.k = 3 then [m.s, m.b] else if m.k = 4 then [m.s, m.b] else if m.k = 5 then [m.s, m.b, m.p]
  else if m.k = 6 then [m.s] else if m.k = 7 then [m.s] else if m.k = 8 then [m.i, m.tm] else []
def numsM (m : Mail) : List Int := [m.f, m.t, m.k, m.g] ++ kindNums m
def valuedB (k : Int) : Bool := k == 2 || k == 3 || k == 6 || k == 9
end Wp

theorem rvalued_any (k : Int) (w : World) (h1 : 1 ≤ k) (h2 : k ≤ 9) : Calls Try.prog 50 #[.int .i64 k] w fun e w' => e = .returned (.bool (Wp.valuedB k)) ∧ w = w' := by
  have hk : k = 1 ∨ k = 2 ∨ k = 3 ∨ k = 4 ∨ k = 5 ∨ k = 6 ∨ k = 7 ∨ k = 8 ∨ k = 9 := by omega
  clear h1 h2
  rcases hk with rfl | rfl | rfl | rfl | rfl | rfl | rfl | rfl | rfl <;>
    (go_enter Try.func50, Try.ntmps50
     go_wp2
     go_ret
     exact ⟨rfl, rfl⟩)

theorem own_lit1 (w : World) (a : Int) : (w.alloc (.cells #[.int .i64 a] 3)).ownsRow w.heap.size 3 1 (.slice (some ⟨w.heap.size, 0, none⟩) 1 1) 1 (ci [a]) :=
  ⟨rfl, Or.inr ⟨w.heap.size, 1, _, rfl, Nat.le_refl _, heap_alloc_new w _, Nat.le_refl _, by unfold maxLen; omega, rfl, rfl⟩⟩
theorem own_lit2 (w : World) (a b : Int) : (w.alloc (.cells #[.int .i64 a, .int .i64 b] 3)).ownsRow w.heap.size 3 1 (.slice (some ⟨w.heap.size, 0, none⟩) 2 2) 2 (ci [a, b]) :=
  ⟨rfl, Or.inr ⟨w.heap.size, 2, _, rfl, Nat.le_refl _, heap_alloc_new w _, Nat.le_refl _, by unfold maxLen; omega, rfl, rfl⟩⟩
theorem own_lit3 (w : World) (a b c : Int) : (w.alloc (.cells #[.int .i64 a, .int .i64 b, .int .i64 c] 3)).ownsRow w.heap.size 3 1 (.slice (some ⟨w.heap.size, 0, none⟩) 3 3) 3 (ci [a, b, c]) :=
  ⟨rfl, Or.inr ⟨w.heap.size, 3, _, rfl, Nat.le_refl _, heap_alloc_new w _, Nat.le_refl _, by unfold maxLen; omega, rfl, rfl⟩⟩
theorem own_lit4 (w : World) (a b c d : Int) : (w.alloc (.cells #[.int .i64 a, .int .i64 b, .int .i64 c, .int .i64 d] 3)).ownsRow w.heap.size 3 1 (.slice (some ⟨w.heap.size, 0, none⟩) 4 4) 4 (ci [a, b, c, d]) :=
  ⟨rfl, Or.inr ⟨w.heap.size, 4, _, rfl, Nat.le_refl _, heap_alloc_new w _, Nat.le_refl _, by unfold maxLen; omega, rfl, rfl⟩⟩

theorem rnumbers_1 (f t g s b p : Int) (u : ByteArray) (i tm : Int) (w : World) :
    Calls Try.prog 49 #[.agg #[.int .i64 f, .int .i64 t, .int .u8 1, .int .i64 g, .int .i64 s, .int .i64 b, .int .i64 p, .string u, .int .i64 i, .int .i64 tm]] w fun e w' => ∃ A c, e = .returned (.slice A 6 c) ∧ w'.ownsRow w.heap.size 3 1 (.slice A 6 c) 6 (ci [f, t, 1, g, s, b]) ∧ Below w.heap.size w w' := by
  have B0 := Lib.hid ((Below.refl _ w).alloc (Nat.le_refl w.heap.size) (.cells #[.int .i64 f, .int .i64 t, .int .u8 1, .int .i64 g, .int .i64 s, .int .i64 b, .int .i64 p, .string u, .int .i64 i, .int .i64 tm] 23))
  have o0 := own_lit4 (w.alloc (.cells #[.int .i64 f, .int .i64 t, .int .u8 1, .int .i64 g, .int .i64 s, .int .i64 b, .int .i64 p, .string u, .int .i64 i, .int .i64 tm] 23)) f t 1 g
  simp only [World.size_alloc] at o0
  have B1 := Lib.hid (B0.out.alloc B0.out.size (.cells #[.int .i64 f, .int .i64 t, .int .i64 1, .int .i64 g] 3))
  have HO := Lib.hid (own_kept o0 ((Below.refl _ _).alloc (Nat.le_refl _) (.cells #[.int .i64 s, .int .i64 b] 3)))
  have o1 := own_lit2 ((w.alloc (.cells #[.int .i64 f, .int .i64 t, .int .u8 1, .int .i64 g, .int .i64 s, .int .i64 b, .int .i64 p, .string u, .int .i64 i, .int .i64 tm] 23)).alloc (.cells #[.int .i64 f, .int .i64 t, .int .i64 1, .int .i64 g] 3)) s b
  have HR := Lib.hid (Reads.of_own o1)
  have B2 := Lib.hid (B1.out.alloc B1.out.size (.cells #[.int .i64 s, .int .i64 b] 3))
  simp only [World.size_alloc] at HR
  clear o0 o1
  go_enter Try.func49, Try.ntmps49
  go_wp2_with (at_builtin; refine app_is rfl (.tmp 20) (.tmp 25) rfl (w.heap.size + 1) _ 4 [f, t, 1, g] rfl HO.out _ _ 2 _ [s, b] rfl HR.out ?d1 ?d2 ?_)
  case d1 => omega
  case d2 => simp only [World.size_alloc]; omega
  intro v3 w3 ho hg
  obtain ⟨A3, c3, rfl, -, -, -⟩ := own_form ho
  have B3 := Lib.hid (B2.out.trans (hg.below B2.out.size (fun k hk => by have := (HO.out.lt k hk).1; omega)))
  have HO2 := Lib.hid ho
  clear ho hg
  go_wp2
  go_ret
  exact ⟨_, _, rfl, own_mono HO2.out (by omega), B3.out⟩
theorem rnumbers_2 (f t g s b p : Int) (u : ByteArray) (i tm : Int) (w : World) :
    Calls Try.prog 49 #[.agg #[.int .i64 f, .int .i64 t, .int .u8 2, .int .i64 g, .int .i64 s, .int .i64 b, .int .i64 p, .string u, .int .i64 i, .int .i64 tm]] w fun e w' => ∃ A c, e = .returned (.slice A 7 c) ∧ w'.ownsRow w.heap.size 3 1 (.slice A 7 c) 7 (ci [f, t, 2, g, s, b, p]) ∧ Below w.heap.size w w' := by
  have B0 := Lib.hid ((Below.refl _ w).alloc (Nat.le_refl w.heap.size) (.cells #[.int .i64 f, .int .i64 t, .int .u8 2, .int .i64 g, .int .i64 s, .int .i64 b, .int .i64 p, .string u, .int .i64 i, .int .i64 tm] 23))
  have o0 := own_lit4 (w.alloc (.cells #[.int .i64 f, .int .i64 t, .int .u8 2, .int .i64 g, .int .i64 s, .int .i64 b, .int .i64 p, .string u, .int .i64 i, .int .i64 tm] 23)) f t 2 g
  simp only [World.size_alloc] at o0
  have B1 := Lib.hid (B0.out.alloc B0.out.size (.cells #[.int .i64 f, .int .i64 t, .int .i64 2, .int .i64 g] 3))
  have HO := Lib.hid (own_kept o0 ((Below.refl _ _).alloc (Nat.le_refl _) (.cells #[.int .i64 s, .int .i64 b, .int .i64 p] 3)))
  have o1 := own_lit3 ((w.alloc (.cells #[.int .i64 f, .int .i64 t, .int .u8 2, .int .i64 g, .int .i64 s, .int .i64 b, .int .i64 p, .string u, .int .i64 i, .int .i64 tm] 23)).alloc (.cells #[.int .i64 f, .int .i64 t, .int .i64 2, .int .i64 g] 3)) s b p
  have HR := Lib.hid (Reads.of_own o1)
  have B2 := Lib.hid (B1.out.alloc B1.out.size (.cells #[.int .i64 s, .int .i64 b, .int .i64 p] 3))
  simp only [World.size_alloc] at HR
  clear o0 o1
  go_enter Try.func49, Try.ntmps49
  go_wp2_with (at_builtin; refine app_is rfl (.tmp 30) (.tmp 37) rfl (w.heap.size + 1) _ 4 [f, t, 2, g] rfl HO.out _ _ 3 _ [s, b, p] rfl HR.out ?d1 ?d2 ?_)
  case d1 => omega
  case d2 => simp only [World.size_alloc]; omega
  intro v3 w3 ho hg
  obtain ⟨A3, c3, rfl, -, -, -⟩ := own_form ho
  have B3 := Lib.hid (B2.out.trans (hg.below B2.out.size (fun k hk => by have := (HO.out.lt k hk).1; omega)))
  have HO2 := Lib.hid ho
  clear ho hg
  go_wp2
  go_ret
  exact ⟨_, _, rfl, own_mono HO2.out (by omega), B3.out⟩
theorem rnumbers_3 (f t g s b p : Int) (u : ByteArray) (i tm : Int) (w : World) :
    Calls Try.prog 49 #[.agg #[.int .i64 f, .int .i64 t, .int .u8 3, .int .i64 g, .int .i64 s, .int .i64 b, .int .i64 p, .string u, .int .i64 i, .int .i64 tm]] w fun e w' => ∃ A c, e = .returned (.slice A 6 c) ∧ w'.ownsRow w.heap.size 3 1 (.slice A 6 c) 6 (ci [f, t, 3, g, s, b]) ∧ Below w.heap.size w w' := by
  have B0 := Lib.hid ((Below.refl _ w).alloc (Nat.le_refl w.heap.size) (.cells #[.int .i64 f, .int .i64 t, .int .u8 3, .int .i64 g, .int .i64 s, .int .i64 b, .int .i64 p, .string u, .int .i64 i, .int .i64 tm] 23))
  have o0 := own_lit4 (w.alloc (.cells #[.int .i64 f, .int .i64 t, .int .u8 3, .int .i64 g, .int .i64 s, .int .i64 b, .int .i64 p, .string u, .int .i64 i, .int .i64 tm] 23)) f t 3 g
  simp only [World.size_alloc] at o0
  have B1 := Lib.hid (B0.out.alloc B0.out.size (.cells #[.int .i64 f, .int .i64 t, .int .i64 3, .int .i64 g] 3))
  have HO := Lib.hid (own_kept o0 ((Below.refl _ _).alloc (Nat.le_refl _) (.cells #[.int .i64 s, .int .i64 b] 3)))
  have o1 := own_lit2 ((w.alloc (.cells #[.int .i64 f, .int .i64 t, .int .u8 3, .int .i64 g, .int .i64 s, .int .i64 b, .int .i64 p, .string u, .int .i64 i, .int .i64 tm] 23)).alloc (.cells #[.int .i64 f, .int .i64 t, .int .i64 3, .int .i64 g] 3)) s b
  have HR := Lib.hid (Reads.of_own o1)
  have B2 := Lib.hid (B1.out.alloc B1.out.size (.cells #[.int .i64 s, .int .i64 b] 3))
  simp only [World.size_alloc] at HR
  clear o0 o1
  go_enter Try.func49, Try.ntmps49
  go_wp2_with (at_builtin; refine app_is rfl (.tmp 20) (.tmp 25) rfl (w.heap.size + 1) _ 4 [f, t, 3, g] rfl HO.out _ _ 2 _ [s, b] rfl HR.out ?d1 ?d2 ?_)
  case d1 => omega
  case d2 => simp only [World.size_alloc]; omega
  intro v3 w3 ho hg
  obtain ⟨A3, c3, rfl, -, -, -⟩ := own_form ho
  have B3 := Lib.hid (B2.out.trans (hg.below B2.out.size (fun k hk => by have := (HO.out.lt k hk).1; omega)))
  have HO2 := Lib.hid ho
  clear ho hg
  go_wp2
  go_ret
  exact ⟨_, _, rfl, own_mono HO2.out (by omega), B3.out⟩
theorem rnumbers_4 (f t g s b p : Int) (u : ByteArray) (i tm : Int) (w : World) :
    Calls Try.prog 49 #[.agg #[.int .i64 f, .int .i64 t, .int .u8 4, .int .i64 g, .int .i64 s, .int .i64 b, .int .i64 p, .string u, .int .i64 i, .int .i64 tm]] w fun e w' => ∃ A c, e = .returned (.slice A 6 c) ∧ w'.ownsRow w.heap.size 3 1 (.slice A 6 c) 6 (ci [f, t, 4, g, s, b]) ∧ Below w.heap.size w w' := by
  have B0 := Lib.hid ((Below.refl _ w).alloc (Nat.le_refl w.heap.size) (.cells #[.int .i64 f, .int .i64 t, .int .u8 4, .int .i64 g, .int .i64 s, .int .i64 b, .int .i64 p, .string u, .int .i64 i, .int .i64 tm] 23))
  have o0 := own_lit4 (w.alloc (.cells #[.int .i64 f, .int .i64 t, .int .u8 4, .int .i64 g, .int .i64 s, .int .i64 b, .int .i64 p, .string u, .int .i64 i, .int .i64 tm] 23)) f t 4 g
  simp only [World.size_alloc] at o0
  have B1 := Lib.hid (B0.out.alloc B0.out.size (.cells #[.int .i64 f, .int .i64 t, .int .i64 4, .int .i64 g] 3))
  have HO := Lib.hid (own_kept o0 ((Below.refl _ _).alloc (Nat.le_refl _) (.cells #[.int .i64 s, .int .i64 b] 3)))
  have o1 := own_lit2 ((w.alloc (.cells #[.int .i64 f, .int .i64 t, .int .u8 4, .int .i64 g, .int .i64 s, .int .i64 b, .int .i64 p, .string u, .int .i64 i, .int .i64 tm] 23)).alloc (.cells #[.int .i64 f, .int .i64 t, .int .i64 4, .int .i64 g] 3)) s b
  have HR := Lib.hid (Reads.of_own o1)
  have B2 := Lib.hid (B1.out.alloc B1.out.size (.cells #[.int .i64 s, .int .i64 b] 3))
  simp only [World.size_alloc] at HR
  clear o0 o1
  go_enter Try.func49, Try.ntmps49
  go_wp2_with (at_builtin; refine app_is rfl (.tmp 20) (.tmp 25) rfl (w.heap.size + 1) _ 4 [f, t, 4, g] rfl HO.out _ _ 2 _ [s, b] rfl HR.out ?d1 ?d2 ?_)
  case d1 => omega
  case d2 => simp only [World.size_alloc]; omega
  intro v3 w3 ho hg
  obtain ⟨A3, c3, rfl, -, -, -⟩ := own_form ho
  have B3 := Lib.hid (B2.out.trans (hg.below B2.out.size (fun k hk => by have := (HO.out.lt k hk).1; omega)))
  have HO2 := Lib.hid ho
  clear ho hg
  go_wp2
  go_ret
  exact ⟨_, _, rfl, own_mono HO2.out (by omega), B3.out⟩
theorem rnumbers_5 (f t g s b p : Int) (u : ByteArray) (i tm : Int) (w : World) :
    Calls Try.prog 49 #[.agg #[.int .i64 f, .int .i64 t, .int .u8 5, .int .i64 g, .int .i64 s, .int .i64 b, .int .i64 p, .string u, .int .i64 i, .int .i64 tm]] w fun e w' => ∃ A c, e = .returned (.slice A 7 c) ∧ w'.ownsRow w.heap.size 3 1 (.slice A 7 c) 7 (ci [f, t, 5, g, s, b, p]) ∧ Below w.heap.size w w' := by
  have B0 := Lib.hid ((Below.refl _ w).alloc (Nat.le_refl w.heap.size) (.cells #[.int .i64 f, .int .i64 t, .int .u8 5, .int .i64 g, .int .i64 s, .int .i64 b, .int .i64 p, .string u, .int .i64 i, .int .i64 tm] 23))
  have o0 := own_lit4 (w.alloc (.cells #[.int .i64 f, .int .i64 t, .int .u8 5, .int .i64 g, .int .i64 s, .int .i64 b, .int .i64 p, .string u, .int .i64 i, .int .i64 tm] 23)) f t 5 g
  simp only [World.size_alloc] at o0
  have B1 := Lib.hid (B0.out.alloc B0.out.size (.cells #[.int .i64 f, .int .i64 t, .int .i64 5, .int .i64 g] 3))
  have HO := Lib.hid (own_kept o0 ((Below.refl _ _).alloc (Nat.le_refl _) (.cells #[.int .i64 s, .int .i64 b, .int .i64 p] 3)))
  have o1 := own_lit3 ((w.alloc (.cells #[.int .i64 f, .int .i64 t, .int .u8 5, .int .i64 g, .int .i64 s, .int .i64 b, .int .i64 p, .string u, .int .i64 i, .int .i64 tm] 23)).alloc (.cells #[.int .i64 f, .int .i64 t, .int .i64 5, .int .i64 g] 3)) s b p
  have HR := Lib.hid (Reads.of_own o1)
  have B2 := Lib.hid (B1.out.alloc B1.out.size (.cells #[.int .i64 s, .int .i64 b, .int .i64 p] 3))
  simp only [World.size_alloc] at HR
  clear o0 o1
  go_enter Try.func49, Try.ntmps49
  go_wp2_with (at_builtin; refine app_is rfl (.tmp 30) (.tmp 37) rfl (w.heap.size + 1) _ 4 [f, t, 5, g] rfl HO.out _ _ 3 _ [s, b, p] rfl HR.out ?d1 ?d2 ?_)
  case d1 => omega
  case d2 => simp only [World.size_alloc]; omega
  intro v3 w3 ho hg
  obtain ⟨A3, c3, rfl, -, -, -⟩ := own_form ho
  have B3 := Lib.hid (B2.out.trans (hg.below B2.out.size (fun k hk => by have := (HO.out.lt k hk).1; omega)))
  have HO2 := Lib.hid ho
  clear ho hg
  go_wp2
  go_ret
  exact ⟨_, _, rfl, own_mono HO2.out (by omega), B3.out⟩
theorem rnumbers_6 (f t g s b p : Int) (u : ByteArray) (i tm : Int) (w : World) :
    Calls Try.prog 49 #[.agg #[.int .i64 f, .int .i64 t, .int .u8 6, .int .i64 g, .int .i64 s, .int .i64 b, .int .i64 p, .string u, .int .i64 i, .int .i64 tm]] w fun e w' => ∃ A c, e = .returned (.slice A 5 c) ∧ w'.ownsRow w.heap.size 3 1 (.slice A 5 c) 5 (ci [f, t, 6, g, s]) ∧ Below w.heap.size w w' := by
  have B0 := Lib.hid ((Below.refl _ w).alloc (Nat.le_refl w.heap.size) (.cells #[.int .i64 f, .int .i64 t, .int .u8 6, .int .i64 g, .int .i64 s, .int .i64 b, .int .i64 p, .string u, .int .i64 i, .int .i64 tm] 23))
  have o0 := own_lit4 (w.alloc (.cells #[.int .i64 f, .int .i64 t, .int .u8 6, .int .i64 g, .int .i64 s, .int .i64 b, .int .i64 p, .string u, .int .i64 i, .int .i64 tm] 23)) f t 6 g
  simp only [World.size_alloc] at o0
  have B1 := Lib.hid (B0.out.alloc B0.out.size (.cells #[.int .i64 f, .int .i64 t, .int .i64 6, .int .i64 g] 3))
  have HO := Lib.hid (own_kept o0 ((Below.refl _ _).alloc (Nat.le_refl _) (.cells #[.int .i64 s] 3)))
  have o1 := own_lit1 ((w.alloc (.cells #[.int .i64 f, .int .i64 t, .int .u8 6, .int .i64 g, .int .i64 s, .int .i64 b, .int .i64 p, .string u, .int .i64 i, .int .i64 tm] 23)).alloc (.cells #[.int .i64 f, .int .i64 t, .int .i64 6, .int .i64 g] 3)) s
  have HR := Lib.hid (Reads.of_own o1)
  have B2 := Lib.hid (B1.out.alloc B1.out.size (.cells #[.int .i64 s] 3))
  simp only [World.size_alloc] at HR
  clear o0 o1
  go_enter Try.func49, Try.ntmps49
  go_wp2_with (at_builtin; refine app_is rfl (.tmp 42) (.tmp 45) rfl (w.heap.size + 1) _ 4 [f, t, 6, g] rfl HO.out _ _ 1 _ [s] rfl HR.out ?d1 ?d2 ?_)
  case d1 => omega
  case d2 => simp only [World.size_alloc]; omega
  intro v3 w3 ho hg
  obtain ⟨A3, c3, rfl, -, -, -⟩ := own_form ho
  have B3 := Lib.hid (B2.out.trans (hg.below B2.out.size (fun k hk => by have := (HO.out.lt k hk).1; omega)))
  have HO2 := Lib.hid ho
  clear ho hg
  go_wp2
  go_ret
  exact ⟨_, _, rfl, own_mono HO2.out (by omega), B3.out⟩
theorem rnumbers_7 (f t g s b p : Int) (u : ByteArray) (i tm : Int) (w : World) :
    Calls Try.prog 49 #[.agg #[.int .i64 f, .int .i64 t, .int .u8 7, .int .i64 g, .int .i64 s, .int .i64 b, .int .i64 p, .string u, .int .i64 i, .int .i64 tm]] w fun e w' => ∃ A c, e = .returned (.slice A 5 c) ∧ w'.ownsRow w.heap.size 3 1 (.slice A 5 c) 5 (ci [f, t, 7, g, s]) ∧ Below w.heap.size w w' := by
  have B0 := Lib.hid ((Below.refl _ w).alloc (Nat.le_refl w.heap.size) (.cells #[.int .i64 f, .int .i64 t, .int .u8 7, .int .i64 g, .int .i64 s, .int .i64 b, .int .i64 p, .string u, .int .i64 i, .int .i64 tm] 23))
  have o0 := own_lit4 (w.alloc (.cells #[.int .i64 f, .int .i64 t, .int .u8 7, .int .i64 g, .int .i64 s, .int .i64 b, .int .i64 p, .string u, .int .i64 i, .int .i64 tm] 23)) f t 7 g
  simp only [World.size_alloc] at o0
  have B1 := Lib.hid (B0.out.alloc B0.out.size (.cells #[.int .i64 f, .int .i64 t, .int .i64 7, .int .i64 g] 3))
  have HO := Lib.hid (own_kept o0 ((Below.refl _ _).alloc (Nat.le_refl _) (.cells #[.int .i64 s] 3)))
  have o1 := own_lit1 ((w.alloc (.cells #[.int .i64 f, .int .i64 t, .int .u8 7, .int .i64 g, .int .i64 s, .int .i64 b, .int .i64 p, .string u, .int .i64 i, .int .i64 tm] 23)).alloc (.cells #[.int .i64 f, .int .i64 t, .int .i64 7, .int .i64 g] 3)) s
  have HR := Lib.hid (Reads.of_own o1)
  have B2 := Lib.hid (B1.out.alloc B1.out.size (.cells #[.int .i64 s] 3))
  simp only [World.size_alloc] at HR
  clear o0 o1
  go_enter Try.func49, Try.ntmps49
  go_wp2_with (at_builtin; refine app_is rfl (.tmp 42) (.tmp 45) rfl (w.heap.size + 1) _ 4 [f, t, 7, g] rfl HO.out _ _ 1 _ [s] rfl HR.out ?d1 ?d2 ?_)
  case d1 => omega
  case d2 => simp only [World.size_alloc]; omega
  intro v3 w3 ho hg
  obtain ⟨A3, c3, rfl, -, -, -⟩ := own_form ho
  have B3 := Lib.hid (B2.out.trans (hg.below B2.out.size (fun k hk => by have := (HO.out.lt k hk).1; omega)))
  have HO2 := Lib.hid ho
  clear ho hg
  go_wp2
  go_ret
  exact ⟨_, _, rfl, own_mono HO2.out (by omega), B3.out⟩
theorem rnumbers_8 (f t g s b p : Int) (u : ByteArray) (i tm : Int) (w : World) :
    Calls Try.prog 49 #[.agg #[.int .i64 f, .int .i64 t, .int .u8 8, .int .i64 g, .int .i64 s, .int .i64 b, .int .i64 p, .string u, .int .i64 i, .int .i64 tm]] w fun e w' => ∃ A c, e = .returned (.slice A 6 c) ∧ w'.ownsRow w.heap.size 3 1 (.slice A 6 c) 6 (ci [f, t, 8, g, i, tm]) ∧ Below w.heap.size w w' := by
  have B0 := Lib.hid ((Below.refl _ w).alloc (Nat.le_refl w.heap.size) (.cells #[.int .i64 f, .int .i64 t, .int .u8 8, .int .i64 g, .int .i64 s, .int .i64 b, .int .i64 p, .string u, .int .i64 i, .int .i64 tm] 23))
  have o0 := own_lit4 (w.alloc (.cells #[.int .i64 f, .int .i64 t, .int .u8 8, .int .i64 g, .int .i64 s, .int .i64 b, .int .i64 p, .string u, .int .i64 i, .int .i64 tm] 23)) f t 8 g
  simp only [World.size_alloc] at o0
  have B1 := Lib.hid (B0.out.alloc B0.out.size (.cells #[.int .i64 f, .int .i64 t, .int .i64 8, .int .i64 g] 3))
  have HO := Lib.hid (own_kept o0 ((Below.refl _ _).alloc (Nat.le_refl _) (.cells #[.int .i64 i, .int .i64 tm] 3)))
  have o1 := own_lit2 ((w.alloc (.cells #[.int .i64 f, .int .i64 t, .int .u8 8, .int .i64 g, .int .i64 s, .int .i64 b, .int .i64 p, .string u, .int .i64 i, .int .i64 tm] 23)).alloc (.cells #[.int .i64 f, .int .i64 t, .int .i64 8, .int .i64 g] 3)) i tm
  have HR := Lib.hid (Reads.of_own o1)
  have B2 := Lib.hid (B1.out.alloc B1.out.size (.cells #[.int .i64 i, .int .i64 tm] 3))
  simp only [World.size_alloc] at HR
  clear o0 o1
  go_enter Try.func49, Try.ntmps49
  go_wp2_with (at_builtin; refine app_is rfl (.tmp 49) (.tmp 54) rfl (w.heap.size + 1) _ 4 [f, t, 8, g] rfl HO.out _ _ 2 _ [i, tm] rfl HR.out ?d1 ?d2 ?_)
  case d1 => omega
  case d2 => simp only [World.size_alloc]; omega
  intro v3 w3 ho hg
  obtain ⟨A3, c3, rfl, -, -, -⟩ := own_form ho
  have B3 := Lib.hid (B2.out.trans (hg.below B2.out.size (fun k hk => by have := (HO.out.lt k hk).1; omega)))
  have HO2 := Lib.hid ho
  clear ho hg
  go_wp2
  go_ret
  exact ⟨_, _, rfl, own_mono HO2.out (by omega), B3.out⟩
theorem rnumbers_9 (f t g s b p : Int) (u : ByteArray) (i tm : Int) (w : World) :
    Calls Try.prog 49 #[.agg #[.int .i64 f, .int .i64 t, .int .u8 9, .int .i64 g, .int .i64 s, .int .i64 b, .int .i64 p, .string u, .int .i64 i, .int .i64 tm]] w fun e w' => ∃ A c, e = .returned (.slice A 4 c) ∧ w'.ownsRow w.heap.size 3 1 (.slice A 4 c) 4 (ci [f, t, 9, g]) ∧ Below w.heap.size w w' := by
  have B0 := Lib.hid ((Below.refl _ w).alloc (Nat.le_refl w.heap.size) (.cells #[.int .i64 f, .int .i64 t, .int .u8 9, .int .i64 g, .int .i64 s, .int .i64 b, .int .i64 p, .string u, .int .i64 i, .int .i64 tm] 23))
  have o0 := own_lit4 (w.alloc (.cells #[.int .i64 f, .int .i64 t, .int .u8 9, .int .i64 g, .int .i64 s, .int .i64 b, .int .i64 p, .string u, .int .i64 i, .int .i64 tm] 23)) f t 9 g
  simp only [World.size_alloc] at o0
  have B1 := Lib.hid (B0.out.alloc B0.out.size (.cells #[.int .i64 f, .int .i64 t, .int .i64 9, .int .i64 g] 3))
  have HO := Lib.hid o0
  clear o0
  go_enter Try.func49, Try.ntmps49
  go_wp2
  go_ret
  exact ⟨_, _, rfl, own_mono HO.out (by omega), B1.out⟩

theorem rnumbers_any (f t k g s b p : Int) (u : ByteArray) (i tm : Int) (w : World) (h1 : 1 ≤ k) (h2 : k ≤ 9) (n : Nat) (hn : (Wp.numsM ⟨f, t, k, g, s, b, p, u.data.toList, i, tm⟩).length = n) :
    Calls Try.prog 49 #[.agg #[.int .i64 f, .int .i64 t, .int .u8 k, .int .i64 g, .int .i64 s, .int .i64 b, .int .i64 p, .string u, .int .i64 i, .int .i64 tm]] w fun e w' => ∃ A c, e = .returned (.slice A n c) ∧ w'.ownsRow w.heap.size 3 1 (.slice A n c) n (ci (Wp.numsM ⟨f, t, k, g, s, b, p, u.data.toList, i, tm⟩)) ∧ Below w.heap.size w w' := by
  have hk : k = 1 ∨ k = 2 ∨ k = 3 ∨ k = 4 ∨ k = 5 ∨ k = 6 ∨ k = 7 ∨ k = 8 ∨ k = 9 := by omega
  subst hn
  rcases hk with rfl | rfl | rfl | rfl | rfl | rfl | rfl | rfl | rfl
  · exact rnumbers_1 f t g s b p u i tm w
  · exact rnumbers_2 f t g s b p u i tm w
  · exact rnumbers_3 f t g s b p u i tm w
  · exact rnumbers_4 f t g s b p u i tm w
  · exact rnumbers_5 f t g s b p u i tm w
  · exact rnumbers_6 f t g s b p u i tm w
  · exact rnumbers_7 f t g s b p u i tm w
  · exact rnumbers_8 f t g s b p u i tm w
  · exact rnumbers_9 f t g s b p u i tm w
end Go.Proofs.Ytdodfpjejjjciaa
