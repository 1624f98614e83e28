/-
  Layer 24: two lists of mail joined in new memory (slices.Concat, slices.Grow).
-/
import Derived.Test.YtmchnjnknnolmaaNetW
import Derived.Lib.AppendZerosOnto
namespace Go.Proofs.Ytmchnjnknnolmaa
open Go.RowKit Bal
set_option maxHeartbeats 4000000
set_option maxRecDepth 100000
set_option linter.unusedVariables false
set_option linter.unusedSimpArgs false

theorem own_formN {w : World} {base n size : Nat} {e : TypeId} {v : Value} {xs : List Value} (h : w.ownsRow base e size v n xs) : ∃ A c, v = .slice A n c ∧ Reads w w.heap.size size A n xs ∧ n ≤ c ∧ c ≤ maxLen := by
  rcases h.2 with ⟨rfl, rfl⟩ | ⟨g, cap, cur, rfl, _, _, hc, hm, _⟩
  · exact ⟨none, 0, rfl, Reads.of_own h, Nat.le_refl _, Nat.zero_le _⟩
  · exact ⟨_, cap, rfl, Reads.of_own h, hc, hm⟩
def zMail : Value := .agg #[.int .i64 0, .int .i64 0, .int .u8 0, .int .i64 0, .int .i64 0, .int .i64 0, .int .i64 0, .string ⟨#[]⟩, .int .i64 0, .int .i64 0]
theorem mail_info : (Try.prog.info? 25).map (fun i => (i.zero, i.size, i.bytes)) = some (some zMail, 10, 88) := by kernel_rfl
theorem mail_size : ∀ w, (Go.sizeOf 25).run Try.prog w = .ok 10 w := by
  obtain ⟨i0, hi0, hz0, hz1, hz2⟩ := info_parts mail_info
  intro w
  simp [sizeOf, typeInfo, hi0, hz1]
theorem app_ms {ops : Array Oper} {rest : List Oper} {o : Oper} {a : Act} {Q : Exit → Act → World → Prop} {w : World} (hgd : o.guard = none) (sl x : Operand)
    (ho : o.op = .call { callee := .builtin .append, args := #[sl, x], argTypes := #[22, 22] })
    (base : Nat) (v : Value) (n : Nat) (l : List Wp.Mail) (hs : a.eval sl = v) (hown : w.ownsRow base 25 10 v n (cm l))
    (B : Nat) (A : Option Addr) (m c : Nat) (news : List Wp.Mail) (hx : a.eval x = .slice A m c) (hr : Reads w B 10 A m (cm news))
    (hn : n + m ≤ 1000000000) (hbase : base ≤ w.heap.size)
    (h : ∀ v' w', w'.ownsRow base 25 10 v' (n + m) (cm (l ++ news)) → Grew w w' v v' → wpList Try.prog ops Q rest (a.put o.dst v') w') :
    wpList Try.prog ops Q (o :: rest) a w := by
  obtain ⟨i0, hi0, hz0, hz1, hz2⟩ := info_parts mail_info
  refine wpList_append_any _ hgd sl x 22 ho base 25 i0 _ 10 88 Try.underlying22 hi0 hz0 hz1 hz2 rfl (by decide) v n (cm l) hs hown B A m c (cm news) hx hr (cm_one _) (by simp only [maxLen]; omega) (by omega) hbase ?_
  intro v' w' h1 h2 h3
  refine h v' w' (by rw [cm_append]; exact h1) ⟨h2, ?_⟩
  rcases h3 with h3 | h3
  · exact Or.inl h3
  · exact Or.inr ⟨_, h3, Nat.le_refl _⟩

def gcap (w : World) (n : Nat) : Nat := grownCap w (0 + n) 0 25
def gW (w : World) (n : Nat) : World := w.drew.alloc (.cells ((#[] : Array Value) ++ Builtin.zeroCells zMail.cells n ++ Builtin.zeroCells zMail.cells (gcap w n - (0 + n))) 25)
theorem gcap_ge (w : World) (n : Nat) : n ≤ gcap w n := by have := grownCap_ge w (0 + n) 0 25; unfold gcap; omega
theorem gcap_le (w : World) (n : Nat) (h : n ≤ 1000000) : gcap w n ≤ maxLen := grownCap_le_maxLen _ _ _ _ (by simp only [maxLen]; omega)
theorem run_grow (w : World) (n : Nat) (h0 : 0 < n) (hn : n ≤ 1000000) : (Builtin.append_ #[22, 3] 22 #[.slice none 0 0, .int .i64 (n : Int)]).run Try.prog w = .ok (.slice (some ⟨w.heap.size, 0, none⟩) n (gcap w n)) (gW w n) := by
  obtain ⟨i0, hi0, hz0, hz1, hz2⟩ := info_parts mail_info
  have := Lib.run_append_grow_zeros (P := Try.prog) w 22 3 22 25 i0 zMail .i64 .i64 Try.underlying22 Try.underlying3 hi0 hz0 none 0 0 [] (by simp [Builtin.firstCells]) n h0 (by omega) (by omega) (by omega) (by rw [hz2]; omega) (by
    rw [hz2]
    have e : Builtin.nextslicecap (0 + n) 0 = n := by unfold Builtin.nextslicecap; rw [if_pos (by omega), Nat.zero_add]
    rw [e]; omega)
  rw [Nat.zero_add] at this
  rw [this]
  simp only [gcap, gW, Nat.zero_add]
theorem gW_below (w : World) (n : Nat) : Below w.heap.size w (gW w n) := (Below.refl _ w).drew.alloc (Nat.le_refl _) _
theorem gW_own (w : World) (n : Nat) (hn : n ≤ 1000000) : (gW w n).ownsRow w.heap.size 25 10 (.slice (some ⟨w.heap.size, 0, none⟩) 0 (gcap w n)) 0 (cm []) := by
  refine ⟨rfl, Or.inr ⟨w.heap.size, gcap w n, _, rfl, Nat.le_refl _, heap_alloc_new w.drew _, Nat.zero_le _, gcap_le w n hn, ?_, by simp [cm]⟩⟩
  have h1 : zMail.cells.size = 10 := rfl
  have h2 := gcap_ge w n
  rw [Array.size_append, Array.size_append, size_zeroCells, size_zeroCells, h1]
  simp only [List.size_toArray, List.length_nil]
  omega
theorem app_grow {ops : Array Oper} {rest : List Oper} {o : Oper} {a : Act} {Q : Exit → Act → World → Prop} {w : World} (hgd : o.guard = none) (sl x : Operand)
    (ho : o.op = .call { callee := .builtin .append, args := #[sl, x], argTypes := #[22, 3] }) (hty : o.type = 22)
    (hs : a.eval sl = .slice none 0 0) (n : Nat) (hx : a.eval x = .int .i64 (n : Int)) (h0 : 0 < n) (hn : n ≤ 1000000)
    (h : wpList Try.prog ops Q rest (a.put o.dst (.slice (some ⟨w.heap.size, 0, none⟩) n (gcap w n))) (gW w n)) :
    wpList Try.prog ops Q (o :: rest) a w := by
  refine wpList_plain hgd fun _ hK => ?_
  have hrun := run_grow w n h0 hn
  unfold Oper.wp execOp
  simp only [ho, hty, resolve, invoke, builtin, Sem.run_bind, Sem.run_pure, Result.andThen_ok, List.map_toArray, List.map_cons, List.map_nil, hs, hx, hrun]
  exact hK _ _ h
theorem ngrow_any (n : Nat) (w : World) (hn : n ≤ 1000000) :
    Calls Try.prog 97 #[.slice none 0 0, .int .i64 (n : Int)] w fun e w' => ∃ A c, e = .returned (.slice A 0 c) ∧ w'.ownsRow w.heap.size 25 10 (.slice A 0 c) 0 (cm []) ∧ Below w.heap.size w w' := by
  rcases Nat.eq_zero_or_pos n with rfl | h0
  · go_enter Try.func97, Try.ntmps97
    go_wp2
    go_ret
    exact ⟨none, 0, rfl, World.ownsRow_nil _ _ _ _, Below.refl _ _⟩
  · have ho := Lib.hid (gW_own w n hn)
    have hb := Lib.hid (gW_below w n)
    have hq := gcap_ge w n
    have hs0 := fun W => run_sliceN_to (P := Try.prog) Try.underlying22 10 none 0 0 0 (Nat.le_refl _) W mail_size
    have hs1 := fun W => run_sliceN_to (P := Try.prog) Try.underlying22 10 (some ⟨w.heap.size, 0, none⟩) n (gcap w n) 0 (Nat.zero_le _) W mail_size
    rw [Int.natCast_zero] at hs0 hs1
    go_enter Try.func97, Try.ntmps97
    go_wp2_with (at_builtin; refine app_grow rfl (.tmp 20) (.tmp 21) rfl rfl rfl n rfl h0 hn ?_)
    generalize gcap w n = gc at *
    generalize gW w n = W1 at *
    go_wp2
    go_ret
    exact ⟨_, _, rfl, ho.out, hb.out⟩

def csum (k n m : Nat) : Nat := if k = 0 then 0 else if k = 1 then n else n + m
def ccat (k : Nat) (l m : List Wp.Mail) : List Wp.Mail := if k = 0 then [] else if k = 1 then l else l ++ m
theorem nconcat_any (g : Nat) (A A2 : Option Addr) (n c n2 c2 : Nat) (l l2 : List Wp.Mail) (w : World) (h0 : w.cell? ⟨g, 0, none⟩ = some (.slice A n c)) (h1 : w.cell? ⟨g, 1, none⟩ = some (.slice A2 n2 c2))
    (hr : Reads w w.heap.size 10 A n (cm l)) (hr2 : Reads w w.heap.size 10 A2 n2 (cm l2)) (hn : n + n2 ≤ 1000000) :
    Calls Try.prog 68 #[.slice (some ⟨g, 0, none⟩) 2 2] w fun e w' => ∃ A3 c3, e = .returned (.slice A3 (n + n2) c3) ∧ w'.ownsRow w.heap.size 25 10 (.slice A3 (n + n2) c3) (n + n2) (cm (l ++ l2)) ∧ Below w.heap.size w w' := by
  have hg := World.block_lt_of_cell? w _ h0
  simp only at hg
  have HR := Lib.hid hr
  have HR2 := Lib.hid hr2
  clear hr hr2
  go_enter Try.func68, Try.ntmps68
  go_wp2
  go_loop [3, 11] (fun x y => ∃ k : Nat, k ≤ 2 ∧ y = .int .i64 (k : Int) ∧ x = .int .i64 (csum k n n2 : Nat)) (fun _ y => 2 - (intOf y).toNat)
  case atStart => exact ⟨0, by omega, rfl, rfl⟩
  case round =>
    obtain ⟨k, hk, rfl, rfl⟩ := hrel
    obtain rfl | rfl | rfl : k = 0 ∨ k = 1 ∨ k = 2 := by omega
    · rw [show csum 0 n n2 = 0 from rfl]
      go_wp2
      go_round
      case rel => exact ⟨1, by omega, rfl, rfl⟩
      case measure => simp [intOf]
    · rw [show csum 1 n n2 = n from rfl]
      go_wp2
      go_round
      case rel => exact ⟨2, by omega, rfl, by simp [csum]⟩
      case measure => simp [intOf]
    · rw [show csum 2 n n2 = n + n2 from rfl]
      go_wp2_with fail
      refine (ngrow_any (n + n2) w (by omega)).mono ?_
      rintro e w1 ⟨A1, c1, rfl, ho, hb⟩
      have HO := Lib.hid ho
      have HB := Lib.hid hb
      have q0 : w1.cell? ⟨g, 0, none⟩ = some (.slice A n c) := (hb.cell (p := ⟨g, 0, none⟩) hg).trans h0
      have q1 : w1.cell? ⟨g, 1, none⟩ = some (.slice A2 n2 c2) := (hb.cell (p := ⟨g, 1, none⟩) hg).trans h1
      clear ho hb h0 h1
      go_wp2_with fail
      go_loopw [6, 27] (fun x y wr => ∃ k : Nat, k ≤ 2 ∧ y = .int .i64 (k : Int) ∧ wr.ownsRow w.heap.size 25 10 x (csum k n n2) (cm (ccat k l l2)) ∧ Below w.heap.size w wr ∧ w1.heap.size ≤ wr.heap.size ∧ wr.cell? ⟨g, 0, none⟩ = some (.slice A n c) ∧ wr.cell? ⟨g, 1, none⟩ = some (.slice A2 n2 c2)) (fun _ y _ => 2 - (intOf y).toNat)
      case atStart => exact ⟨0, by omega, rfl, HO.out, HB.out, Nat.le_refl _, q0, q1⟩
      case round =>
        clear q0 q1
        obtain ⟨k, hk, rfl, ho, hb, hz, q0, q1⟩ := hrel
        have HO2 := Lib.hid ho
        have HB2 := Lib.hid hb
        have R1 := Lib.hid (HR.out.below hb)
        have R2 := Lib.hid (HR2.out.below hb)
        clear ho hb
        obtain rfl | rfl | rfl : k = 0 ∨ k = 1 ∨ k = 2 := by omega
        · go_wp2_with (at_builtin; refine app_ms rfl (.tmp 31) (.tmp 32) rfl w.heap.size u6 0 [] rfl HO2.out w.heap.size A n c l rfl R1.out ?c1 ?c2 ?_)
          case c1 => omega
          case c2 => exact HB2.out.size
          intro v2 w2 o2 g2
          have O2 := Lib.hid o2
          have B2 := Lib.hid (HB2.out.trans (g2.belowOwn HO2.out HB2.out.size))
          have hz2 := g2.size
          have q02 := ((g2.belowOwn HO2.out HB2.out.size).cell (p := ⟨g, 0, none⟩) hg).trans q0
          have q12 := ((g2.belowOwn HO2.out HB2.out.size).cell (p := ⟨g, 1, none⟩) hg).trans q1
          clear o2 g2 q0 q1
          go_wp2
          go_roundw
          case rel => exact ⟨1, by omega, rfl, by have := O2.out; simpa [csum, ccat] using this, B2.out, by omega, q02, q12⟩
          case measure => simp [intOf]
        · go_wp2_with (at_builtin; refine app_ms rfl (.tmp 31) (.tmp 32) rfl w.heap.size u6 n l rfl HO2.out w.heap.size A2 n2 c2 l2 rfl R2.out ?d1 ?d2 ?_)
          case d1 => omega
          case d2 => exact HB2.out.size
          intro v2 w2 o2 g2
          have O2 := Lib.hid o2
          have B2 := Lib.hid (HB2.out.trans (g2.belowOwn HO2.out HB2.out.size))
          have hz2 := g2.size
          have q02 := ((g2.belowOwn HO2.out HB2.out.size).cell (p := ⟨g, 0, none⟩) hg).trans q0
          have q12 := ((g2.belowOwn HO2.out HB2.out.size).cell (p := ⟨g, 1, none⟩) hg).trans q1
          clear o2 g2 q0 q1
          go_wp2
          go_roundw
          case rel => exact ⟨2, by omega, rfl, by have := O2.out; simpa [csum, ccat] using this, B2.out, by omega, q02, q12⟩
          case measure => simp [intOf]
        · have O3 : Hid (wr.ownsRow w.heap.size 25 10 u6 (n + n2) (cm (l ++ l2))) := HO2.out
          obtain ⟨A3, c3, rfl, -, -, -⟩ := own_formN O3.out
          clear HO2
          go_wp2
          go_ret
          exact ⟨_, _, rfl, O3.out, HB2.out⟩
end Go.Proofs.Ytmchnjnknnolmaa
