/-
  Appends onto a row of bytes of the call's own: one byte, a string, bytes that lie elsewhere: the laws for the walk, at this program's types.
-/
import Derived.Test.YtaoekfgeggopbaaBase
namespace Go.Proofs.Ytaoekfgeggopbaa
open Go.RowKit

theorem u8_info : (Try.prog.info? 5).map (fun i => (i.zero, i.size, i.bytes)) = some (some (.int .u8 0), 1, 1) := by kernel_rfl
theorem u8_size : ∀ w, (Go.sizeOf 5).run Try.prog w = .ok 1 w := by
  obtain ⟨i0, hi0, hz0, hz1, hz2⟩ := info_parts u8_info
  intro w
  simp [sizeOf, typeInfo, hi0, hz1]

theorem app_b1 {ops : Array Oper} {rest : List Oper} {o : Oper} {a : Act} {Q : Exit → Act → World → Prop} {w : World} (hgd : o.guard = none) (s x : Operand)
    (ho : o.op = .call { callee := .builtin .append, args := #[s, x], argTypes := #[46, 46] })
    (base : Nat) (v : Value) (n : Nat) (l : List UInt8) (hs : a.eval s = v) (hown : w.ownsRow base 5 1 v n (cb l)) (b : Int) (hx : a.eval x = .slice (some ⟨w.heap.size, 0, none⟩) 1 1)
    (hb0 : 0 ≤ b) (hb1 : b ≤ 255) (hn : n ≤ 1000000000000) (hbase : base ≤ w.heap.size)
    (h : ∀ v' w', w'.ownsRow base 5 1 v' (n + 1) (cb (l ++ [UInt8.ofNat b.toNat])) → Grew w w' v v' → wpList Try.prog ops Q rest (a.put o.dst v') w') :
    wpList Try.prog ops Q (o :: rest) a (w.alloc (.cells #[.int .u8 b] 5)) := by
  obtain ⟨i0, hi0, hz0, hz1, hz2⟩ := info_parts u8_info
  have hr := Reads.new w 5 #[.int .u8 b]
  refine wpList_append_any _ hgd s x 46 ho base 5 i0 _ 1 1 Try.underlying46 hi0 hz0 hz1 hz2 rfl (by decide) v n (cb l) hs (hown.alloc _) _ _ 1 1 [.int .u8 b] hx hr (by simp; rfl) (by simp only [maxLen]; omega) (by omega) (by simp; omega) ?_
  intro v' w' h1 h2 h3
  refine h v' w' ?_ ⟨grown_of_alloc h2, ?_⟩
  · have e1 : ((UInt8.ofNat b.toNat).toNat : Int) = b := by
      rw [UInt8.toNat_ofNat']
      have : b.toNat % 2 ^ 8 = b.toNat := Nat.mod_eq_of_lt (by omega)
      rw [this]
      omega
    have e2 : cb (l ++ [UInt8.ofNat b.toNat]) = cb l ++ [.int .u8 b] := by
      rw [cb_append]
      simp only [cb, List.map_cons, List.map_nil, e1]
    rw [e2]
    exact h1
  · rcases h3 with h3 | h3
    · exact Or.inl h3
    · exact Or.inr ⟨_, h3, by simp⟩

theorem app_bs {ops : Array Oper} {rest : List Oper} {o : Oper} {a : Act} {Q : Exit → Act → World → Prop} {w : World} (hgd : o.guard = none) (sl x : Operand)
    (ho : o.op = .call { callee := .builtin .append, args := #[sl, x], argTypes := #[46, 46] })
    (base : Nat) (v : Value) (n : Nat) (l : List UInt8) (hs : a.eval sl = v) (hown : w.ownsRow base 5 1 v n (cb l))
    (B : Nat) (A : Option Addr) (m c : Nat) (news : List UInt8) (hx : a.eval x = .slice A m c) (hr : Reads w B 1 A m (cb news))
    (hn : n + m ≤ 1000000000000) (hbase : base ≤ w.heap.size)
    (h : ∀ v' w', w'.ownsRow base 5 1 v' (n + m) (cb (l ++ news)) → Grew w w' v v' → wpList Try.prog ops Q rest (a.put o.dst v') w') :
    wpList Try.prog ops Q (o :: rest) a w := by
  obtain ⟨i0, hi0, hz0, hz1, hz2⟩ := info_parts u8_info
  refine wpList_append_any _ hgd sl x 46 ho base 5 i0 _ 1 1 Try.underlying46 hi0 hz0 hz1 hz2 rfl (by decide) v n (cb l) hs hown B A m c (cb news) hx hr (cb_one _) (by simp only [maxLen]; omega) (by omega) hbase ?_
  intro v' w' h1 h2 h3
  refine h v' w' (by rw [cb_append]; exact h1) ⟨h2, ?_⟩
  rcases h3 with h3 | h3
  · exact Or.inl h3
  · exact Or.inr ⟨_, h3, Nat.le_refl _⟩

theorem app_str {ops : Array Oper} {rest : List Oper} {o : Oper} {a : Act} {Q : Exit → Act → World → Prop} {w : World} (hgd : o.guard = none) (sl x : Operand)
    (ho : o.op = .call { callee := .builtin .append, args := #[sl, x], argTypes := #[46, 9] })
    (base : Nat) (v : Value) (n : Nat) (l : List UInt8) (hs : a.eval sl = v) (hown : w.ownsRow base 5 1 v n (cb l)) (s : ByteArray) (hx : a.eval x = .string s)
    (hn : n + s.size ≤ 1000000000000) (hbase : base ≤ w.heap.size)
    (h : ∀ v' w', w'.ownsRow base 5 1 v' (n + s.size) (cb (l ++ s.data.toList)) → w.grownBy w' v.ownBlock → wpList Try.prog ops Q rest (a.put o.dst v') w') :
    wpList Try.prog ops Q (o :: rest) a w := by
  obtain ⟨i0, hi0, hz0, hz1, hz2⟩ := info_parts u8_info
  refine Lib.wpList_append_own_string _ hgd sl x 46 9 ho base 5 i0 Try.underlying46 Try.underlying9 hi0 hz0 hz1 hz2 v n (cb l) hs hown s hx (by simp only [maxLen]; omega) (by omega) hbase ?_
  intro v' w' h1 h2 _
  exact h v' w' (by rw [cb_append]; exact h1) h2
end Go.Proofs.Ytaoekfgeggopbaa
