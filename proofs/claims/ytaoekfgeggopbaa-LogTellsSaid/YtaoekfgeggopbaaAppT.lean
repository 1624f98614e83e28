/-
  Appends onto a row of strings of the call's own: the law for the walk, at this program's types.
-/
import Derived.Test.YtaoekfgeggopbaaBase
namespace Go.Proofs.Ytaoekfgeggopbaa
open Go.RowKit

theorem str_info : (Try.prog.info? 9).map (fun i => (i.zero, i.size, i.bytes)) = some (some (.string ⟨#[]⟩), 1, 16) := by kernel_rfl
theorem str_size : ∀ w, (Go.sizeOf 9).run Try.prog w = .ok 1 w := by
  obtain ⟨i0, hi0, hz0, hz1, hz2⟩ := info_parts str_info
  intro w
  simp [sizeOf, typeInfo, hi0, hz1]

theorem app_t1 {ops : Array Oper} {rest : List Oper} {o : Oper} {a : Act} {Q : Exit → Act → World → Prop} {w : World} (hgd : o.guard = none) (s x : Operand)
    (ho : o.op = .call { callee := .builtin .append, args := #[s, x], argTypes := #[50, 50] })
    (base : Nat) (v : Value) (n : Nat) (l : List ByteArray) (hs : a.eval s = v) (hown : w.ownsRow base 9 1 v n (ct l)) (b : ByteArray) (hx : a.eval x = .slice (some ⟨w.heap.size, 0, none⟩) 1 1)
    (hn : n ≤ 1000000000000) (hbase : base ≤ w.heap.size)
    (h : ∀ v' w', w'.ownsRow base 9 1 v' (n + 1) (ct (l ++ [b])) → Grew w w' v v' → wpList Try.prog ops Q rest (a.put o.dst v') w') :
    wpList Try.prog ops Q (o :: rest) a (w.alloc (.cells #[.string b] 9)) := by
  obtain ⟨i0, hi0, hz0, hz1, hz2⟩ := info_parts str_info
  have hr := Reads.new w 9 #[.string b]
  refine wpList_append_any _ hgd s x 50 ho base 9 i0 _ 1 16 Try.underlying50 hi0 hz0 hz1 hz2 rfl (by decide) v n (ct l) hs (hown.alloc _) _ _ 1 1 [.string b] hx hr (by simp; rfl) (by simp only [maxLen]; omega) (by omega) (by simp; omega) ?_
  intro v' w' h1 h2 h3
  refine h v' w' (by rw [ct_append]; exact h1) ⟨grown_of_alloc h2, ?_⟩
  rcases h3 with h3 | h3
  · exact Or.inl h3
  · exact Or.inr ⟨_, h3, by simp⟩
end Go.Proofs.Ytaoekfgeggopbaa
