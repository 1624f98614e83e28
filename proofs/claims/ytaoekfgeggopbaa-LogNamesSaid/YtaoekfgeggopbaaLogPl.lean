/-
  Plain laws of logs: a command behind a log; members may be; texts appended.
-/
import Derived.Test.YtaoekfgeggopbaaLogIn
import Derived.Test.YtaoekfgeggopbaaAppT
import Derived.Test.YtaoekfgeggopbaaTexts
namespace Go.Proofs.Ytaoekfgeggopbaa
open Go.RowKit
set_option maxHeartbeats 4000000
set_option maxRecDepth 100000
set_option linter.unusedVariables false
set_option linter.unusedSimpArgs false

theorem app_tx {ops : Array Oper} {rest : List Oper} {o : Oper} {a : Act} {Q : Exit → Act → World → Prop} {w : World} (hgd : o.guard = none) (sl x : Operand)
    (ho : o.op = .call { callee := .builtin .append, args := #[sl, x], argTypes := #[50, 50] })
    (base : Nat) (v : Value) (n : Nat) (l : List ByteArray) (hs : a.eval sl = v) (hown : w.ownsRow base 9 1 v n (ct l))
    (B : Nat) (A : Option Addr) (m c : Nat) (news : List ByteArray) (hx : a.eval x = .slice A m c) (hr : Reads w B 1 A m (ct news))
    (hn : n + m ≤ 1000000000) (hbase : base ≤ w.heap.size)
    (h : ∀ v' w', w'.ownsRow base 9 1 v' (n + m) (ct (l ++ news)) → Grew w w' v v' → wpList Try.prog ops Q rest (a.put o.dst v') w') :
    wpList Try.prog ops Q (o :: rest) a w := by
  obtain ⟨i0, hi0, hz0, hz1, hz2⟩ := info_parts str_info
  refine wpList_append_any _ hgd sl x 50 ho base 9 i0 _ 1 16 Try.underlying50 hi0 hz0 hz1 hz2 rfl (by decide) v n (ct l) hs hown B A m c (ct news) hx hr (ct_one _) (by simp only [maxLen]; omega) (by omega) hbase ?_
  intro v' w' h1 h2 h3
  refine h v' w' (by rw [ct_append]; exact h1) ⟨h2, ?_⟩
  rcases h3 with h3 | h3
  · exact Or.inl h3
  · exact Or.inr ⟨_, h3, Nat.le_refl _⟩

namespace Lg
open Cp
theorem readX_may {s : List UInt8} (h : (readX s).2 = 0) : mayC (readX s).1 = true ∧ bytesC (readX s).1 = s := by
  by_cases hl : 1024 < s.length
  · rw [readX_long hl] at h; cases h
  · cases hr : readC s with
    | none => rw [readX_none hl hr] at h; cases h
    | some c => rw [readX_some hl hr]; exact readC_back hr
theorem readX_bytes {c : Cmd} (h : mayC c = true) : readX (bytesC c) = (c, 0) := readX_some (by have := (bytesC_len h).2; omega) (readC_bytes h)
theorem all_may : ∀ {ls : List (List UInt8)} {l : List Cmd}, all ls = some l → ∀ c ∈ l, mayC c = true
  | [], l, h => by simp only [all, Option.some.injEq] at h; subst h; simp
  | s :: r, l, h => by
    by_cases hs : (readX s).2 = 0
    · rw [all_cons_ok hs] at h
      cases hr : all r with
      | none => rw [hr] at h; cases h
      | some q =>
        rw [hr] at h
        simp only [Option.map_some, Option.some.injEq] at h
        subst h
        intro c hc
        rcases List.mem_cons.1 hc with rfl | hc
        · exact (readX_may hs).1
        · exact all_may hr c hc
    · rw [all_cons_bad hs] at h; cases h
theorem all_back : ∀ {ls : List (List UInt8)} {l : List Cmd}, all ls = some l → l.map bytesC = ls
  | [], l, h => by simp only [all, Option.some.injEq] at h; subst h; rfl
  | s :: r, l, h => by
    by_cases hs : (readX s).2 = 0
    · rw [all_cons_ok hs] at h
      cases hr : all r with
      | none => rw [hr] at h; cases h
      | some q =>
        rw [hr] at h
        simp only [Option.map_some, Option.some.injEq] at h
        subst h
        rw [List.map_cons, (readX_may hs).2, all_back hr]
    · rw [all_cons_bad hs] at h; cases h
theorem all_append (r : List (List UInt8)) : ∀ (ls : List (List UInt8)), all (ls ++ r) = match all ls with | none => none | some l => (all r).map (l ++ ·)
  | [] => by
    rw [List.nil_append]
    simp only [all]
    cases all r <;> simp
  | s :: q => by
    rw [List.cons_append]
    by_cases hs : (readX s).2 = 0
    · rw [all_cons_ok hs, all_cons_ok hs, all_append r q]
      cases all q with
      | none => rfl
      | some x =>
        simp only [Option.map_some]
        cases all r <;> simp
    · rw [all_cons_bad hs, all_cons_bad hs]
theorem cmdsX_ok {ls : List (List UInt8)} {l : List Cmd} (h : cmdsX ls = (l, 0)) : ¬ 200 < ls.length ∧ all ls = some l := by
  by_cases hb : 200 < ls.length
  · rw [cmdsX_long hb] at h; cases h
  · cases ha : all ls with
    | none => rw [cmdsX_none hb ha] at h; cases h
    | some q =>
      rw [cmdsX_some hb ha] at h
      injection h with h
      subst h
      exact ⟨hb, rfl⟩
theorem cmdsX_snoc {ls : List (List UInt8)} {l : List Cmd} {c : Cmd} (h : cmdsX ls = (l, 0)) (hn : ls.length ≤ 199) (hc : mayC c = true) : cmdsX (ls ++ [bytesC c]) = (l ++ [c], 0) := by
  obtain ⟨_, ha⟩ := cmdsX_ok h
  refine cmdsX_some (by simp; omega) ?_
  rw [all_append, ha, all_cons_ok (by rw [readX_bytes hc]), readX_bytes hc]
  rfl
theorem members_parts {rost mem : List Int} {ls : List (List UInt8)} {r : List Int} (h : members rost mem ls = (r, 0)) : cgroup rost mem = 0 ∧ ∃ l, cmdsX ls = (l, 0) ∧ memX rost mem l = r := by
  unfold members at h
  split at h
  · rename_i h1
    split at h
    · rename_i h2
      injection h with h _
      exact ⟨h1, (cmdsX ls).1, by rw [← h2], h⟩
    · rename_i h2
      injection h with _ h
      exact absurd h h2
  · rename_i h1
    injection h with _ h
    exact absurd h h1
theorem members_nil {rost mem : List Int} {ls : List (List UInt8)} {r : List Int} {x : Int} (h : members rost mem ls = (r, x)) (hx : x ≠ 0) : r = [] := by
  unfold members at h
  split at h
  · split at h
    · injection h with _ h
      exact absurd h.symm hx
    · injection h with h _
      exact h.symm
  · injection h with h _
    exact h.symm
theorem memX_snoc (rost mem : List Int) (l : List Cmd) (c : Cmd) : memX rost mem (l ++ [c]) = if good rost c = true then c.mem else memX rost mem l := by
  unfold memX
  rw [List.reverse_append, List.reverse_singleton, List.singleton_append, List.find?_cons]
  cases good rost c <;> rfl
theorem members_snoc {rost mem : List Int} {ls : List (List UInt8)} {r : List Int} {c : Cmd} (h : members rost mem ls = (r, 0)) (hn : ls.length ≤ 199) (hc : mayC c = true) : members rost mem (ls ++ [bytesC c]) = (if good rost c = true then c.mem else r, 0) := by
  obtain ⟨h1, l, h2, h3⟩ := members_parts h
  rw [members_ok h1 (cmdsX_snoc h2 hn hc), memX_snoc, h3]
theorem mayC_mem {c : Cmd} (h : mayC c = true) (hk : c.k = 3) : Qm.check c.mem = 0 := by
  unfold mayC at h
  rw [if_neg (by omega), if_neg (by omega), if_neg (by omega), if_pos hk] at h
  simp only [Bool.and_eq_true, beq_iff_eq] at h
  exact h.1.1.1.2
theorem good_parts {rost : List Int} {c : Cmd} (h : good rost c = true) : c.k = 3 ∧ ∀ x ∈ c.mem, x ∈ rost := by
  unfold good at h
  rw [Bool.and_eq_true, beq_iff_eq, Bool.not_eq_true', List.any_eq_false] at h
  exact ⟨h.1, fun x hx => by have := h.2 x hx; simpa using this⟩
theorem members_may {rost mem : List Int} {ls : List (List UInt8)} {r : List Int} (h : members rost mem ls = (r, 0)) : Qm.check r = 0 ∧ ∀ x ∈ r, x ∈ rost := by
  obtain ⟨h1, l, h2, h3⟩ := members_parts h
  obtain ⟨hc1, hc2, hw⟩ := cgroup_zero h1
  unfold memX at h3
  split at h3
  · rename_i c hc
    subst h3
    have hg := List.find?_some hc
    obtain ⟨hk, hm⟩ := good_parts hg
    have hin : c ∈ l := by have := List.mem_of_find?_eq_some hc; simpa using this
    exact ⟨mayC_mem (all_may (cmdsX_ok h2).2 c hin) hk, hm⟩
  · subst h3
    refine ⟨hc2, fun x hx => ?_⟩
    unfold within at hw
    have := List.all_eq_true.1 hw x hx
    simpa using this
end Lg
end Go.Proofs.Ytaoekfgeggopbaa
