/-
  Lists of commands as they lie in memory; logs as plain lists.
-/
import Derived.Test.YtaoekfgeggopbaaCmdReadW
import Derived.Deep.MidRow
namespace Go.Proofs.Ytaoekfgeggopbaa
open Go.RowKit
set_option maxHeartbeats 4000000
set_option maxRecDepth 100000
set_option linter.unusedVariables false
set_option linter.unusedSimpArgs false

def ccells (D : HC) : List Value := (#[.int .u8 D.k, .int .i64 D.mi, .slice D.GA D.Gn D.Gc, .int .i64 D.mt, .string D.key, .string D.body, .int .i64 D.i, .int .i64 D.tm, .slice D.MA D.Mn D.Mc, .int .i64 D.tp, .int .i64 D.who, .int .i64 D.n]).toList
theorem ccells_length (D : HC) : (ccells D).length = 12 := rfl
def cc (l : List HC) : List Value := l.flatMap ccells
theorem cc_cons (m : HC) (l : List HC) : cc (m :: l) = ccells m ++ cc l := by simp [cc]
theorem cc_length : ∀ l : List HC, (cc l).length = l.length * 12
  | [] => rfl
  | m :: l => by rw [cc_cons, List.length_append, cc_length l, ccells_length, List.length_cons]; omega
theorem cc_append (l m : List HC) : cc (l ++ m) = cc l ++ cc m := by simp [cc]
theorem cc_one (l : List HC) : ∀ u ∈ cc l, u.oneCell' = true := by
  intro u hu
  simp only [cc, List.mem_flatMap] at hu
  obtain ⟨m, _, hu⟩ := hu
  simp only [ccells, List.mem_cons, List.not_mem_nil, or_false] at hu
  rcases hu with rfl | rfl | rfl | rfl | rfl | rfl | rfl | rfl | rfl | rfl | rfl | rfl <;> rfl
theorem cc_get : ∀ (l : List HC) (k : Nat) (m : HC) (i : Nat), l[k]? = some m → i < 12 → (cc l)[k * 12 + i]? = (ccells m)[i]?
  | [], k, m, i, h, _ => by simp at h
  | a :: l, 0, m, i, h, hi => by
    simp only [List.getElem?_cons_zero, Option.some.injEq] at h
    subst h
    rw [cc_cons, List.getElem?_append_left (by rw [ccells_length]; omega), Nat.zero_mul, Nat.zero_add]
  | a :: l, k + 1, m, i, h, hi => by
    rw [List.getElem?_cons_succ] at h
    rw [cc_cons, List.getElem?_append_right (by rw [ccells_length]; omega), ccells_length, show (k + 1) * 12 + i - 12 = k * 12 + i by omega]
    exact cc_get l k m i h hi
section
variable {w : World} {B n : Nat} {A : Option Addr} {l : List HC}
theorem Reads.len_c (h : Reads w B 12 A n (cc l)) : l.length = n := by have := h.1; rw [cc_length] at this; omega
theorem Reads.cmd (h : Reads w B 12 A n (cc l)) {k : Nat} (hk : k < n) : ∃ (b off : Nat) (m : HC), A = some ⟨b, off, none⟩ ∧ b < B ∧ l[k]? = some m ∧ ∀ i u, (ccells m)[i]? = some u → w.cell? ⟨b, off + k * 12 + i, none⟩ = some u := by
  have hl := h.len_c
  obtain ⟨ad, rfl, hb, hc⟩ := h.2 (by omega)
  have hg : l[k]? = some (l[k]'(by omega)) := List.getElem?_eq_getElem (by omega)
  have h0 : ∃ x, w.cell? (ad.add 0) = some x := ⟨_, hc 0 _ (List.getElem?_eq_getElem (by rw [cc_length]; omega))⟩
  obtain ⟨x, h0⟩ := h0
  obtain ⟨b, off, rfl, _⟩ := addr_zero h0
  refine ⟨b, off, l[k]'(by omega), rfl, hb, hg, fun i u hu => ?_⟩
  have hi : i < 12 := by have := (List.getElem?_eq_some_iff.1 hu).1; rwa [ccells_length] at this
  have := hc (k * 12 + i) u (by rw [cc_get l k _ i hg hi]; exact hu)
  rw [Addr.add_mid] at this
  rw [Nat.add_assoc]
  exact this
end
theorem cmd_info : (Try.prog.info? 26).map (fun i => (i.zero, i.size, i.bytes)) = some (some (.agg #[.int .u8 (zeroHC 0).k, .int .i64 (zeroHC 0).mi, .slice (zeroHC 0).GA (zeroHC 0).Gn (zeroHC 0).Gc, .int .i64 (zeroHC 0).mt, .string (zeroHC 0).key, .string (zeroHC 0).body, .int .i64 (zeroHC 0).i, .int .i64 (zeroHC 0).tm, .slice (zeroHC 0).MA (zeroHC 0).Mn (zeroHC 0).Mc, .int .i64 (zeroHC 0).tp, .int .i64 (zeroHC 0).who, .int .i64 (zeroHC 0).n]), 12, 144) := by kernel_rfl
/-- One command onto a row of the call's own. -/
theorem app_c {ops : Array Oper} {rest : List Oper} {o : Oper} {a : Act} {Q : Exit → Act → World → Prop} {w : World} (hgd : o.guard = none) (sl x : Operand)
    (ho : o.op = .call { callee := .builtin .append, args := #[sl, x], argTypes := #[55, 55] })
    (base : Nat) (v : Value) (n : Nat) (l : List HC) (hs : a.eval sl = v) (hown : w.ownsRow base 26 12 v n (cc l))
    (B : Nat) (A : Option Addr) (c : Nat) (p : HC) (hx : a.eval x = .slice A 1 c) (hr : Reads w B 12 A 1 (cc [p]))
    (hn : n ≤ 900000000000) (hbase : base ≤ w.heap.size)
    (h : ∀ v' w', w'.ownsRow base 26 12 v' (n + 1) (cc (l ++ [p])) → Grew w w' v v' → wpList Try.prog ops Q rest (a.put o.dst v') w') :
    wpList Try.prog ops Q (o :: rest) a w := by
  obtain ⟨i0, hi0, hz0, hz1, hz2⟩ := info_parts cmd_info
  refine wpList_append_any _ hgd sl x 55 ho base 26 i0 _ 12 144 Try.underlying55 hi0 hz0 hz1 hz2 rfl (by decide) v n (cc l) hs hown B A 1 c (cc [p]) hx hr (cc_one _) (by simp only [maxLen]; omega) (by omega) hbase ?_
  intro v' w' h1 h2 h3
  refine h v' w' (by rw [cc_append]; exact h1) ⟨h2, ?_⟩
  rcases h3 with h3 | h3
  · exact Or.inl h3
  · exact Or.inr ⟨_, h3, Nat.le_refl _⟩
theorem own_typeC {w : World} {base n size g : Nat} {e : TypeId} {v : Value} {xs : List Value} (h : w.ownsRow base e size v n xs) (hg : v.ownBlock = some g) : ∃ cs, w.heap[g]? = some (.cells cs e (0, 0)) := by
  rcases h.2 with ⟨rfl, _⟩ | ⟨g', cap, cur, rfl, _, hh, _⟩
  · simp [Value.ownBlock] at hg
  · have : g' = g := by simpa [Value.ownBlock] using hg
    subst this
    exact ⟨cur, hh⟩
theorem own_otherC {w w' : World} {base base2 n n2 size size2 : Nat} {e e2 : TypeId} {v v2 v3 : Value} {xs xs2 : List Value} (h : w.ownsRow base e size v n xs) (h2 : w.ownsRow base2 e2 size2 v2 n2 xs2) (hne : e ≠ e2) (hg : Grew w w' v2 v3) : w'.ownsRow base e size v n xs := by
  refine own_keepC h fun g hgb => hg.1.block g (h.lt g hgb).2 ?_
  intro he
  obtain ⟨cs, h4⟩ := own_typeC h hgb
  obtain ⟨cs2, h5⟩ := own_typeC h2 he.symm
  rw [h4] at h5
  injection h5 with h5
  injection h5 with _ h6
  exact hne h6
theorem OwnC.grew {w w' : World} {base base2 n2 : Nat} {v2 v3 : Value} {xs2 : List Value} {D : HC} (h : OwnC w base D) (h2 : w.ownsRow base2 26 12 v2 n2 xs2) (hg : Grew w w' v2 v3) : OwnC w' base D :=
  { h with og := own_otherC h.og h2 (by decide) hg, om := own_otherC h.om h2 (by decide) hg }
theorem own_shapeC {w : World} {base n size : Nat} {e : TypeId} {v : Value} {xs : List Value} (h : w.ownsRow base e size v n xs) : ∃ A c, v = .slice A n c := by
  rcases h.2 with ⟨rfl, rfl⟩ | ⟨g, cap, cur, rfl, _⟩
  · exact ⟨none, 0, rfl⟩
  · exact ⟨_, _, rfl⟩
theorem own_readsC {base : Nat} {e : TypeId} {size c n : Nat} {A : Option Addr} {w : World} {xs : List Value} (h : w.ownsRow base e size (.slice A n c) n xs) : Reads w w.heap.size size A n xs := Reads.of_own h
/-- One command's cells in a block of their own. -/
theorem new_c (w : World) (D : HC) : Reads (w.alloc (.cells #[.int .u8 D.k, .int .i64 D.mi, .slice D.GA D.Gn D.Gc, .int .i64 D.mt, .string D.key, .string D.body, .int .i64 D.i, .int .i64 D.tm, .slice D.MA D.Mn D.Mc, .int .i64 D.tp, .int .i64 D.who, .int .i64 D.n] 26)) (w.alloc (.cells #[.int .u8 D.k, .int .i64 D.mi, .slice D.GA D.Gn D.Gc, .int .i64 D.mt, .string D.key, .string D.body, .int .i64 D.i, .int .i64 D.tm, .slice D.MA D.Mn D.Mc, .int .i64 D.tp, .int .i64 D.who, .int .i64 D.n] 26)).heap.size 12 (some ⟨w.heap.size, 0, none⟩) 1 (cc [D]) := by
  refine ⟨rfl, fun _ => ⟨⟨w.heap.size, 0, none⟩, rfl, by simp, fun j u hu => ?_⟩⟩
  have hadd : (⟨w.heap.size, 0, none⟩ : Addr).add j = ⟨w.heap.size, j, none⟩ := by unfold Addr.add; split <;> simp_all
  rw [hadd, (Blk.new w 26 #[.int .u8 D.k, .int .i64 D.mi, .slice D.GA D.Gn D.Gc, .int .i64 D.mt, .string D.key, .string D.body, .int .i64 D.i, .int .i64 D.tm, .slice D.MA D.Mn D.Mc, .int .i64 D.tp, .int .i64 D.who, .int .i64 D.n]).cell j, ← Array.getElem?_toList]
  have e : cc [D] = ccells D := by simp [cc]
  rw [e] at hu
  exact hu

namespace Lg
open Cp
/-- The commands of a log, where all may be read. -/
def all : List (List UInt8) → Option (List Cmd)
  | [] => some []
  | s :: r => if (readX s).2 = 0 then (all r).map ((readX s).1 :: ·) else none
def cmdsX (ls : List (List UInt8)) : List Cmd × Int := if 200 < ls.length then ([], 4) else match all ls with
  | some l => (l, 0)
  | none => ([], 8)
theorem all_cons_ok {s : List UInt8} {r : List (List UInt8)} (h : (readX s).2 = 0) : all (s :: r) = (all r).map ((readX s).1 :: ·) := by rw [all, if_pos h]
theorem all_cons_bad {s : List UInt8} {r : List (List UInt8)} (h : (readX s).2 ≠ 0) : all (s :: r) = none := by rw [all, if_neg h]
theorem cmdsX_long {ls : List (List UInt8)} (h : 200 < ls.length) : cmdsX ls = ([], 4) := by unfold cmdsX; rw [if_pos h]
theorem cmdsX_some {ls : List (List UInt8)} {l : List Cmd} (h : ¬ 200 < ls.length) (ha : all ls = some l) : cmdsX ls = (l, 0) := by unfold cmdsX; rw [if_neg h, ha]
theorem cmdsX_none {ls : List (List UInt8)} (h : ¬ 200 < ls.length) (ha : all ls = none) : cmdsX ls = ([], 8) := by unfold cmdsX; rw [if_neg h, ha]
theorem all_len : ∀ {ls : List (List UInt8)} {l : List Cmd}, all ls = some l → l.length = ls.length
  | [], l, h => by simp only [all, Option.some.injEq] at h; subst h; rfl
  | s :: r, l, h => by
    by_cases hs : (readX s).2 = 0
    · rw [all_cons_ok hs] at h
      cases hr : all r with
      | none => rw [hr] at h; cases h
      | some q =>
        rw [hr] at h
        simp only [Option.map_some, Option.some.injEq] at h
        subst h
        rw [List.length_cons, List.length_cons, all_len hr]
    · rw [all_cons_bad hs] at h; cases h
end Lg
end Go.Proofs.Ytaoekfgeggopbaa
