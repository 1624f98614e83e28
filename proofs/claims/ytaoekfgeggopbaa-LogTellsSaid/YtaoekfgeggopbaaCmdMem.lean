/-
  Commands and messages as they lie in memory.
-/
import Derived.Test.YtaoekfgeggopbaaCmdPlain
import Derived.Test.YtaoekfgeggopbaaEqInts
import Derived.Test.YtaoekfgeggopbaaQuiet
namespace Go.Proofs.Ytaoekfgeggopbaa
open Go.RowKit
set_option linter.unusedVariables false
set_option linter.unusedSimpArgs false

theorem Blk.newN {w : World} {g : Nat} (h : w.heap.size = g) (t : TypeId) (cs : Array Value) : Blk (w.alloc (.cells cs t)) g t cs := by subst h; exact Blk.new w t cs

/-- A command as it lies in memory. -/
structure HC where
  k : Int
  mi : Int
  GA : Option Addr
  Gn : Nat
  Gc : Nat
  gs : List Int
  mt : Int
  key : ByteArray
  body : ByteArray
  i : Int
  tm : Int
  MA : Option Addr
  Mn : Nat
  Mc : Nat
  mem : List Int
  tp : Int
  who : Int
  n : Int
def HC.cmd (D : HC) : Cp.Cmd := ⟨D.k, D.mi, D.gs, D.mt, D.key.data.toList, D.body.data.toList, D.i, D.tm, D.mem, D.tp, D.who, D.n⟩
def i64 (n : Int) : Prop := -9223372036854775808 ≤ n ∧ n ≤ 9223372036854775807
structure CmdAt (w : World) (B : Nat) (D : HC) : Prop where
  rg : Reads w B 1 D.GA D.Gn (ci D.gs)
  rm : Reads w B 1 D.MA D.Mn (ci D.mem)
  gc : D.Gn ≤ D.Gc
  gm : D.Gc ≤ 9223372036854775807
  mc : D.Mn ≤ D.Mc
  mm : D.Mc ≤ 9223372036854775807
  kk : 0 ≤ D.k ∧ D.k ≤ 255
  bk : D.key.size ≤ 9223372036854775807
  bb : D.body.size ≤ 9223372036854775807
  ig : ∀ x ∈ D.gs, i64 x
  im : ∀ x ∈ D.mem, i64 x
  a1 : i64 D.mi
  a2 : i64 D.mt
  a3 : i64 D.i
  a4 : i64 D.tm
  a5 : i64 D.tp
  a6 : i64 D.who
  a7 : i64 D.n
section
variable {w w' : World} {B B' : Nat} {D : HC}
theorem CmdAt.keep (h : CmdAt w B D) (hk : ∀ q : Addr, q.block < B → w'.cell? q = w.cell? q) : CmdAt w' B D :=
  { h with rg := h.rg.keep hk, rm := h.rm.keep hk }
theorem CmdAt.more (h : CmdAt w B D) (hB : B ≤ B') : CmdAt w B' D := { h with rg := h.rg.more hB, rm := h.rm.more hB }
theorem CmdAt.below (h : CmdAt w B D) (hb : Below B w w') : CmdAt w' B D := h.keep fun _ hq => hb.cell hq
theorem CmdAt.up (h : CmdAt w w.heap.size D) (hb : Below w.heap.size w w') : CmdAt w' w'.heap.size D := (h.below hb).more hb.size
theorem CmdAt.alloc (h : CmdAt w w.heap.size D) (o : Obj) : CmdAt (w.alloc o) (w.alloc o).heap.size D := h.up ((Below.refl _ w).alloc (Nat.le_refl _) o)
theorem CmdAt.drew (h : CmdAt w B D) : CmdAt w.drew B D := h.keep fun _ _ => rfl
theorem CmdAt.drewN (h : CmdAt w B D) (q : Nat) : CmdAt (w.drewN q) B D := h.keep fun _ _ => rfl
theorem CmdAt.len_g (h : CmdAt w B D) : D.gs.length = D.Gn := h.rg.len_i
theorem CmdAt.len_m (h : CmdAt w B D) : D.mem.length = D.Mn := h.rm.len_i
theorem CmdAt.lg (h : CmdAt w B D) : D.Gn ≤ 9223372036854775807 := Nat.le_trans h.gc h.gm
theorem CmdAt.lm (h : CmdAt w B D) : D.Mn ≤ 9223372036854775807 := Nat.le_trans h.mc h.mm
end
/-- The empty command of a kind. -/
def zeroHC (k : Int) : HC := ⟨k, 0, none, 0, 0, [], 0, ⟨#[]⟩, ⟨#[]⟩, 0, 0, none, 0, 0, [], 0, 0, 0⟩
theorem zeroHC_cmd (k : Int) : (zeroHC k).cmd = Cp.zeroC k := rfl
theorem zeroHC_at (w : World) (B : Nat) {k : Int} (h : 0 ≤ k ∧ k ≤ 255) : CmdAt w B (zeroHC k) :=
  ⟨Reads.none_, Reads.none_, Nat.le_refl _, Nat.zero_le _, Nat.le_refl _, Nat.zero_le _, h, Nat.zero_le _, Nat.zero_le _, fun x hx => (by simp [zeroHC] at hx), fun x hx => (by simp [zeroHC] at hx),
    ⟨by simp [zeroHC], by simp [zeroHC]⟩, ⟨by simp [zeroHC], by simp [zeroHC]⟩, ⟨by simp [zeroHC], by simp [zeroHC]⟩, ⟨by simp [zeroHC], by simp [zeroHC]⟩, ⟨by simp [zeroHC], by simp [zeroHC]⟩, ⟨by simp [zeroHC], by simp [zeroHC]⟩, ⟨by simp [zeroHC], by simp [zeroHC]⟩⟩

namespace Cp
/-- Are two messages, two commands the same? -/
def sameM (c d : Cmd) : Bool := decide (c.mi = d.mi) && (decide (c.gs = d.gs) && (decide (c.mt = d.mt) && (decide (c.key = d.key) && decide (c.body = d.body))))
def sameC (c d : Cmd) : Bool := decide (c.k = d.k) && (sameM c d && (decide (c.i = d.i) && (decide (c.tm = d.tm) && (decide (c.mem = d.mem) && (decide (c.tp = d.tp) && (decide (c.who = d.who) && decide (c.n = d.n)))))))
theorem sameM_of {c d : Cmd} (h : sameM c d = true) : c.mi = d.mi ∧ c.gs = d.gs ∧ c.mt = d.mt ∧ c.key = d.key ∧ c.body = d.body := by
  simp only [sameM, Bool.and_eq_true, decide_eq_true_eq] at h
  exact h
theorem sameC_of {c d : Cmd} (h : sameC c d = true) : c = d := by
  simp only [sameC, Bool.and_eq_true, decide_eq_true_eq] at h
  obtain ⟨h1, h2, h3, h4, h5, h6, h7, h8⟩ := h
  obtain ⟨g1, g2, g3, g4, g5⟩ := sameM_of h2
  cases c
  cases d
  simp only at h1 h3 h4 h5 h6 h7 h8 g1 g2 g3 g4 g5
  simp only [h1, h3, h4, h5, h6, h7, h8, g1, g2, g3, g4, g5]
theorem sameC_refl (c : Cmd) : sameC c c = true := by simp [sameC, sameM]
theorem sameM_refl (c : Cmd) : sameM c c = true := by simp [sameM]
theorem sameC_iff (c d : Cmd) : sameC c d = true ↔ c = d := ⟨sameC_of, fun h => h ▸ sameC_refl c⟩
/-- What a kind has alone of a command. -/
def plainC (c : Cmd) : Cmd := cpF (fieldsC c.k) c (zeroC c.k)
def okK (c : Cmd) : Bool :=
  if c.k = 0 then true else if c.k = 1 then msgB c else if c.k = 2 then Wp.idB c.i && inB 1 1073741824 c.tm else if c.k = 3 then Qm.check c.mem == 0
  else if c.k = 4 then (Wp.idB c.i && (inB 0 3 c.tp && inB 0 1073741824 c.n)) && inB 0 7 c.who else if c.k = 5 ∨ c.k = 6 then Wp.idB c.i && (inB 0 3 c.tp && inB 0 1073741824 c.n) else false
end Cp
theorem data_eq {s t : ByteArray} : decide (s.data.toList = t.data.toList) = decide (s = t) := by
  by_cases h : s = t
  · subst h; simp
  · rw [decide_eq_false h]
    refine decide_eq_false fun x => h ?_
    rw [← S_of s, ← S_of t, x]
theorem data_inj {s t : ByteArray} (h : s.data.toList = t.data.toList) : s = t := by rw [← S_of s, ← S_of t, h]
end Go.Proofs.Ytaoekfgeggopbaa
