/-
  Disks in memory: the cells of a list of writes, a disk that can be read, a disk of the call's own.
-/
import Derived.Test.YthmbjmknifkbaaaDiskPlain
import Derived.Test.YthmbjmknifkbaaaAppB
import Derived.Deep.MidRow
import Derived.Deep.AppendLies
namespace Go.Proofs.Ythmbjmknifkbaaa
open Go.RowKit
set_option linter.unusedVariables false
set_option linter.unusedSimpArgs false

/-- A write as it lies in memory. -/
structure HP where
  sw : Bool
  A : Option Addr
  n : Nat
  c : Nat
  d : List UInt8
def HP.put (p : HP) : Dp.Put := ⟨p.sw, p.d⟩
def hcells (p : HP) : List Value := [.bool p.sw, .slice p.A p.n p.c]
def hp (l : List HP) : List Value := l.flatMap hcells
theorem hcells_length (p : HP) : (hcells p).length = 2 := rfl
theorem hp_cons (p : HP) (l : List HP) : hp (p :: l) = hcells p ++ hp l := by simp [hp]
theorem hp_length : ∀ l : List HP, (hp l).length = l.length * 2
  | [] => rfl
  | p :: l => by rw [hp_cons, List.length_append, hp_length l, hcells_length, List.length_cons]; omega
theorem hp_append (l m : List HP) : hp (l ++ m) = hp l ++ hp m := by simp [hp]
theorem hp_one (l : List HP) : ∀ u ∈ hp l, u.oneCell' = true := by
  intro u hu
  simp only [hp, List.mem_flatMap] at hu
  obtain ⟨m, _, hu⟩ := hu
  simp only [hcells, List.mem_cons, List.not_mem_nil, or_false] at hu
  rcases hu with rfl | rfl <;> rfl
theorem hp_take : ∀ (l : List HP) (k : Nat), (hp l).take (k * 2) = hp (l.take k)
  | [], k => by simp [hp]
  | m :: l, 0 => by simp [hp]
  | m :: l, k + 1 => by
    rw [hp_cons, List.take_succ_cons, hp_cons, List.take_append, List.take_of_length_le (by rw [hcells_length]; omega), hcells_length, show (k + 1) * 2 - 2 = k * 2 by omega]
    rw [hp_take l k]
theorem hp_get : ∀ (l : List HP) (k : Nat) (m : HP) (i : Nat), l[k]? = some m → i < 2 → (hp l)[k * 2 + i]? = (hcells m)[i]?
  | [], k, m, i, h, _ => by simp at h
  | a :: l, 0, m, i, h, hi => by
    simp only [List.getElem?_cons_zero, Option.some.injEq] at h
    subst h
    rw [hp_cons, List.getElem?_append_left (by rw [hcells_length]; omega), Nat.zero_mul, Nat.zero_add]
  | a :: l, k + 1, m, i, h, hi => by
    rw [List.getElem?_cons_succ] at h
    rw [hp_cons, List.getElem?_append_right (by rw [hcells_length]; omega), hcells_length, show (k + 1) * 2 + i - 2 = k * 2 + i by omega]
    exact hp_get l k m i h hi
section
variable {w : World} {B n : Nat} {A : Option Addr} {l : List HP}
theorem Reads.len_h (h : Reads w B 2 A n (hp l)) : l.length = n := by have := h.1; rw [hp_length] at this; omega
theorem Reads.hput (h : Reads w B 2 A n (hp l)) {k : Nat} (hk : k < n) : ∃ (b off : Nat) (m : HP), A = some ⟨b, off, none⟩ ∧ b < B ∧ l[k]? = some m ∧ w.rangeAt b (off + k * 2) (hcells m) := by
  have hl := h.len_h
  obtain ⟨ad, rfl, hb, hc⟩ := h.2 (by omega)
  have hg : l[k]? = some (l[k]'(by omega)) := List.getElem?_eq_getElem (by omega)
  have h0 : ∃ x, w.cell? (ad.add 0) = some x := ⟨_, hc 0 _ (List.getElem?_eq_getElem (by rw [hp_length]; omega))⟩
  obtain ⟨x, h0⟩ := h0
  obtain ⟨b, off, rfl, _⟩ := addr_zero h0
  refine ⟨b, off, l[k]'(by omega), rfl, hb, hg, fun i u hu => ?_⟩
  have hi : i < 2 := by have := (List.getElem?_eq_some_iff.1 hu).1; rwa [hcells_length] at this
  have := hc (k * 2 + i) u (by rw [hp_get l k _ i hg hi]; exact hu)
  rw [Addr.add_mid] at this
  rw [Nat.add_assoc]
  exact this
end
theorem Reads.firstH {w : World} {B n : Nat} {A : Option Addr} {l : List HP} (h : Reads w B 2 A n (hp l)) {k : Nat} (hk : k ≤ n) : Reads w B 2 A k (hp (l.take k)) := by
  have h1 := h.1
  rw [← hp_take]
  refine ⟨by rw [List.length_take]; omega, fun hq => ?_⟩
  obtain ⟨ad, e, hb, hc⟩ := h.2 (by omega)
  refine ⟨ad, e, hb, fun j u hu => hc j u ?_⟩
  rw [List.getElem?_take] at hu
  split at hu
  · exact hu
  · cases hu
section
variable {P : Program}
theorem run_slice2_to {T E : TypeId} (ht : P.underlying T = some (.slice E)) (A : Option Addr) (n c k : Nat) (hk : k ≤ c) (w : World) (hs : ∀ w, (Go.sizeOf E).run P w = .ok 2 w) :
    (Instr.slice T (.slice A n c) none (some (.int .i64 (k : Int))) none).run P w = .ok (.slice A k c) w := by
  have ht' : P.underlying T = some (.slice (P.elem T)) := by simp [Program.elem, ht]
  have he : P.elem T = E := by simp [Program.elem, ht]
  rw [run_slice_h w T _ _ _ ht' .i64 _ (by omega) (by omega), he, hs]
  have h0 : A.map (fun x => x.add (0 * 2)) = A := by
    cases A with
    | none => rfl
    | some a => simp [Addr.add]
  simp only [Result.andThen, sliced, h0, Int.toNat_natCast, Nat.sub_zero, ite_self]
theorem run_slice2_full {T E : TypeId} (ht : P.underlying T = some (.slice E)) (A : Option Addr) (n c : Nat) (hn : n ≤ c) (w : World) (hs : ∀ w, (Go.sizeOf E).run P w = .ok 2 w) :
    (Instr.slice T (.slice A n c) none (some (.int .i64 (n : Int))) (some (.int .i64 (n : Int)))).run P w = .ok (.slice A n n) w := by
  have ht' : P.underlying T = some (.slice (P.elem T)) := by simp [Program.elem, ht]
  have he : P.elem T = E := by simp [Program.elem, ht]
  rw [run_slice_hm w T _ _ _ ht' .i64 .i64 _ _ (by omega) (by omega) (by omega), he, hs]
  have h0 : A.map (fun x => x.add (0 * 2)) = A := by
    cases A with
    | none => rfl
    | some a => simp [Addr.add]
  simp only [Result.andThen, sliced, h0, Int.toNat_natCast, Nat.sub_zero, ite_self]
end

/-- A disk as it lies in memory. -/
structure HD where
  A : Option Addr
  n : Nat
  c : Nat
  d : List UInt8
  WA : Option Addr
  Wn : Nat
  Wc : Nat
  l : List HP
def HD.disk (D : HD) : Dp.Disk := ⟨D.d, D.l.map HP.put⟩
def zeroHD : HD := ⟨none, 0, 0, [], none, 0, 0, []⟩
theorem zeroHD_disk : zeroHD.disk = Dp.zeroD := rfl
def PutAt (w : World) (B : Nat) (p : HP) : Prop := Reads w B 1 p.A p.n (cb p.d) ∧ p.n ≤ p.c ∧ p.c ≤ maxLen ∧ p.n ≤ 140737488351232
structure DiskAt (w : World) (B : Nat) (D : HD) : Prop where
  rd : Reads w B 1 D.A D.n (cb D.d)
  rw_ : Reads w B 2 D.WA D.Wn (hp D.l)
  nc : D.n ≤ D.c
  cm : D.c ≤ maxLen
  wnc : D.Wn ≤ D.Wc
  wcm : D.Wc ≤ maxLen
  lim : D.n ≤ 140737488351232
  wlim : D.Wn ≤ 140737488351232
  all : ∀ p ∈ D.l, PutAt w B p
theorem PutAt.keep {w w' : World} {B : Nat} {p : HP} (h : PutAt w B p) (hk : ∀ q : Addr, q.block < B → w'.cell? q = w.cell? q) : PutAt w' B p := ⟨h.1.keep hk, h.2⟩
theorem PutAt.more {w : World} {B B' : Nat} {p : HP} (h : PutAt w B p) (hB : B ≤ B') : PutAt w B' p := ⟨h.1.more hB, h.2⟩
theorem PutAt.below {w w' : World} {B : Nat} {p : HP} (h : PutAt w B p) (hb : Below B w w') : PutAt w' B p := h.keep fun _ hq => hb.cell hq
theorem DiskAt.keep {w w' : World} {B : Nat} {D : HD} (h : DiskAt w B D) (hk : ∀ q : Addr, q.block < B → w'.cell? q = w.cell? q) : DiskAt w' B D :=
  ⟨h.rd.keep hk, h.rw_.keep hk, h.nc, h.cm, h.wnc, h.wcm, h.lim, h.wlim, fun p hq => (h.all p hq).keep hk⟩
theorem DiskAt.more {w : World} {B B' : Nat} {D : HD} (h : DiskAt w B D) (hB : B ≤ B') : DiskAt w B' D :=
  ⟨h.rd.more hB, h.rw_.more hB, h.nc, h.cm, h.wnc, h.wcm, h.lim, h.wlim, fun p hq => (h.all p hq).more hB⟩
theorem DiskAt.below {w w' : World} {B : Nat} {D : HD} (h : DiskAt w B D) (hb : Below B w w') : DiskAt w' B D := h.keep fun _ hq => hb.cell hq
theorem DiskAt.up {w w' : World} {D : HD} (h : DiskAt w w.heap.size D) (hb : Below w.heap.size w w') : DiskAt w' w'.heap.size D := (h.below hb).more hb.size
theorem DiskAt.alloc {w : World} {D : HD} (h : DiskAt w w.heap.size D) (o : Obj) : DiskAt (w.alloc o) (w.alloc o).heap.size D := h.up ((Below.refl _ w).alloc (Nat.le_refl _) o)
theorem DiskAt.drew {w : World} {B : Nat} {D : HD} (h : DiskAt w B D) : DiskAt w.drew B D := h.keep fun _ _ => rfl
theorem PutAt.up {w w' : World} {p : HP} (h : PutAt w w.heap.size p) (hb : Below w.heap.size w w') : PutAt w' w'.heap.size p := (h.below hb).more hb.size
theorem PutAt.alloc {w : World} {p : HP} (h : PutAt w w.heap.size p) (o : Obj) : PutAt (w.alloc o) (w.alloc o).heap.size p := h.up ((Below.refl _ w).alloc (Nat.le_refl _) o)
theorem PutAt.alloc1 {w : World} {B : Nat} {p : HP} (h : PutAt w B p) (hB : B ≤ w.heap.size) (o : Obj) : PutAt (w.alloc o) B p := h.keep fun q hq => World.cell?_alloc_lt w o q (by omega)
theorem DiskAt.len_d {w : World} {B : Nat} {D : HD} (h : DiskAt w B D) : D.d.length = D.n := h.rd.len_b
theorem DiskAt.len_l {w : World} {B : Nat} {D : HD} (h : DiskAt w B D) : D.l.length = D.Wn := h.rw_.len_h
theorem DiskAt.len_p {w : World} {B : Nat} {D : HD} (h : DiskAt w B D) {p : HP} (hp' : p ∈ D.l) : p.d.length = p.n := (h.all p hp').1.len_b
theorem zeroHD_at (w : World) (B : Nat) : DiskAt w B zeroHD :=
  ⟨Reads.none_, Reads.none_, Nat.le_refl _, Nat.zero_le _, Nat.le_refl _, Nat.zero_le _, Nat.zero_le _, Nat.zero_le _, by simp [zeroHD]⟩

/-- A disk of the call's own: all its rows lie in blocks from base on. -/
structure OwnDisk (w : World) (base : Nat) (D : HD) : Prop where
  rd : w.ownsRow base 5 1 (.slice D.A D.n D.c) D.n (cb D.d)
  rw_ : w.ownsRow base 42 2 (.slice D.WA D.Wn D.Wc) D.Wn (hp D.l)
  lim : D.n ≤ 140737488351232
  wlim : D.Wn ≤ 140737488351232
  all : ∀ p ∈ D.l, w.ownsRow base 5 1 (.slice p.A p.n p.c) p.n (cb p.d) ∧ p.n ≤ 140737488351232
theorem own_cap2 {w : World} {base n c size : Nat} {e : TypeId} {A : Option Addr} {xs : List Value} (h : w.ownsRow base e size (.slice A n c) n xs) : n ≤ c ∧ c ≤ maxLen := by
  rcases h.2 with ⟨h1, h2⟩ | ⟨g, cap, cur, h1, _, _, hc, hm, _⟩
  · injection h1 with _ h3 h4
    subst h3 h4
    exact ⟨Nat.le_refl _, Nat.zero_le _⟩
  · injection h1 with _ _ h4
    subst h4
    exact ⟨hc, hm⟩
theorem OwnDisk.at_ {w : World} {base : Nat} {D : HD} (h : OwnDisk w base D) : DiskAt w w.heap.size D :=
  ⟨Reads.of_own h.rd, Reads.of_own h.rw_, (own_cap2 h.rd).1, (own_cap2 h.rd).2, (own_cap2 h.rw_).1, (own_cap2 h.rw_).2, h.lim, h.wlim,
    fun p hp' => ⟨Reads.of_own (h.all p hp').1, (own_cap2 (h.all p hp').1).1, (own_cap2 (h.all p hp').1).2, (h.all p hp').2⟩⟩
theorem OwnDisk.mono {w : World} {base base' : Nat} {D : HD} (h : OwnDisk w base D) (hb : base' ≤ base) : OwnDisk w base' D :=
  ⟨own_mono h.rd hb, own_mono h.rw_ hb, h.lim, h.wlim, fun p hp' => ⟨own_mono (h.all p hp').1 hb, (h.all p hp').2⟩⟩
theorem zeroHD_own (w : World) (base : Nat) : OwnDisk w base zeroHD :=
  ⟨World.ownsRow_nil _ _ _ _, World.ownsRow_nil _ _ _ _, Nat.zero_le _, Nat.zero_le _, by simp [zeroHD]⟩
/-- A row of the call's own, in a world that has its block as it was. -/
theorem own_keep {w w' : World} {base n size : Nat} {e : TypeId} {v : Value} {xs : List Value} (h : w.ownsRow base e size v n xs) (hk : ∀ g, v.ownBlock = some g → w'.heap[g]? = w.heap[g]?) : w'.ownsRow base e size v n xs := by
  refine ⟨h.1, ?_⟩
  rcases h.2 with h2 | ⟨g, cap, cur, h2, h3, h4, h5⟩
  · exact Or.inl h2
  · exact Or.inr ⟨g, cap, cur, h2, h3, (hk g (by rw [h2]; rfl)).trans h4, h5⟩
theorem own_type {w : World} {base n size g : Nat} {e : TypeId} {v : Value} {xs : List Value} (h : w.ownsRow base e size v n xs) (hg : v.ownBlock = some g) : ∃ cs, w.heap[g]? = some (.cells cs e (0, 0)) := by
  rcases h.2 with ⟨rfl, _⟩ | ⟨g', cap, cur, rfl, _, hh, _⟩
  · simp [Value.ownBlock] at hg
  · have : g' = g := by simpa [Value.ownBlock] using hg
    subst this
    exact ⟨cur, hh⟩
theorem own_lt {w : World} {base n size g : Nat} {e : TypeId} {v : Value} {xs : List Value} (h : w.ownsRow base e size v n xs) (hg : v.ownBlock = some g) : base ≤ g ∧ g < w.heap.size := h.lt g hg
/-- A row of bytes stays, where another row (of other elements) grows. -/
theorem own_other {w w' : World} {base base2 n n2 size size2 : Nat} {e e2 : TypeId} {v v2 v3 : Value} {xs xs2 : List Value} (h : w.ownsRow base e size v n xs) (h2 : w.ownsRow base2 e2 size2 v2 n2 xs2) (hne : e ≠ e2) (hg : Grew w w' v2 v3) : w'.ownsRow base e size v n xs := by
  refine own_keep h fun g hgb => hg.1.block g (own_lt h hgb).2 ?_
  intro he
  obtain ⟨cs, h4⟩ := own_type h hgb
  obtain ⟨cs2, h5⟩ := own_type h2 he.symm
  rw [h4] at h5
  injection h5 with h5
  injection h5 with _ h6
  exact hne h6
theorem own_set {w : World} {base n size g : Nat} {e t : TypeId} {v : Value} {xs : List Value} {cs : Array Value} (h : w.ownsRow base e size v n xs) (hb : Blk w g t cs) (hne : e ≠ t) (i : Nat) (u : Value) : (w.setCell ⟨g, i, none⟩ u).ownsRow base e size v n xs := by
  refine own_keep h fun g' hgb => Below.heap_setCell w ⟨g, i, none⟩ u g' ?_
  show g' ≠ g
  rintro rfl
  exact own_blk_ne h hb hne hgb
theorem own_below {w w' : World} {base n size : Nat} {e : TypeId} {v : Value} {xs : List Value} (h : w.ownsRow base e size v n xs) (hb : Below w.heap.size w w') : w'.ownsRow base e size v n xs :=
  own_keep h fun g hg => hb.block g (own_lt h hg).2
theorem OwnDisk.below {w w' : World} {base : Nat} {D : HD} (h : OwnDisk w base D) (hb : Below w.heap.size w w') : OwnDisk w' base D :=
  ⟨own_below h.rd hb, own_below h.rw_ hb, h.lim, h.wlim, fun p hp' => ⟨own_below (h.all p hp').1 hb, (h.all p hp').2⟩⟩

theorem Blk.newAt {w : World} {g : Nat} (h : w.heap.size = g) (t : TypeId) (cs : Array Value) : Blk (w.alloc (.cells cs t)) g t cs := by subst h; exact Blk.new w t cs
theorem un_drew {B : Nat} {a w : World} (h : Below B a.drew w) : Below B a w := ⟨h.os, h.tape, h.output, h.size, h.block⟩

/-! ### appends at this program's types -/
theorem put_info : (Try.prog.info? 42).map (fun i => (i.zero, i.size, i.bytes)) = some (some (.agg #[.bool false, .slice none 0 0]), 2, 32) := by kernel_rfl
theorem put_size : ∀ w, (Go.sizeOf 42).run Try.prog w = .ok 2 w := by
  obtain ⟨i0, hi0, hz0, hz1, hz2⟩ := info_parts put_info
  intro w
  simp [sizeOf, typeInfo, hi0, hz1]
theorem slice_size : ∀ w, (Go.sizeOf 22).run Try.prog w = .ok 1 w := by
  have h : (Try.prog.info? 22).map (·.size) = some 1 := by kernel_rfl
  intro w
  cases hq : Try.prog.info? 22 with
  | none => simp [hq] at h
  | some i => simp [hq] at h; simp [sizeOf, typeInfo, hq, h]

/-- Bytes onto a row of the call's own: as much as there may be. -/
theorem app_bl {ops : Array Oper} {rest : List Oper} {o : Oper} {a : Act} {Q : Exit → Act → World → Prop} {w : World} (hgd : o.guard = none) (sl x : Operand)
    (ho : o.op = .call { callee := .builtin .append, args := #[sl, x], argTypes := #[22, 22] })
    (base : Nat) (v : Value) (n : Nat) (l : List UInt8) (hs : a.eval sl = v) (hown : w.ownsRow base 5 1 v n (cb l))
    (B : Nat) (A : Option Addr) (m c : Nat) (news : List UInt8) (hx : a.eval x = .slice A m c) (hr : Reads w B 1 A m (cb news))
    (hn : n + m ≤ 140737488355328) (hbase : base ≤ w.heap.size)
    (h : ∀ v' w', w'.ownsRow base 5 1 v' (n + m) (cb (l ++ news)) → Grew w w' v v' → wpList Try.prog ops Q rest (a.put o.dst v') w') :
    wpList Try.prog ops Q (o :: rest) a w := by
  obtain ⟨i0, hi0, hz0, hz1, hz2⟩ := info_parts u8_info
  refine wpList_append_any _ hgd sl x 22 ho base 5 i0 _ 1 1 Try.underlying22 hi0 hz0 hz1 hz2 rfl (by decide) v n (cb l) hs hown B A m c (cb news) hx hr (cb_one _) (by simp only [maxLen]; omega) (by omega) hbase ?_
  intro v' w' h1 h2 h3
  refine h v' w' (by rw [cb_append]; exact h1) ⟨h2, ?_⟩
  rcases h3 with h3 | h3
  · exact Or.inl h3
  · exact Or.inr ⟨_, h3, Nat.le_refl _⟩
/-- One write onto a row of writes of the call's own. -/
theorem app_p {ops : Array Oper} {rest : List Oper} {o : Oper} {a : Act} {Q : Exit → Act → World → Prop} {w : World} (hgd : o.guard = none) (sl x : Operand)
    (ho : o.op = .call { callee := .builtin .append, args := #[sl, x], argTypes := #[23, 23] })
    (base : Nat) (v : Value) (n : Nat) (l : List HP) (hs : a.eval sl = v) (hown : w.ownsRow base 42 2 v n (hp l))
    (B : Nat) (A : Option Addr) (c : Nat) (p : HP) (hx : a.eval x = .slice A 1 c) (hr : Reads w B 2 A 1 (hp [p]))
    (hn : n ≤ 1000000000000) (hbase : base ≤ w.heap.size)
    (h : ∀ v' w', w'.ownsRow base 42 2 v' (n + 1) (hp (l ++ [p])) → Grew w w' v v' → wpList Try.prog ops Q rest (a.put o.dst v') w') :
    wpList Try.prog ops Q (o :: rest) a w := by
  obtain ⟨i0, hi0, hz0, hz1, hz2⟩ := info_parts put_info
  refine wpList_append_any _ hgd sl x 23 ho base 42 i0 _ 2 32 Try.underlying23 hi0 hz0 hz1 hz2 rfl (by decide) v n (hp l) hs hown B A 1 c (hp [p]) hx hr (hp_one _) (by simp only [maxLen]; omega) (by omega) hbase ?_
  intro v' w' h1 h2 h3
  refine h v' w' (by rw [hp_append]; exact h1) ⟨h2, ?_⟩
  rcases h3 with h3 | h3
  · exact Or.inl h3
  · exact Or.inr ⟨_, h3, Nat.le_refl _⟩
/-- One write onto a full row that came in: a new row. -/
theorem app_full {ops : Array Oper} {rest : List Oper} {o : Oper} {a : Act} {Q : Exit → Act → World → Prop} {w : World} (hgd : o.guard = none) (sl x : Operand)
    (ho : o.op = .call { callee := .builtin .append, args := #[sl, x], argTypes := #[23, 23] })
    (B : Nat) (A : Option Addr) (n : Nat) (l : List HP) (hs : a.eval sl = .slice A n n) (hl : Reads w B 2 A n (hp l))
    (A2 : Option Addr) (c : Nat) (p : HP) (hx : a.eval x = .slice A2 1 c) (hr : Reads w B 2 A2 1 (hp [p]))
    (hn : n ≤ 1000000000000)
    (h : ∀ v' w', w'.ownsRow w.heap.size 42 2 v' (n + 1) (hp (l ++ [p])) → w.grownBy w' none → wpList Try.prog ops Q rest (a.put o.dst v') w') :
    wpList Try.prog ops Q (o :: rest) a w := by
  obtain ⟨i0, hi0, hz0, hz1, hz2⟩ := info_parts put_info
  obtain ⟨ad, rfl, _, hc2⟩ := hr.2 (by omega)
  have holds : ∀ b, A = some b → ∀ j u, (hp l)[j]? = some u → w.cell? (b.add j) = some u := by
    intro b hb j u hu
    rcases Nat.eq_zero_or_pos n with h0 | h0
    · subst h0
      have := hl.len_h
      obtain rfl : l = [] := List.eq_nil_of_length_eq_zero this
      simp [hp] at hu
    · obtain ⟨ad, e, _, hc⟩ := hl.2 h0
      rw [hb] at e
      injection e with e
      subst e
      exact hc j u hu
  refine wpList_append_grows _ hgd sl x 23 ho 42 i0 _ 2 32 Try.underlying23 hi0 hz0 hz1 hz2 rfl (by decide) A n n (hp l) hs ?_ hl.1 holds ad 1 c (hp [p]) hx hr.1 hc2 (hp_one _) (by omega) (by simp only [maxLen]; omega) (by omega) ?_
  · intro e
    subst e
    rcases Nat.eq_zero_or_pos n with h0 | h0
    · exact ⟨h0, h0⟩
    · obtain ⟨ad, e, _⟩ := hl.2 h0
      cases e
  · intro v' w' h1 h2
    exact h v' w' (by rw [hp_append]; exact h1) h2
end Go.Proofs.Ythmbjmknifkbaaa
