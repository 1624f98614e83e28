/-
  Layer 12 in plain Lean: which commands may be, their texts, and how texts are read; what is written is read, and what is read is written so.
-/
import Derived.Test.YtaoekfgeggopbaaWirePlain
import Derived.Test.YtaoekfgeggopbaaNumInts
import Derived.Test.YtaoekfgeggopbaaQuorumPlain
namespace Go.Proofs.Ytaoekfgeggopbaa
open Go.RowKit
set_option linter.unusedVariables false
set_option linter.unusedSimpArgs false
namespace Cp
open Nm Rp

structure Cmd where
  k : Int
  mi : Int
  gs : List Int
  mt : Int
  key : List UInt8
  body : List UInt8
  i : Int
  tm : Int
  mem : List Int
  tp : Int
  who : Int
  n : Int

/-- Rising numbers below four, each above one. -/
def incr4 : Int → List Int → Bool
  | _, [] => true
  | lo, n :: l => decide (lo < n) && decide (n < 4) && incr4 n l
def gsB (l : List Int) : Bool := !l.isEmpty && incr4 (-1) l
def inB (lo hi n : Int) : Bool := decide (lo ≤ n ∧ n ≤ hi)
def msgB (c : Cmd) : Bool := gsB c.gs && Wp.idB c.mi && inB 0 3 c.mt && decide (c.key.length ≤ 16) && decide (c.body.length ≤ 64)
def msg0 (c : Cmd) : Bool := c.mi == 0 && c.gs.isEmpty && c.mt == 0 && c.key.isEmpty && c.body.isEmpty
def mayC (c : Cmd) : Bool :=
  if c.k = 0 then msg0 c && c.i == 0 && c.tm == 0 && c.mem.isEmpty && c.tp == 0 && c.who == 0 && c.n == 0
  else if c.k = 1 then msgB c && c.i == 0 && c.tm == 0 && c.mem.isEmpty && c.tp == 0 && c.who == 0 && c.n == 0
  else if c.k = 2 then msg0 c && Wp.idB c.i && inB 1 1073741824 c.tm && c.mem.isEmpty && c.tp == 0 && c.who == 0 && c.n == 0
  else if c.k = 3 then msg0 c && c.i == 0 && c.tm == 0 && Qm.check c.mem == 0 && c.tp == 0 && c.who == 0 && c.n == 0
  else if c.k = 4 then msg0 c && Wp.idB c.i && c.tm == 0 && c.mem.isEmpty && inB 0 3 c.tp && inB 0 7 c.who && inB 0 1073741824 c.n
  else if c.k = 5 ∨ c.k = 6 then msg0 c && Wp.idB c.i && c.tm == 0 && c.mem.isEmpty && inB 0 3 c.tp && c.who == 0 && inB 0 1073741824 c.n
  else false

inductive Fld where
  | mi | gs | mt | key | body | i | tm | mem | tp | who | n
deriving DecidableEq
def fieldsC (k : Int) : List Fld :=
  if k = 1 then [.mi, .gs, .mt, .key, .body] else if k = 2 then [.i, .tm] else if k = 3 then [.mem] else if k = 4 then [.i, .tp, .who, .n] else if k = 5 then [.i, .tp, .n] else if k = 6 then [.i, .tp, .n] else []
def wr1 : Fld → Cmd → List UInt8
  | .mi, c => enc c.mi.toNat
  | .gs, c => intsB c.gs
  | .mt, c => enc c.mt.toNat
  | .key, c => txt c.key
  | .body, c => txt c.body
  | .i, c => enc c.i.toNat
  | .tm, c => enc c.tm.toNat
  | .mem, c => intsB c.mem
  | .tp, c => enc c.tp.toNat
  | .who, c => enc c.who.toNat
  | .n, c => enc c.n.toNat
def wrF : List Fld → Cmd → List UInt8
  | [], _ => []
  | f :: r, c => wr1 f c ++ wrF r c
def bytesC (c : Cmd) : List UInt8 := enc c.k.toNat ++ wrF (fieldsC c.k) c

def intsK (most : Nat) (p : St) : List Int × St := match getInts p.1 most with
  | some (r, k) => (r, (p.1.drop k, p.2))
  | none => ([], (p.1, true))
def rd1 : Fld → Cmd → St → Cmd × St
  | .mi, c, p => ({ c with mi := (next p).1 }, (next p).2)
  | .gs, c, p => ({ c with gs := (intsK 4 p).1 }, (intsK 4 p).2)
  | .mt, c, p => ({ c with mt := (next p).1 }, (next p).2)
  | .key, c, p => ({ c with key := (Wp.textK p).1 }, (Wp.textK p).2)
  | .body, c, p => ({ c with body := (Wp.textK p).1 }, (Wp.textK p).2)
  | .i, c, p => ({ c with i := (next p).1 }, (next p).2)
  | .tm, c, p => ({ c with tm := (next p).1 }, (next p).2)
  | .mem, c, p => ({ c with mem := (intsK 6 p).1 }, (intsK 6 p).2)
  | .tp, c, p => ({ c with tp := (next p).1 }, (next p).2)
  | .who, c, p => ({ c with who := (next p).1 }, (next p).2)
  | .n, c, p => ({ c with n := (next p).1 }, (next p).2)
def rdF : List Fld → Cmd → St → Cmd × St
  | [], c, p => (c, p)
  | f :: r, c, p => rdF r (rd1 f c p).1 (rd1 f c p).2
def zeroC (k : Int) : Cmd := ⟨k, 0, [], 0, [], [], 0, 0, [], 0, 0, 0⟩
def readC (l : List UInt8) : Option Cmd :=
  let a := next (l, false)
  let k : Int := ((min a.1 255 : Nat) : Int)
  let r := rdF (fieldsC k) (zeroC k) a.2
  if r.2.2 = false ∧ r.2.1 = [] ∧ mayC r.1 = true then some r.1 else none

/-- One field of another one's. -/
def cp : Fld → Cmd → Cmd → Cmd
  | .mi, c, d => { d with mi := c.mi }
  | .gs, c, d => { d with gs := c.gs }
  | .mt, c, d => { d with mt := c.mt }
  | .key, c, d => { d with key := c.key }
  | .body, c, d => { d with body := c.body }
  | .i, c, d => { d with i := c.i }
  | .tm, c, d => { d with tm := c.tm }
  | .mem, c, d => { d with mem := c.mem }
  | .tp, c, d => { d with tp := c.tp }
  | .who, c, d => { d with who := c.who }
  | .n, c, d => { d with n := c.n }
def cpF : List Fld → Cmd → Cmd → Cmd
  | [], _, d => d
  | f :: r, c, d => cpF r c (cp f c d)
def okF (c : Cmd) : Fld → Prop
  | .mi => 0 ≤ c.mi ∧ c.mi ≤ 1099511627776
  | .gs => c.gs.length ≤ 4 ∧ ∀ x ∈ c.gs, inR x = true
  | .mt => 0 ≤ c.mt ∧ c.mt ≤ 1099511627776
  | .key => c.key.length ≤ 4096
  | .body => c.body.length ≤ 4096
  | .i => 0 ≤ c.i ∧ c.i ≤ 1099511627776
  | .tm => 0 ≤ c.tm ∧ c.tm ≤ 1099511627776
  | .mem => c.mem.length ≤ 6 ∧ ∀ x ∈ c.mem, inR x = true
  | .tp => 0 ≤ c.tp ∧ c.tp ≤ 1099511627776
  | .who => 0 ≤ c.who ∧ c.who ≤ 1099511627776
  | .n => 0 ≤ c.n ∧ c.n ≤ 1099511627776

theorem getInts_most {l : List Int} {most : Nat} (hl : l.length ≤ most) (hm : most ≤ 4096) (h : ∀ n ∈ l, inR n = true) (b : List UInt8) : getInts (intsB l ++ b) most = some (l, (intsB l).length) := by
  have g := getInts_ints (l := l) (by omega) h b
  unfold getInts at g ⊢
  have ge : get (intsB l ++ b) = some (l.length, (enc l.length).length) := by
    unfold intsB
    rw [List.append_assoc]
    exact get_enc (by omega) _
  rw [ge] at g ⊢
  simp only at g ⊢
  rw [if_neg (by omega)] at g ⊢
  exact g
theorem intsK_some {l l' : List UInt8} {r : List Int} {b : Bool} {most : Nat} (hr : r.length ≤ most) (hm : most ≤ 4096) (h : ∀ n ∈ r, inR n = true) (e : l = intsB r ++ l') : intsK most (l, b) = (r, (l', b)) := by
  subst e
  simp [intsK, getInts_most hr hm h]
theorem intsK_or (most : Nat) (l : List UInt8) : (∃ r l', r.length ≤ most ∧ (∀ n ∈ r, inR n = true) ∧ l = intsB r ++ l' ∧ intsK most (l, false) = (r, (l', false))) ∨ intsK most (l, false) = ([], (l, true)) := by
  cases h : getInts l most with
  | none => right; simp [intsK, h]
  | some p =>
    obtain ⟨r, k⟩ := p
    obtain ⟨h1, h2, h3, h4, h5⟩ := getInts_back h
    left
    exact ⟨r, l.drop k, h1, h2, by rw [h5, List.take_append_drop], by simp [intsK, h]⟩
theorem intsK_true (most : Nat) (l : List UInt8) : (intsK most (l, true)).2.2 = true := by
  cases h : getInts l most with
  | none => simp [intsK, h]
  | some p => simp [intsK, h]
theorem next_t (l : List UInt8) : (next (l, true)).2.2 = true := by
  obtain ⟨n, l', h⟩ := next_true l
  rw [h]
theorem textK_t (l : List UInt8) : (Wp.textK (l, true)).2.2 = true := by
  obtain ⟨n, l', h⟩ := Wp.textK_true l
  rw [h]
theorem rd1_true (f : Fld) (c : Cmd) (l : List UInt8) : (rd1 f c (l, true)).2.2 = true := by
  cases f <;> first | exact next_t l | exact textK_t l | exact intsK_true _ l
theorem rdF_true : ∀ (r : List Fld) (c : Cmd) (p : St), p.2 = true → (rdF r c p).2.2 = true
  | [], _, _, h => h
  | f :: r, c, (l, b), h => by
    obtain rfl : b = true := h
    exact rdF_true r _ _ (rd1_true f c l)

theorem rd1_some (f : Fld) (c d : Cmd) (l : List UInt8) (b : Bool) (h : okF c f) : rd1 f d (wr1 f c ++ l, b) = (cp f c d, (l, b)) := by
  have num : ∀ x : Int, 0 ≤ x ∧ x ≤ 1099511627776 → next (enc x.toNat ++ l, b) = (x.toNat, (l, b)) := fun x hx => next_some (by omega) rfl
  have cast : ∀ x : Int, 0 ≤ x ∧ x ≤ 1099511627776 → ((x.toNat : Nat) : Int) = x := fun x hx => by omega
  cases f with
  | mi => simp only [rd1, wr1, cp, num _ h, cast _ h]
  | gs => simp only [rd1, wr1, cp, intsK_some h.1 (by omega) h.2 rfl]
  | mt => simp only [rd1, wr1, cp, num _ h, cast _ h]
  | key => simp only [rd1, wr1, cp, Wp.textK_some (l' := l) (t := c.key) h rfl]
  | body => simp only [rd1, wr1, cp, Wp.textK_some (l' := l) (t := c.body) h rfl]
  | i => simp only [rd1, wr1, cp, num _ h, cast _ h]
  | tm => simp only [rd1, wr1, cp, num _ h, cast _ h]
  | mem => simp only [rd1, wr1, cp, intsK_some h.1 (by omega) h.2 rfl]
  | tp => simp only [rd1, wr1, cp, num _ h, cast _ h]
  | who => simp only [rd1, wr1, cp, num _ h, cast _ h]
  | n => simp only [rd1, wr1, cp, num _ h, cast _ h]
theorem rdF_some : ∀ (r : List Fld) (c d : Cmd) (l : List UInt8) (b : Bool), (∀ f ∈ r, okF c f) → rdF r d (wrF r c ++ l, b) = (cpF r c d, (l, b))
  | [], _, _, _, _, _ => rfl
  | f :: r, c, d, l, b, h => by
    unfold rdF cpF wrF
    rw [List.append_assoc, rd1_some f c d _ b (h f List.mem_cons_self)]
    exact rdF_some r c _ l b fun x hx => h x (List.mem_cons_of_mem _ hx)
theorem rd1_back (f : Fld) (c c' : Cmd) (l l' : List UInt8) (h : rd1 f c (l, false) = (c', (l', false))) : l = wr1 f c' ++ l' ∧ c' = cp f c' c := by
  have num : ∀ (u : Nat → Cmd), (u (next (l, false)).1, (next (l, false)).2) = (c', (l', false)) → ∃ x : Nat, c' = u x ∧ l = enc x ++ l' := by
    intro u h
    rcases next_or l with ⟨n1, l1, hn1, e1, h1⟩ | h1
    · rw [h1] at h
      simp only [Prod.mk.injEq, and_true] at h
      exact ⟨n1, h.1.symm, by rw [e1, h.2]⟩
    · rw [h1] at h
      simp at h
  have ins : ∀ (most : Nat) (u : List Int → Cmd), (u (intsK most (l, false)).1, (intsK most (l, false)).2) = (c', (l', false)) → ∃ x, c' = u x ∧ l = intsB x ++ l' := by
    intro most u h
    rcases intsK_or most l with ⟨r, l1, _, _, e1, h1⟩ | h1
    · rw [h1] at h
      simp only [Prod.mk.injEq, and_true] at h
      exact ⟨r, h.1.symm, by rw [e1, h.2]⟩
    · rw [h1] at h
      simp at h
  have tex : ∀ (u : List UInt8 → Cmd), (u (Wp.textK (l, false)).1, (Wp.textK (l, false)).2) = (c', (l', false)) → ∃ x, c' = u x ∧ l = txt x ++ l' := by
    intro u h
    rcases Wp.textK_or l with ⟨r, l1, _, e1, h1⟩ | h1
    · rw [h1] at h
      simp only [Prod.mk.injEq, and_true] at h
      exact ⟨r, h.1.symm, by rw [e1, h.2]⟩
    · rw [h1] at h
      simp at h
  cases f with
  | mi => obtain ⟨x, rfl, e⟩ := num (fun x => { c with mi := x }) h; exact ⟨by simpa [wr1] using e, rfl⟩
  | gs => obtain ⟨x, rfl, e⟩ := ins 4 (fun x => { c with gs := x }) h; exact ⟨e, rfl⟩
  | mt => obtain ⟨x, rfl, e⟩ := num (fun x => { c with mt := x }) h; exact ⟨by simpa [wr1] using e, rfl⟩
  | key => obtain ⟨x, rfl, e⟩ := tex (fun x => { c with key := x }) h; exact ⟨e, rfl⟩
  | body => obtain ⟨x, rfl, e⟩ := tex (fun x => { c with body := x }) h; exact ⟨e, rfl⟩
  | i => obtain ⟨x, rfl, e⟩ := num (fun x => { c with i := x }) h; exact ⟨by simpa [wr1] using e, rfl⟩
  | tm => obtain ⟨x, rfl, e⟩ := num (fun x => { c with tm := x }) h; exact ⟨by simpa [wr1] using e, rfl⟩
  | mem => obtain ⟨x, rfl, e⟩ := ins 6 (fun x => { c with mem := x }) h; exact ⟨e, rfl⟩
  | tp => obtain ⟨x, rfl, e⟩ := num (fun x => { c with tp := x }) h; exact ⟨by simpa [wr1] using e, rfl⟩
  | who => obtain ⟨x, rfl, e⟩ := num (fun x => { c with who := x }) h; exact ⟨by simpa [wr1] using e, rfl⟩
  | n => obtain ⟨x, rfl, e⟩ := num (fun x => { c with n := x }) h; exact ⟨by simpa [wr1] using e, rfl⟩
theorem wr1_cp {f g : Fld} (h : f ≠ g) (d c : Cmd) : wr1 f (cp g d c) = wr1 f c := by
  cases f <;> cases g <;> first | rfl | exact absurd rfl h
theorem cp_cp {f g : Fld} (h : f ≠ g) (d c e : Cmd) : cp f (cp g d c) e = cp f c e := by
  cases f <;> cases g <;> first | rfl | exact absurd rfl h
theorem wr1_cpF : ∀ (r : List Fld) (f : Fld) (d c : Cmd), f ∉ r → wr1 f (cpF r d c) = wr1 f c
  | [], _, _, _, _ => rfl
  | g :: r, f, d, c, h => by
    unfold cpF
    rw [wr1_cpF r f d _ (fun x => h (List.mem_cons_of_mem _ x)), wr1_cp (fun x => h (by rw [x]; exact List.mem_cons_self))]
theorem cp_cpF : ∀ (r : List Fld) (f : Fld) (d c e : Cmd), f ∉ r → cp f (cpF r d c) e = cp f c e
  | [], _, _, _, _, _ => rfl
  | g :: r, f, d, c, e, h => by
    unfold cpF
    rw [cp_cpF r f d _ e (fun x => h (List.mem_cons_of_mem _ x)), cp_cp (fun x => h (by rw [x]; exact List.mem_cons_self))]
theorem rd1_false {f : Fld} {c : Cmd} {p : St} (h : (rd1 f c p).2.2 = false) : p.2 = false := by
  obtain ⟨l, b⟩ := p
  cases b with
  | false => rfl
  | true => rw [rd1_true] at h; cases h
theorem rdF_false {r : List Fld} {c : Cmd} {p : St} (h : (rdF r c p).2.2 = false) : p.2 = false := by
  obtain ⟨l, b⟩ := p
  cases b with
  | false => rfl
  | true => rw [rdF_true _ _ _ rfl] at h; cases h
theorem rdF_back : ∀ (r : List Fld) (c c' : Cmd) (l l' : List UInt8), r.Nodup → rdF r c (l, false) = (c', (l', false)) → l = wrF r c' ++ l' ∧ c' = cpF r c' c
  | [], c, c', l, l', _, h => by
    unfold rdF at h
    simp only [Prod.mk.injEq, and_true] at h
    obtain ⟨rfl, rfl⟩ := h
    exact ⟨rfl, rfl⟩
  | f :: r, c, c', l, l', hn, h => by
    obtain ⟨hf, hn2⟩ := List.nodup_cons.1 hn
    unfold rdF at h
    obtain ⟨⟨c1, ⟨l1, b1⟩⟩, h1⟩ : ∃ q, rd1 f c (l, false) = q := ⟨_, rfl⟩
    rw [h1] at h
    simp only at h
    have hb : b1 = false := by
      have := rdF_false (r := r) (c := c1) (p := (l1, b1)) (by rw [h])
      exact this
    subst hb
    obtain ⟨e1, d1⟩ := rd1_back f c c1 l l1 h1
    obtain ⟨e2, d2⟩ := rdF_back r c1 c' l1 l' hn2 h
    have w1 : wr1 f c1 = wr1 f c' := by rw [d2, wr1_cpF r f c' c1 hf]
    have w2 : cp f c' c = c1 := by rw [d2, cp_cpF r f c' c1 c hf, ← d1]
    refine ⟨by rw [e1, e2, wrF, List.append_assoc, w1], ?_⟩
    rw [cpF, w2]
    exact d2

theorem incr4_in : ∀ (l : List Int) (lo : Int), -1 ≤ lo → incr4 lo l = true → (∀ x ∈ l, inR x = true) ∧ (lo ≤ 3 → (l.length : Int) ≤ 3 - lo)
  | [], lo, _, _ => ⟨by simp, fun h => by simp; omega⟩
  | n :: l, lo, h0, h => by
    simp only [incr4, Bool.and_eq_true, decide_eq_true_eq] at h
    obtain ⟨⟨h1, h2⟩, h3⟩ := h
    obtain ⟨a, b⟩ := incr4_in l n (by omega) h3
    refine ⟨fun x hx => ?_, fun _ => ?_⟩
    · rcases List.mem_cons.1 hx with rfl | hx
      · exact decide_eq_true ⟨by omega, by omega⟩
      · exact a x hx
    · have := b (by omega)
      simp only [List.length_cons]
      omega
theorem gsB_in {l : List Int} (h : gsB l = true) : l.length ≤ 4 ∧ ∀ x ∈ l, inR x = true := by
  simp only [gsB, Bool.and_eq_true] at h
  obtain ⟨a, b⟩ := incr4_in l (-1) (by omega) h.2
  have := b (by omega)
  exact ⟨by omega, a⟩
theorem incr_in : ∀ (l : List Int) (lo : Int), -1 ≤ lo → Qm.incr lo l = true → ∀ x ∈ l, inR x = true
  | [], _, _, _ => by simp
  | n :: l, lo, h0, h => by
    simp only [Qm.incr, Bool.and_eq_true, decide_eq_true_eq] at h
    obtain ⟨⟨h1, h2⟩, h3⟩ := h
    intro x hx
    rcases List.mem_cons.1 hx with rfl | hx
    · exact decide_eq_true ⟨by omega, by omega⟩
    · exact incr_in l n (by omega) h3 x hx
theorem check_in {l : List Int} (h : Qm.check l = 0) : l.length ≤ 6 ∧ ∀ x ∈ l, inR x = true := by
  unfold Qm.check at h
  split at h
  · cases h
  split at h
  · rename_i h1 h2
    simp only [Qm.may, Bool.and_eq_true] at h2
    exact ⟨by omega, incr_in l (-1) (by omega) h2.2⟩
  · cases h

theorem fields0 : fieldsC 0 = [] := by decide
theorem fields1 : fieldsC 1 = [.mi, .gs, .mt, .key, .body] := by decide
theorem fields2 : fieldsC 2 = [.i, .tm] := by decide
theorem fields3 : fieldsC 3 = [.mem] := by decide
theorem fields4 : fieldsC 4 = [.i, .tp, .who, .n] := by decide
theorem fields5 : fieldsC 5 = [.i, .tp, .n] := by decide
theorem fields6 : fieldsC 6 = [.i, .tp, .n] := by decide

/-- What may be: its numbers are in reach, and it is what its kind's fields tell. -/
theorem mayC_cases {c : Cmd} (h : mayC c = true) : 0 ≤ c.k ∧ c.k ≤ 6 ∧ (∀ f ∈ fieldsC c.k, okF c f) ∧ cpF (fieldsC c.k) c (zeroC c.k) = c ∧ c.key.length ≤ 16 ∧ c.body.length ≤ 64 := by
  obtain ⟨k, mi, gs, mt, key, body, i, tm, mem, tp, who, n⟩ := c
  unfold mayC at h
  simp only [msg0, msgB, Wp.idB, inB] at h ⊢
  split at h
  · rename_i hk
    subst hk
    simp only [Bool.and_eq_true, decide_eq_true_eq, beq_iff_eq, List.isEmpty_iff] at h
    obtain ⟨⟨⟨⟨⟨⟨⟨⟨⟨⟨rfl, rfl⟩, rfl⟩, rfl⟩, rfl⟩, rfl⟩, rfl⟩, rfl⟩, rfl⟩, rfl⟩, rfl⟩ := h
    exact ⟨by omega, by omega, by simp [fields0], rfl, by simp, by simp⟩
  split at h
  · rename_i hk
    subst hk
    simp only [Bool.and_eq_true, decide_eq_true_eq, beq_iff_eq, List.isEmpty_iff] at h
    obtain ⟨⟨⟨⟨⟨⟨⟨⟨⟨⟨h1, h2⟩, h3⟩, h4⟩, h5⟩, rfl⟩, rfl⟩, rfl⟩, rfl⟩, rfl⟩, rfl⟩ := h
    refine ⟨by omega, by omega, ?_, rfl, h4, h5⟩
    intro f hf
    rw [fields1] at hf
    simp only [List.mem_cons, List.not_mem_nil, or_false] at hf
    rcases hf with rfl | rfl | rfl | rfl | rfl
    · exact ⟨by simp only; omega, by simp only; omega⟩
    · exact gsB_in h1
    · exact ⟨by simp only; omega, by simp only; omega⟩
    · show key.length ≤ 4096; omega
    · show body.length ≤ 4096; omega
  split at h
  · rename_i hk
    subst hk
    simp only [Bool.and_eq_true, decide_eq_true_eq, beq_iff_eq, List.isEmpty_iff] at h
    obtain ⟨⟨⟨⟨⟨⟨⟨⟨⟨⟨rfl, rfl⟩, rfl⟩, rfl⟩, rfl⟩, h1⟩, h2⟩, rfl⟩, rfl⟩, rfl⟩, rfl⟩ := h
    refine ⟨by omega, by omega, ?_, rfl, by simp, by simp⟩
    intro f hf
    rw [fields2] at hf
    simp only [List.mem_cons, List.not_mem_nil, or_false] at hf
    rcases hf with rfl | rfl <;> exact ⟨by simp only; omega, by simp only; omega⟩
  split at h
  · rename_i hk
    subst hk
    simp only [Bool.and_eq_true, decide_eq_true_eq, beq_iff_eq, List.isEmpty_iff] at h
    obtain ⟨⟨⟨⟨⟨⟨⟨⟨⟨⟨rfl, rfl⟩, rfl⟩, rfl⟩, rfl⟩, rfl⟩, rfl⟩, h1⟩, rfl⟩, rfl⟩, rfl⟩ := h
    refine ⟨by omega, by omega, ?_, rfl, by simp, by simp⟩
    intro f hf
    rw [fields3] at hf
    simp only [List.mem_cons, List.not_mem_nil, or_false] at hf
    subst hf
    exact check_in h1
  split at h
  · rename_i hk
    subst hk
    simp only [Bool.and_eq_true, decide_eq_true_eq, beq_iff_eq, List.isEmpty_iff] at h
    obtain ⟨⟨⟨⟨⟨⟨⟨⟨⟨⟨rfl, rfl⟩, rfl⟩, rfl⟩, rfl⟩, h1⟩, rfl⟩, rfl⟩, h2⟩, h3⟩, h4⟩ := h
    refine ⟨by omega, by omega, ?_, rfl, by simp, by simp⟩
    intro f hf
    rw [fields4] at hf
    simp only [List.mem_cons, List.not_mem_nil, or_false] at hf
    rcases hf with rfl | rfl | rfl | rfl <;> exact ⟨by simp only; omega, by simp only; omega⟩
  split at h
  · rename_i hk
    simp only [Bool.and_eq_true, decide_eq_true_eq, beq_iff_eq, List.isEmpty_iff] at h
    obtain ⟨⟨⟨⟨⟨⟨⟨⟨⟨⟨rfl, rfl⟩, rfl⟩, rfl⟩, rfl⟩, h1⟩, rfl⟩, rfl⟩, h2⟩, rfl⟩, h4⟩ := h
    refine ⟨by omega, by omega, ?_, ?_, by simp, by simp⟩
    · intro f hf
      have : fieldsC k = [.i, .tp, .n] := by
        rcases hk with rfl | rfl
        · exact fields5
        · exact fields6
      rw [this] at hf
      simp only [List.mem_cons, List.not_mem_nil, or_false] at hf
      rcases hf with rfl | rfl | rfl <;> exact ⟨by simp only; omega, by simp only; omega⟩
    · rcases hk with rfl | rfl <;> rfl
  · cases h

theorem fields_nodup (k : Int) : (fieldsC k).Nodup := by
  unfold fieldsC
  repeat' split
  all_goals decide

theorem readC_bytes {c : Cmd} (h : mayC c = true) : readC (bytesC c) = some c := by
  obtain ⟨h1, h2, h3, h4, -, -⟩ := mayC_cases h
  have a1 := next_some (n := c.k.toNat) (b := false) (by omega) (show bytesC c = enc c.k.toNat ++ wrF (fieldsC c.k) c from rfl)
  have e1 : ((min c.k.toNat 255 : Nat) : Int) = c.k := by omega
  have e5 := rdF_some (fieldsC c.k) c (zeroC c.k) [] false h3
  rw [List.append_nil, h4] at e5
  simp only [readC, a1, e1, e5]
  rw [if_pos ⟨trivial, trivial, h⟩]

theorem cpF_k : ∀ (r : List Fld) (d c : Cmd), (cpF r d c).k = c.k
  | [], _, _ => rfl
  | f :: r, d, c => by
    unfold cpF
    rw [cpF_k r]
    cases f <;> rfl

theorem readC_back {l : List UInt8} {c : Cmd} (h : readC l = some c) : mayC c = true ∧ bytesC c = l := by
  simp only [readC] at h
  split at h
  rotate_left
  · cases h
  rename_i hc
  obtain ⟨c1, c2, c3⟩ := hc
  injection h with h
  rw [h] at c3
  refine ⟨c3, ?_⟩
  have t1 := rdF_false c1
  rcases next_or l with ⟨n1, l1, hn1, e1, h1⟩ | h1
  rotate_left
  · rw [h1] at t1; cases t1
  rw [h1] at c1 c2 h
  simp only at c1 c2 h
  generalize hr : rdF (fieldsC ((min n1 255 : Nat) : Int)) (zeroC ((min n1 255 : Nat) : Int)) (l1, false) = r at c1 c2 h
  obtain ⟨m', l', b'⟩ := r
  simp only at c1 c2 h
  subst c1 c2 h
  obtain ⟨a1, a2⟩ := rdF_back _ _ _ _ _ (fields_nodup _) hr
  have hk := mayC_cases c3
  have ek : m'.k = ((min n1 255 : Nat) : Int) := by rw [a2, cpF_k]; rfl
  have e5 : min n1 255 = n1 := by have := hk.2.1; omega
  rw [e5] at a1 ek
  rw [List.append_nil] at a1
  rw [bytesC, ek, Int.toNat_natCast, ← a1, ← e1]

/-- No beginning of a command's bytes is another one's. -/
theorem bytesC_apart {c d : Cmd} (h : mayC c = true) (h' : mayC d = true) {r : List UInt8} (e : bytesC c = bytesC d ++ r) : r = [] := by
  obtain ⟨h1, h2, h3, h4, -, -⟩ := mayC_cases h
  obtain ⟨g1, g2, g3, g4, -, -⟩ := mayC_cases h'
  unfold bytesC at e
  rw [List.append_assoc] at e
  have f1 := enc_inj (by omega) (by omega) e
  rw [f1] at e
  have e := List.append_cancel_left e
  have hk : c.k = d.k := by omega
  have r1 := rdF_some (fieldsC c.k) c (zeroC 0) [] false h3
  have r2 := rdF_some (fieldsC d.k) d (zeroC 0) r false g3
  rw [List.append_nil, e, hk, r2] at r1
  injection r1 with _ r1
  injection r1 with r1 _

theorem intsB_len {l : List Int} {m : Nat} (h : l.length ≤ m) (hm : m ≤ 100) (hi : ∀ x ∈ l, inR x = true) : (intsB l).length ≤ 6 + 6 * m := by
  unfold intsB
  rw [List.length_append]
  have h1 := many_len l hi
  have h2 := enc_len6 (n := l.length) (by omega)
  omega
theorem wr1_len {c : Cmd} (f : Fld) (h : okF c f) (hk : c.key.length ≤ 16) (hb : c.body.length ≤ 64) : (wr1 f c).length ≤ 70 := by
  have num : ∀ x : Int, 0 ≤ x ∧ x ≤ 1099511627776 → (enc x.toNat).length ≤ 70 := fun x hx => by have := enc_len6 (n := x.toNat) (by omega); omega
  cases f with
  | gs => have := intsB_len h.1 (by omega) h.2; show (intsB c.gs).length ≤ 70; omega
  | mem => have := intsB_len h.1 (by omega) h.2; show (intsB c.mem).length ≤ 70; omega
  | key => show (txt c.key).length ≤ 70; unfold txt; rw [List.length_append]; have := enc_len6 (n := c.key.length) (by omega); omega
  | body => show (txt c.body).length ≤ 70; unfold txt; rw [List.length_append]; have := enc_len6 (n := c.body.length) (by omega); omega
  | mi => exact num _ h
  | mt => exact num _ h
  | i => exact num _ h
  | tm => exact num _ h
  | tp => exact num _ h
  | who => exact num _ h
  | n => exact num _ h
theorem wrF_len {c : Cmd} (hk : c.key.length ≤ 16) (hb : c.body.length ≤ 64) : ∀ (r : List Fld), (∀ f ∈ r, okF c f) → (wrF r c).length ≤ 70 * r.length
  | [], _ => by simp [wrF]
  | f :: r, h => by
    have h1 := wr1_len f (h f List.mem_cons_self) hk hb
    have h2 := wrF_len hk hb r fun x hx => h x (List.mem_cons_of_mem _ hx)
    simp only [wrF, List.length_append, List.length_cons]
    omega
theorem fieldsC_len (k : Int) : (fieldsC k).length ≤ 5 := by
  unfold fieldsC
  repeat' split
  all_goals decide
theorem bytesC_len {c : Cmd} (h : mayC c = true) : 1 ≤ (bytesC c).length ∧ (bytesC c).length ≤ 356 := by
  obtain ⟨h1, h2, h3, h4, h5, h6⟩ := mayC_cases h
  have a := enc_len6 (n := c.k.toNat) (by omega)
  have b := wrF_len h5 h6 _ h3
  have d := fieldsC_len c.k
  have e := enc_len_pos c.k.toNat
  unfold bytesC
  rw [List.length_append]
  omega
end Cp
end Go.Proofs.Ytaoekfgeggopbaa
