/-
  Layer 23 in plain Lean: which mail may be, its bytes, and how bytes are read; what is written is read, and what is read is written so.
-/
import Derived.Test.YtaoekfgeggopbaaRecordPlain
namespace Go.Proofs.Ytaoekfgeggopbaa
open Go.RowKit
set_option linter.unusedVariables false
namespace Wp
open Nm Rp

structure Mail where
  f : Int
  t : Int
  k : Int
  g : Int
  s : Int
  b : Int
  p : Int
  v : List UInt8
  i : Int
  tm : Int

/-- A kind's letters: s 115, b 98, p 112, v 118, i 105, t 116. -/
def fieldsL (k : Int) : List UInt8 :=
  if k = 1 then [115, 98] else if k = 2 then [115, 98, 112, 118] else if k = 3 then [115, 98, 118] else if k = 4 then [115, 98] else if k = 5 then [115, 98, 112]
  else if k = 6 then [115, 118] else if k = 7 then [115] else if k = 8 then [105, 116] else if k = 9 then [118] else []
def Mail.get (m : Mail) (c : UInt8) : Int := if c = 115 then m.s else if c = 98 then m.b else if c = 112 then m.p else if c = 105 then m.i else m.tm
def Mail.put (m : Mail) (c : UInt8) (n : Int) : Mail :=
  if c = 115 then { m with s := n } else if c = 98 then { m with b := n } else if c = 112 then { m with p := n } else if c = 105 then { m with i := n } else { m with tm := n }
def slotB (n : Int) : Bool := decide (1 ≤ n ∧ n ≤ 200)
def idB (n : Int) : Bool := decide (0 ≤ n ∧ n ≤ 6291455)
def timeB (n : Int) : Bool := decide (1 ≤ n ∧ n ≤ 1073741824)
/-- May a kind's numbers be? -/
def kindB (m : Mail) : Bool :=
  if m.k = 1 ∨ m.k = 4 then slotB m.s && Bal.may m.b && m.p == 0 && m.v.isEmpty && m.i == 0 && m.tm == 0
  else if m.k = 2 then slotB m.s && Bal.may m.b && (m.p == 0 && m.v.isEmpty || Bal.may m.p) && m.i == 0 && m.tm == 0
  else if m.k = 3 then slotB m.s && Bal.may m.b && m.p == 0 && m.i == 0 && m.tm == 0
  else if m.k = 5 then slotB m.s && Bal.may m.b && Bal.may m.p && m.v.isEmpty && m.i == 0 && m.tm == 0
  else if m.k = 6 then slotB m.s && m.b == 0 && m.p == 0 && m.i == 0 && m.tm == 0
  else if m.k = 7 then (slotB m.s || m.s == 201) && m.b == 0 && m.p == 0 && m.v.isEmpty && m.i == 0 && m.tm == 0
  else if m.k = 8 then idB m.i && timeB m.tm && m.s == 0 && m.b == 0 && m.p == 0 && m.v.isEmpty
  else if m.k = 9 then m.s == 0 && m.b == 0 && m.p == 0 && m.i == 0 && m.tm == 0
  else false
def headB (m : Mail) : Bool := decide (0 ≤ m.f ∧ m.f ≤ 5) && decide (0 ≤ m.t ∧ m.t ≤ 5) && decide (0 ≤ m.g ∧ m.g ≤ 3) && decide (m.v.length ≤ 1024)
def mayM (m : Mail) : Bool := headB m && kindB m

def wrF : List UInt8 → Mail → List UInt8
  | [], _ => []
  | c :: cs, m => (if c = 118 then txt m.v else enc (m.get c).toNat) ++ wrF cs m
def bytesM (m : Mail) : List UInt8 := enc m.f.toNat ++ (enc m.t.toNat ++ (enc m.k.toNat ++ (enc m.g.toNat ++ wrF (fieldsL m.k) m)))

def textK (p : St) : List UInt8 × St := match getText p.1 with
  | some (t, k) => (t, (p.1.drop k, p.2))
  | none => ([], (p.1, true))
def rdF : List UInt8 → Mail → St → Mail × St
  | [], m, p => (m, p)
  | c :: cs, m, p => if c = 118 then rdF cs { m with v := (textK p).1 } (textK p).2 else rdF cs (m.put c (next p).1) (next p).2
def zeroM (f t k g : Int) : Mail := ⟨f, t, k, g, 0, 0, 0, [], 0, 0⟩
def readM (l : List UInt8) : Option Mail :=
  let a := next (l, false)
  let b := next a.2
  let c := next b.2
  let d := next c.2
  let k : Int := ((min c.1 255 : Nat) : Int)
  let r := rdF (fieldsL k) (zeroM a.1 b.1 k d.1) d.2
  if r.2.2 = false ∧ r.2.1 = [] ∧ mayM r.1 = true then some r.1 else none

theorem textK_some {l l' t : List UInt8} {b : Bool} (ht : t.length ≤ 4096) (h : l = txt t ++ l') : textK (l, b) = (t, (l', b)) := by
  subst h
  simp [textK, getText_txt ht]
theorem textK_or (l : List UInt8) : (∃ t l', t.length ≤ 4096 ∧ l = txt t ++ l' ∧ textK (l, false) = (t, (l', false))) ∨ textK (l, false) = ([], (l, true)) := by
  cases h : getText l with
  | none => right; simp [textK, h]
  | some p =>
    obtain ⟨t, k⟩ := p
    obtain ⟨h1, h2, h3, h4, h5⟩ := getText_back h
    left
    exact ⟨t, l.drop k, h1, by rw [h4, List.take_append_drop], by simp [textK, h]⟩
theorem textK_true (l : List UInt8) : ∃ t l', textK (l, true) = (t, (l', true)) := by
  cases h : getText l with
  | none => exact ⟨_, _, by simp [textK, h]; exact ⟨rfl, rfl⟩⟩
  | some p => exact ⟨p.1, l.drop p.2, by simp [textK, h]⟩
theorem rdF_true : ∀ (cs : List UInt8) (m : Mail) (l : List UInt8), (rdF cs m (l, true)).2.2 = true
  | [], _, _ => rfl
  | c :: cs, m, l => by
    unfold rdF
    split
    · obtain ⟨t, l', h⟩ := textK_true l
      rw [h]
      exact rdF_true cs _ l'
    · obtain ⟨n, l', h⟩ := next_true l
      rw [h]
      exact rdF_true cs _ l'

/-- Letters of numbers. -/
def letter (c : UInt8) : Prop := c = 115 ∨ c = 98 ∨ c = 112 ∨ c = 105 ∨ c = 116
theorem get_put (m : Mail) (c : UInt8) (n : Int) : (m.put c n).get c = n := by
  unfold Mail.put Mail.get
  split
  · rfl
  · split
    · rfl
    · split
      · rfl
      · split <;> rfl
theorem get_other (m : Mail) {c d : UInt8} (n : Int) (hc : letter c) (hd : letter d) (h : d ≠ c) : (m.put c n).get d = m.get d := by
  rcases hc with rfl | rfl | rfl | rfl | rfl <;> rcases hd with rfl | rfl | rfl | rfl | rfl <;> first | exact absurd rfl h | rfl
theorem put_keep (m : Mail) (c : UInt8) (n : Int) : (m.put c n).f = m.f ∧ (m.put c n).t = m.t ∧ (m.put c n).k = m.k ∧ (m.put c n).g = m.g ∧ (m.put c n).v = m.v := by
  unfold Mail.put
  split
  · exact ⟨rfl, rfl, rfl, rfl, rfl⟩
  · split
    · exact ⟨rfl, rfl, rfl, rfl, rfl⟩
    · split
      · exact ⟨rfl, rfl, rfl, rfl, rfl⟩
      · split <;> exact ⟨rfl, rfl, rfl, rfl, rfl⟩

theorem rdF_back : ∀ (cs : List UInt8) (m m' : Mail) (l l' : List UInt8), cs.Nodup → (∀ c ∈ cs, c = 118 ∨ letter c) → rdF cs m (l, false) = (m', (l', false)) →
    l = wrF cs m' ++ l' ∧ (∀ d, letter d → d ∉ cs → m'.get d = m.get d) ∧ (118 ∉ cs → m'.v = m.v) ∧ m'.f = m.f ∧ m'.t = m.t ∧ m'.k = m.k ∧ m'.g = m.g
  | [], m, m', l, l', _, _, h => by
    unfold rdF at h
    injection h with h1 h2
    injection h2 with h2 _
    subst h1 h2
    exact ⟨rfl, fun _ _ _ => rfl, fun _ => rfl, rfl, rfl, rfl, rfl⟩
  | c :: cs, m, m', l, l', hn, hl, h => by
    obtain ⟨hc, hn2⟩ := List.nodup_cons.1 hn
    have hl2 : ∀ x ∈ cs, x = 118 ∨ letter x := fun x hx => hl x (List.mem_cons_of_mem _ hx)
    unfold rdF at h
    by_cases h118 : c = 118
    · rw [if_pos h118] at h
      subst h118
      rcases textK_or l with ⟨t, l1, ht, e, h1⟩ | h1
      rotate_left
      · rw [h1] at h
        have := rdF_true cs { m with v := [] } l
        rw [h] at this
        cases this
      rw [h1] at h
      obtain ⟨a1, a2, a3, a4, a5, a6, a7⟩ := rdF_back cs _ m' l1 l' hn2 hl2 h
      refine ⟨?_, fun d hd hm => ?_, fun hm => absurd List.mem_cons_self hm, a4, a5, a6, a7⟩
      · rw [e, a1]
        simp only [wrF, if_true]
        rw [a3 hc, List.append_assoc]
      · rw [a2 d hd (fun x => hm (List.mem_cons_of_mem _ x))]
        rfl
    · rw [if_neg h118] at h
      have hlc : letter c := (hl c List.mem_cons_self).resolve_left h118
      rcases next_or l with ⟨n, l1, hn1, e, h1⟩ | h1
      rotate_left
      · rw [h1] at h
        have := rdF_true cs (m.put c ((0 : Nat) : Int)) l
        rw [h] at this
        cases this
      rw [h1] at h
      obtain ⟨a1, a2, a3, a4, a5, a6, a7⟩ := rdF_back cs _ m' l1 l' hn2 hl2 h
      obtain ⟨k1, k2, k3, k4, k5⟩ := put_keep m c (n : Int)
      refine ⟨?_, fun d hd hm => ?_, fun hm => ?_, a4.trans k1, a5.trans k2, a6.trans k3, a7.trans k4⟩
      · rw [e, a1]
        simp only [wrF, if_neg h118]
        rw [a2 c hlc hc, get_put, Int.toNat_natCast, List.append_assoc]
      · have hm2 := fun x => hm (List.mem_cons_of_mem _ x)
        have hne : d ≠ c := fun x => hm (x ▸ List.mem_cons_self)
        rw [a2 d hd hm2, get_other m _ hlc hd hne]
      · rw [a3 (fun x => hm (List.mem_cons_of_mem _ x)), k5]

/-- What of a mail is told by letters. -/
def mrg : List UInt8 → Mail → Mail → Mail
  | [], _, m0 => m0
  | c :: cs, m, m0 => if c = 118 then mrg cs m { m0 with v := m.v } else mrg cs m (m0.put c (m.get c))
theorem rdF_some : ∀ (cs : List UInt8) (m m0 : Mail) (l : List UInt8) (b : Bool), m.v.length ≤ 4096 → (∀ c ∈ cs, c ≠ 118 → 0 ≤ m.get c ∧ m.get c ≤ 1099511627776) → rdF cs m0 (wrF cs m ++ l, b) = (mrg cs m m0, (l, b))
  | [], _, _, _, _, _, _ => rfl
  | c :: cs, m, m0, l, b, hv, hb => by
    unfold rdF mrg wrF
    by_cases h118 : c = 118
    · rw [if_pos h118, if_pos h118, if_pos h118, textK_some hv (List.append_assoc _ _ _)]
      exact rdF_some cs m _ l b hv fun x hx => hb x (List.mem_cons_of_mem _ hx)
    · obtain ⟨g1, g2⟩ := hb c List.mem_cons_self h118
      rw [if_neg h118, if_neg h118, if_neg h118, next_some (n := (m.get c).toNat) (by omega) (List.append_assoc _ _ _)]
      simp only
      rw [show (((m.get c).toNat : Nat) : Int) = m.get c by omega]
      exact rdF_some cs m _ l b hv fun x hx => hb x (List.mem_cons_of_mem _ hx)

/-- What may be, kind by kind. -/
theorem mayM_cases {m : Mail} (h : mayM m = true) : (0 ≤ m.f ∧ m.f ≤ 5) ∧ (0 ≤ m.t ∧ m.t ≤ 5) ∧ (0 ≤ m.g ∧ m.g ≤ 3) ∧ m.v.length ≤ 1024 ∧ (1 ≤ m.k ∧ m.k ≤ 9) ∧
    (0 ≤ m.s ∧ m.s ≤ 201) ∧ (0 ≤ m.b ∧ m.b ≤ 8388613) ∧ (0 ≤ m.p ∧ m.p ≤ 8388613) ∧ (0 ≤ m.i ∧ m.i ≤ 6291455) ∧ (0 ≤ m.tm ∧ m.tm ≤ 1073741824) ∧ mrg (fieldsL m.k) m (zeroM m.f m.t m.k m.g) = m := by
  obtain ⟨f, t, k, g, s, b, p, v, i, tm⟩ := m
  simp only [mayM, headB, Bool.and_eq_true, decide_eq_true_eq] at h
  obtain ⟨⟨⟨⟨h1, h2⟩, h3⟩, h4⟩, h5⟩ := h
  unfold kindB at h5
  simp only at h5 ⊢
  have mb : ∀ x, Bal.may x = true → 8 ≤ x ∧ x ≤ 8388613 := fun x hx => ⟨(Bal.may_yes hx).1, (Bal.may_yes hx).2.1⟩
  refine ⟨h1, h2, h3, h4, ?_⟩
  by_cases k1 : k = 1
  · subst k1
    simp [slotB] at h5
    obtain ⟨⟨⟨⟨⟨a1, a2⟩, rfl⟩, rfl⟩, rfl⟩, rfl⟩ := h5
    have := mb _ a2
    exact ⟨by omega, by omega, by omega, by omega, by omega, by omega, rfl⟩
  by_cases k2 : k = 2
  · subst k2
    simp [slotB] at h5
    obtain ⟨⟨⟨⟨a1, a2⟩, a3⟩, rfl⟩, rfl⟩ := h5
    have := mb _ a2
    have : 0 ≤ p ∧ p ≤ 8388613 := by
      rcases a3 with ⟨rfl, _⟩ | a3
      · omega
      · have := mb _ a3; omega
    exact ⟨by omega, by omega, by omega, by omega, by omega, by omega, rfl⟩
  by_cases k3 : k = 3
  · subst k3
    simp [slotB] at h5
    obtain ⟨⟨⟨⟨a1, a2⟩, rfl⟩, rfl⟩, rfl⟩ := h5
    have := mb _ a2
    exact ⟨by omega, by omega, by omega, by omega, by omega, by omega, rfl⟩
  by_cases k4 : k = 4
  · subst k4
    simp [slotB] at h5
    obtain ⟨⟨⟨⟨⟨a1, a2⟩, rfl⟩, rfl⟩, rfl⟩, rfl⟩ := h5
    have := mb _ a2
    exact ⟨by omega, by omega, by omega, by omega, by omega, by omega, rfl⟩
  by_cases k5 : k = 5
  · subst k5
    simp [slotB] at h5
    obtain ⟨⟨⟨⟨⟨a1, a2⟩, a3⟩, rfl⟩, rfl⟩, rfl⟩ := h5
    have := mb _ a2
    have := mb _ a3
    exact ⟨by omega, by omega, by omega, by omega, by omega, by omega, rfl⟩
  by_cases k6 : k = 6
  · subst k6
    simp [slotB] at h5
    obtain ⟨⟨⟨⟨a1, rfl⟩, rfl⟩, rfl⟩, rfl⟩ := h5
    exact ⟨by omega, by omega, by omega, by omega, by omega, by omega, rfl⟩
  by_cases k7 : k = 7
  · subst k7
    simp [slotB] at h5
    obtain ⟨⟨⟨⟨⟨a1, rfl⟩, rfl⟩, rfl⟩, rfl⟩, rfl⟩ := h5
    have : 0 ≤ s ∧ s ≤ 201 := by rcases a1 with a1 | a1 <;> omega
    exact ⟨by omega, by omega, by omega, by omega, by omega, by omega, rfl⟩
  by_cases k8 : k = 8
  · subst k8
    simp [idB, timeB] at h5
    obtain ⟨⟨⟨⟨⟨a1, a2⟩, rfl⟩, rfl⟩, rfl⟩, rfl⟩ := h5
    exact ⟨by omega, by omega, by omega, by omega, by omega, by omega, rfl⟩
  by_cases k9 : k = 9
  · subst k9
    simp at h5
    obtain ⟨⟨⟨⟨rfl, rfl⟩, rfl⟩, rfl⟩, rfl⟩ := h5
    exact ⟨by omega, by omega, by omega, by omega, by omega, by omega, rfl⟩
  · simp [k1, k2, k3, k4, k5, k6, k7, k8, k9] at h5

theorem fields_nodup (k : Int) : (fieldsL k).Nodup ∧ ∀ c ∈ fieldsL k, c = 118 ∨ letter c := by
  unfold fieldsL letter
  repeat' split
  all_goals decide

theorem readM_bytes {m : Mail} (h : mayM m = true) : readM (bytesM m) = some m := by
  obtain ⟨h1, h2, h3, h4, h5, h6, h7, h8, h9, h10, h11⟩ := mayM_cases h
  have a1 := next_some (n := m.f.toNat) (b := false) (by omega) (show bytesM m = _ from rfl)
  have a2 := next_some (n := m.t.toNat) (b := false) (by omega) (show _ = enc m.t.toNat ++ (enc m.k.toNat ++ (enc m.g.toNat ++ wrF (fieldsL m.k) m)) from rfl)
  have a3 := next_some (n := m.k.toNat) (b := false) (by omega) (show _ = enc m.k.toNat ++ (enc m.g.toNat ++ wrF (fieldsL m.k) m) from rfl)
  have a4 := next_some (n := m.g.toNat) (b := false) (by omega) (show _ = enc m.g.toNat ++ wrF (fieldsL m.k) m from rfl)
  have e1 : ((min m.k.toNat 255 : Nat) : Int) = m.k := by omega
  have e2 : ((m.f.toNat : Nat) : Int) = m.f := by omega
  have e3 : ((m.t.toNat : Nat) : Int) = m.t := by omega
  have e4 : ((m.g.toNat : Nat) : Int) = m.g := by omega
  have e5 := rdF_some (fieldsL m.k) m (zeroM m.f m.t m.k m.g) [] false (by omega) (by
    intro c hc hne
    unfold Mail.get
    repeat' split
    all_goals omega)
  rw [List.append_nil, h11] at e5
  simp only [readM, a1, a2, a3, a4, e1, e2, e3, e4, e5]
  rw [if_pos ⟨trivial, trivial, h⟩]

theorem readM_back {l : List UInt8} {m : Mail} (h : readM l = some m) : mayM m = true ∧ bytesM m = l := by
  simp only [readM] at h
  split at h
  rotate_left
  · cases h
  rename_i hc
  obtain ⟨c1, c2, c3⟩ := hc
  injection h with h
  rw [h] at c3
  refine ⟨c3, ?_⟩
  have tr : ∀ (cs : List UInt8) (m0 : Mail) (p : St), (rdF cs m0 p).2.2 = false → p.2 = false := by
    intro cs m0 p hp
    obtain ⟨q, b⟩ := p
    cases b with
    | false => rfl
    | true => rw [rdF_true] at hp; cases hp
  have nt : ∀ (p : St), (next p).2.2 = false → p.2 = false := by
    intro p hp
    obtain ⟨q, b⟩ := p
    cases b with
    | false => rfl
    | true => obtain ⟨n, l', e⟩ := next_true q; rw [e] at hp; cases hp
  have t4 := tr _ _ _ c1
  have t3 := nt _ t4
  have t2 := nt _ t3
  have t1 := nt _ t2
  rcases next_or l with ⟨n1, l1, hn1, e1, h1⟩ | h1
  rotate_left
  · rw [h1] at t1; cases t1
  rw [h1] at c1 c2 h t2 t3 t4
  simp only at c1 c2 h t2 t3 t4
  rcases next_or l1 with ⟨n2, l2, hn2, e2, h2⟩ | h2
  rotate_left
  · rw [h2] at t2; cases t2
  rw [h2] at c1 c2 h t3 t4
  simp only at c1 c2 h t3 t4
  rcases next_or l2 with ⟨n3, l3, hn3, e3, h3⟩ | h3
  rotate_left
  · rw [h3] at t3; cases t3
  rw [h3] at c1 c2 h t4
  simp only at c1 c2 h t4
  rcases next_or l3 with ⟨n4, l4, hn4, e4, h4⟩ | h4
  rotate_left
  · rw [h4] at t4; cases t4
  rw [h4] at c1 c2 h
  simp only at c1 c2 h
  generalize hr : rdF (fieldsL ((min n3 255 : Nat) : Int)) (zeroM n1 n2 ((min n3 255 : Nat) : Int) n4) (l4, false) = r at c1 c2 h
  obtain ⟨m', l', b'⟩ := r
  simp only at c1 c2 h
  subst c1 c2 h
  obtain ⟨w1, w2⟩ := fields_nodup ((min n3 255 : Nat) : Int)
  obtain ⟨a1, _, _, a4, a5, a6, a7⟩ := rdF_back _ _ _ _ _ w1 w2 hr
  simp only [zeroM] at a4 a5 a6 a7
  have hk := (mayM_cases c3).2.2.2.2.1
  have e5 : min n3 255 = n3 := by rw [a6] at hk; omega
  rw [e5] at a1 a6
  rw [List.append_nil] at a1
  rw [bytesM, a4, a5, a6, a7]
  simp only [Int.toNat_natCast]
  rw [← a1, ← e4, ← e3, ← e2, ← e1]

/-- No beginning of a mail's bytes is another one's. -/
theorem bytesM_apart {m m' : Mail} (h : mayM m = true) (h' : mayM m' = true) {r : List UInt8} (e : bytesM m = bytesM m' ++ r) : r = [] := by
  have key : ∀ (m : Mail) (h : mayM m = true) (r : List UInt8), ∃ a b c d : Nat, bytesM m ++ r = enc a ++ (enc b ++ (enc c ++ (enc d ++ (wrF (fieldsL m.k) m ++ r)))) ∧ m.f = a ∧ m.t = b ∧ m.k = c ∧ m.g = d ∧ a ≤ 1099511627776 ∧ b ≤ 1099511627776 ∧ c ≤ 1099511627776 ∧ d ≤ 1099511627776 := by
    intro m h r
    obtain ⟨h1, h2, h3, h4, h5, _⟩ := mayM_cases h
    exact ⟨m.f.toNat, m.t.toNat, m.k.toNat, m.g.toNat, by simp [bytesM], by omega, by omega, by omega, by omega, by omega, by omega, by omega, by omega⟩
  obtain ⟨a, b, c, d, x1, x2, x3, x4, x5, x6, x7, x8, x9⟩ := key m h []
  obtain ⟨a', b', c', d', y1, y2, y3, y4, y5, y6, y7, y8, y9⟩ := key m' h' r
  rw [List.append_nil] at x1
  rw [x1, y1] at e
  have f1 := enc_inj x6 y6 e
  subst f1
  have e := List.append_cancel_left e
  have f2 := enc_inj x7 y7 e
  subst f2
  have e := List.append_cancel_left e
  have f3 := enc_inj x8 y8 e
  subst f3
  have e := List.append_cancel_left e
  have f4 := enc_inj x9 y9 e
  subst f4
  have e := List.append_cancel_left e
  have hk : m.k = m'.k := by rw [x4, y4]
  obtain ⟨h1, h2, h3, h4, h5, h6, h7, h8, h9, h10, h11⟩ := mayM_cases h
  obtain ⟨g1, g2, g3, g4, g5, g6, g7, g8, g9, g10, g11⟩ := mayM_cases h'
  have r1 := rdF_some (fieldsL m.k) m (zeroM 0 0 0 0) [] false (by omega) (by
    intro c hc hne
    unfold Mail.get
    repeat' split
    all_goals omega)
  have r2 := rdF_some (fieldsL m'.k) m' (zeroM 0 0 0 0) r false (by omega) (by
    intro c hc hne
    unfold Mail.get
    repeat' split
    all_goals omega)
  rw [e, hk, r2] at r1
  injection r1 with _ r1
  injection r1 with r1 _
end Wp
end Go.Proofs.Ytaoekfgeggopbaa
