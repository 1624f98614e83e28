/-
  wire.Read: the call's answer.
-/
import Derived.Test.YtmchnjnknnolmaaWireRead
import Derived.Test.YtmchnjnknnolmaaWireWriteW
namespace Go.Proofs.Ytmchnjnknnolmaa
open Go.RowKit Bal Go.Sort Go.BigFrame
set_option maxHeartbeats 16000000
set_option maxRecDepth 100000
set_option linter.unusedVariables false
set_option linter.unusedSimpArgs false

def zM : Wp.Mail := Wp.zeroM 0 0 0 0
def mailV (o : Option Wp.Mail) : Value := match o with
  | some m => .tuple #[.agg (mA m), .int .i64 0]
  | none => .tuple #[.agg (mA zM), .int .i64 8]
/-- What lies there between two readings. -/
def RdM (w0 : World) (gb gk go : Nat) (l : List UInt8) (bad : Bool) (w : World) : Prop :=
  ∃ (A : Option Addr) (n c : Nat), Blk w gb 75 #[.slice A n c] ∧ Blk w gk 4 #[.bool !bad] ∧ Blk w go 25 (mA zM) ∧ Reads w w0.heap.size 1 A n (cb l) ∧ n ≤ c ∧ c ≤ 9223372036854775807 ∧ n ≤ 4096 ∧ Below w0.heap.size w0 w ∧ w0.heap.size ≤ gb ∧ w0.heap.size ≤ gk
theorem RdM.below {w0 w w' : World} {gb gk go : Nat} {l : List UInt8} {bad : Bool} (h : RdM w0 gb gk go l bad w) (hb : Below w.heap.size w w') : RdM w0 gb gk go l bad w' := by
  obtain ⟨A, n, c, h1, h2, h3, h4, h5, h6, h7, h8, h9, h10⟩ := h
  exact ⟨A, n, c, h1.below hb h1.lt, h2.below hb h2.lt, h3.below hb h3.lt, h4.below (hb.mono h8.size), h5, h6, h7, h8.trans (hb.mono h8.size), h9, h10⟩
theorem RdM.far {w0 w : World} {gb gk go : Nat} {l : List UInt8} {bad : Bool} (h : RdM w0 gb gk go l bad w) {p : Addr} (h1 : gb ≠ p.block) (h2 : gk ≠ p.block) (h3 : go ≠ p.block) (h4 : w0.heap.size ≤ p.block) (u : Value) : RdM w0 gb gk go l bad (w.setCell p u) := by
  obtain ⟨A, n, c, q1, q2, q3, q4, q5, q6, q7, q8, q9, q10⟩ := h
  exact ⟨A, n, c, q1.far h1 u, q2.far h2 u, q3.far h3 u, q4.setCell h4 u, q5, q6, q7, q8.setCell h4 u, q9, q10⟩
def L3 (w : World) (gb gk go gm gc cap : Nat) (F : ByteArray) (fl : List UInt8) (R : Wp.Mail × Rp.St) (x : Value) (wr : World) : Prop :=
  ∃ (j : Nat) (lj : List UInt8) (bj : Bool) (M : Wp.Mail), x = .int .i64 (j : Int) ∧ j ≤ fl.length ∧ RdM w gb gk go lj bj wr ∧ Blk wr gm 25 (mA M) ∧ CvB wr gc F cap ∧ Wp.rdF (fl.drop j) M (lj, bj) = R ∧ IsMailM M
theorem RdM.bb {w0 w : World} {gb gk go : Nat} {l : List UInt8} {bad : Bool} (h : RdM w0 gb gk go l bad w) : ∃ x, Blk w gb 75 #[x] := by
  obtain ⟨A, n, c, h1, _⟩ := h
  exact ⟨_, h1⟩
theorem RdM.bk {w0 w : World} {gb gk go : Nat} {l : List UInt8} {bad : Bool} (h : RdM w0 gb gk go l bad w) : ∃ x, Blk w gk 4 #[x] := by
  obtain ⟨A, n, c, _, h1, _⟩ := h
  exact ⟨_, h1⟩
theorem CvB.ne_e {w : World} {g g' cap : Nat} {s : ByteArray} {t : TypeId} (h : CvB w g s cap) (h' : ∃ x, Blk w g' t #[x]) : g ≠ g' := by
  obtain ⟨x, h'⟩ := h'
  exact h.ne_ h'
theorem next_le' (p : Rp.St) : (Rp.next p).1 ≤ 1099511627776 := by
  unfold Rp.next
  cases h : Nm.get p.1 with
  | none => simp
  | some q => obtain ⟨m, k⟩ := q; exact (Nm.get_back h).1
theorem put_IsM {m : Wp.Mail} (h : IsMailM m) (c : UInt8) (n : Int) (h0 : -9223372036854775808 ≤ n) (h1 : n ≤ 9223372036854775807) : IsMailM (m.put c n) := by
  obtain ⟨a1, a2, a3, a4, a5, a6, a7, a8, a9, a10⟩ := h
  have hn : inI n := ⟨h0, h1⟩
  unfold Wp.Mail.put
  repeat' split
  all_goals exact ⟨a1, a2, a3, a4, a5, by assumption, by assumption, by assumption, by assumption, by assumption⟩

theorem RdM.upd {w0 w w' : World} {gb gk go : Nat} {l l' : List UInt8} {bad bad' : Bool} {A : Option Addr} {n c : Nat} (h : RdM w0 gb gk go l bad w) (h1 : Blk w' gb 75 #[.slice A n c]) (h2 : Blk w' gk 4 #[.bool !bad']) (o : Only2 gb gk w w')
    (hr : Reads w w0.heap.size 1 A n (cb l')) (hc : n ≤ c) (hm : c ≤ 9223372036854775807) (hn : n ≤ 4096) : RdM w0 gb gk go l' bad' w' := by
  obtain ⟨_, _, _, q1, q2, q3, q4, q5, q6, q7, q8, q9, q10⟩ := h
  exact ⟨A, n, c, h1, h2, o.blk q3 (q3.ne_ q1 (by decide)) (q3.ne_ q2 (by decide)), hr.below (o.below q9 q10), hc, hm, hn, q8.trans (o.below q9 q10), q9, q10⟩
theorem set_o {w W : World} (h : Below w.heap.size w W) (i : Nat) (u : Value) : Below w.heap.size w (W.setCell ⟨w.heap.size + 1, i, none⟩ u) := h.setCell (Nat.le_succ _) u
end Go.Proofs.Ytmchnjnknnolmaa
