/-
  wire.Write: the call's answer.
-/
import Derived.Test.YtmchnjnknnolmaaWireWrite
namespace Go.Proofs.Ytmchnjnknnolmaa
open Go.RowKit Bal
set_option maxHeartbeats 16000000
set_option maxRecDepth 100000
set_option linter.unusedVariables false
set_option linter.unusedSimpArgs false

def hd (m : Wp.Mail) (j : Nat) : List UInt8 := ([m.f, m.t, m.k, m.g].take j).flatMap fun n => Nm.enc n.toNat
theorem wrF_snoc (m : Wp.Mail) (c : UInt8) : ∀ cs : List UInt8, Wp.wrF (cs ++ [c]) m = Wp.wrF cs m ++ (if c = 118 then Nm.txt m.v else Nm.enc (m.get c).toNat)
  | [] => by simp [Wp.wrF]
  | d :: cs => by simp [Wp.wrF, wrF_snoc m c cs]
theorem bytesM_hd (m : Wp.Mail) : Wp.bytesM m = hd m 4 ++ Wp.wrF (Wp.fieldsL m.k) m := by simp [Wp.bytesM, hd]
theorem wrF_len (m : Wp.Mail) (hv : m.v.length ≤ 1024) (hb : ∀ c, 0 ≤ m.get c ∧ m.get c ≤ 1099511627776) : ∀ cs : List UInt8, (Wp.wrF cs m).length ≤ 1030 * cs.length
  | [] => Nat.le_refl _
  | d :: cs => by
    have ih := wrF_len m hv hb cs
    have h1 := Nm.enc_len6 (n := m.v.length) (by omega)
    have h2 := Nm.enc_len6 (n := (m.get d).toNat) (by have := hb d; omega)
    simp only [Wp.wrF, List.length_append, List.length_cons]
    split
    · simp only [Nm.txt, List.length_append]; omega
    · omega
theorem hd_len (m : Wp.Mail) (j : Nat) (hf : m.f ≤ 5) (ht : m.t ≤ 5) (hk : m.k ≤ 255) (hg : m.g ≤ 3) : (hd m j).length ≤ 24 := by
  have h1 := Nm.enc_len6 (n := m.f.toNat) (by omega)
  have h2 := Nm.enc_len6 (n := m.t.toNat) (by omega)
  have h3 := Nm.enc_len6 (n := m.k.toNat) (by omega)
  have h4 := Nm.enc_len6 (n := m.g.toNat) (by omega)
  unfold hd
  match j with
  | 0 => simp
  | 1 => simp; omega
  | 2 => simp; omega
  | 3 => simp; omega
  | j + 4 => simp; omega
theorem fields_short (k : Int) : (Wp.fieldsL k).length ≤ 4 := by
  unfold Wp.fieldsL
  repeat' split
  all_goals decide
theorem mayM_get {m : Wp.Mail} (h : Wp.mayM m = true) (c : UInt8) : 0 ≤ m.get c ∧ m.get c ≤ 1099511627776 := by
  obtain ⟨_, _, _, _, _, h6, h7, h8, h9, h10, _⟩ := Wp.mayM_cases h
  unfold Wp.Mail.get
  repeat' split
  all_goals omega
def L1 (m : Wp.Mail) (w : World) (gm gb gi : Nat) (x : Value) (wr : World) : Prop :=
  ∃ j : Nat, x = .int .i64 (j : Int) ∧ j ≤ 4 ∧ MSt w gm gb (mA m) (hd m j) wr ∧ Blk wr gi 3 #[.int .i64 m.f, .int .i64 m.t, .int .i64 m.k, .int .i64 m.g]
def L2 (m : Wp.Mail) (w : World) (gm gb gc cap : Nat) (F : ByteArray) (x : Value) (wr : World) : Prop :=
  ∃ j : Nat, x = .int .i64 (j : Int) ∧ j ≤ (Wp.fieldsL m.k).length ∧ MSt w gm gb (mA m) (hd m 4 ++ Wp.wrF ((Wp.fieldsL m.k).take j) m) wr ∧ CvB wr gc F cap

end Go.Proofs.Ytmchnjnknnolmaa
