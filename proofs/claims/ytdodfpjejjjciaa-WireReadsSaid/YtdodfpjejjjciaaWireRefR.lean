/-
  The reference of layer 23: Read, of any bytes.
-/
import Derived.Test.YtdodfpjejjjciaaWireRefRA
import Derived.Test.YtdodfpjejjjciaaWireRefRB
import Derived.Test.YtdodfpjejjjciaaWireRefRC
import Derived.Test.YtdodfpjejjjciaaWireRefRD
import Derived.Test.YtdodfpjejjjciaaWireRefRE
namespace Go.Proofs.Ytdodfpjejjjciaa
open Go.RowKit Bal
set_option linter.unusedVariables false

theorem rread23_any (A : Option Addr) (n c : Nat) (l : List UInt8) (w : World) (hr : Reads w w.heap.size 1 A n (cb l)) (hnc : n ≤ c) (hc : c ≤ 9223372036854775807) (hn : n ≤ 4096) :
    Calls Try.prog 24 #[.slice A n c] w fun e w' => e = .returned (mailV (Wp.readM l)) ∧ Below w.heap.size w w' := by
  rw [← Wp.rread_eqM]
  unfold Wp.rreadM
  cases h : Wp.numsN 4 l with
  | none => exact rread23_none A n c l w hr hnc hc hn h
  | some p =>
    obtain ⟨xs, rest⟩ := p
    have hl := (Wp.numsN_back _ _ _ _ h).1
    match xs, hl, h with
    | [f, t, k, g], _, h =>
      by_cases hk : 1 ≤ k ∧ k ≤ 9
      · simp only [if_pos hk]
        rcases Wp.kind_cases hk.1 hk.2 with rfl | rfl | rfl | rfl | rfl | rfl | rfl | rfl | rfl
        · exact rread23_1 A n c l rest f t g w hr hnc hc hn h
        · exact rread23_2 A n c l rest f t g w hr hnc hc hn h
        · exact rread23_3 A n c l rest f t g w hr hnc hc hn h
        · exact rread23_4 A n c l rest f t g w hr hnc hc hn h
        · exact rread23_5 A n c l rest f t g w hr hnc hc hn h
        · exact rread23_6 A n c l rest f t g w hr hnc hc hn h
        · exact rread23_7 A n c l rest f t g w hr hnc hc hn h
        · exact rread23_8 A n c l rest f t g w hr hnc hc hn h
        · exact rread23_9 A n c l rest f t g w hr hnc hc hn h
      · simp only [if_neg hk]
        exact rread23_kind A n c l rest f t k g w hr hnc hc hn h hk
end Go.Proofs.Ytdodfpjejjjciaa
