/-
  A region that draws its order, whose callees may lay new memory and hand back values that hang on no world: contracts in the form that the kit's lexical walk of such a region takes (the class of worlds: what was there is as it was).
-/
import Derived.Test.YtaoekfgeggopbaaBase
import Derived.Lib.QuietBelow
namespace Go.Proofs.Ytaoekfgeggopbaa
open Go.RowKit Go.Sort

/-- A contract, in every world in which what was there is as it was. -/
theorem qb {P : Program} {f : FuncId} {args : Array Value} {W : World} {v : Value} (h : ∀ cur, Below W.heap.size W cur → Calls P f args cur fun e w' => e = .returned v ∧ Below cur.heap.size cur w') :
    ∀ d os, Calls P f args (grow (redrawn W d) os) fun e w'' => e = .returned v ∧ ∃ p : Regrown, w'' = grow (redrawn W p.d) p.os :=
  fun d os => Calls.regrown_of (h _ (below_regrown W d os))
theorem qb_same {P : Program} {f : FuncId} {args : Array Value} {W : World} {v : Value} (h : ∀ cur, Below W.heap.size W cur → Calls P f args cur fun e w' => e = .returned v ∧ cur = w') :
    ∀ d os, Calls P f args (grow (redrawn W d) os) fun e w'' => e = .returned v ∧ ∃ p : Regrown, w'' = grow (redrawn W p.d) p.os :=
  qb fun cur hc => (h cur hc).mono fun _ _ ⟨he, hw⟩ => ⟨he, hw ▸ Below.refl _ _⟩
theorem qb_drawn {P : Program} {f : FuncId} {args : Array Value} {W : World} {v : Value} (h : ∀ cur, Below W.heap.size W cur → Calls P f args cur fun e w' => e = .returned v ∧ ∃ q, w' = cur.drewN q) :
    ∀ d os, Calls P f args (grow (redrawn W d) os) fun e w'' => e = .returned v ∧ ∃ p : Regrown, w'' = grow (redrawn W p.d) p.os :=
  qb fun cur hc => (h cur hc).mono fun _ _ ⟨he, q, hw⟩ => ⟨he, by rw [hw]; exact below_drewN (Below.refl _ _) q⟩
theorem Reads.regrown {W : World} {B size n : Nat} {A : Option Addr} {xs : List Value} (h : Reads W B size A n xs) (hB : B ≤ W.heap.size) (d : Nat) (os : Array Obj) : Reads (grow (redrawn W d) os) B size A n xs := h.below ((below_regrown W d os).mono hB)
end Go.Proofs.Ytaoekfgeggopbaa
