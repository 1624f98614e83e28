/-
  The walk of DiskDoes. No condition.
-/
import Derived.Test.YthmbjmknifkbaaaDiskSees
import Derived.Test.YthmbjmknifkbaaaDiskTurn
import Derived.Test.YthmbjmknifkbaaaDiskRefB
import Derived.Test.YthmbjmknifkbaaaDiskRefD
import Derived.Test.YthmbjmknifkbaaaQuiet
namespace Go.Proofs.Ythmbjmknifkbaaa
open Go.RowKit Go.Sort
set_option maxHeartbeats 16000000
set_option maxRecDepth 100000
set_option linter.unusedVariables false
set_option linter.unusedSimpArgs false

/-! ### one form per call of the reference -/
theorem rwrite_is (D : HD) (sw : Bool) (A : Option Addr) (n c : Nat) (d : List UInt8) (w : World) (R : Dp.Disk) (r : Int) (hr : Dp.write D.disk ⟨sw, d⟩ = (R, r)) (h : DiskAt w w.heap.size D) (hs : Sm D.disk) (hp' : PutAt w w.heap.size ⟨sw, A, n, c, d⟩) (hn : n ≤ 2000000) :
    Calls Try.prog 21 #[.agg #[.slice D.A D.n D.c, .slice D.WA D.Wn D.Wc], .agg #[.bool sw, .slice A n c]] w fun e w' => ∃ D', e = .returned (.tuple #[.agg #[.slice D'.A D'.n D'.c, .slice D'.WA D'.Wn D'.Wc], .int .i64 r]) ∧ OwnDisk w' w.heap.size D' ∧ D'.disk = R ∧ Below w.heap.size w w' := by
  have := rwrite_any D ⟨sw, A, n, c, d⟩ w h hs hp' hn
  rw [show Dp.write D.disk (HP.put ⟨sw, A, n, c, d⟩) = (R, r) from hr] at this
  exact this
theorem rsee_is (D : HD) (w : World) (R : List UInt8) (r : Int) (hr : Dp.see D.disk = (R, r)) (h : DiskAt w w.heap.size D) (hs : Sm D.disk) :
    Calls Try.prog 19 #[.agg #[.slice D.A D.n D.c, .slice D.WA D.Wn D.Wc]] w fun e w' => ∃ A2 c2 m, e = .returned (.tuple #[.slice A2 m c2, .int .i64 r]) ∧ R.length = m ∧ w'.ownsRow w.heap.size 5 1 (.slice A2 m c2) m (cb R) ∧ Below w.heap.size w w' := by
  have := rsee_any D w h hs
  rw [hr] at this
  exact this
theorem own_touch {lo hi lo' hi' base n size : Nat} {w w' : World} {e : TypeId} {v : Value} {xs : List Value} (h : w.ownsRow base e size v n xs) (k : ∀ g, v.ownBlock = some g → lo' ≤ g ∧ g < hi') (t : Touch lo hi w w') (hd : hi' ≤ lo ∨ hi ≤ lo') : w'.ownsRow base e size v n xs :=
  own_keep h fun g hg => t.block g (own_lt h hg).2 (by have := k g hg; omega)
theorem eD_is (b : Bool) : (eD b == 0) = b := by cases b <;> rfl
theorem OwnDisk.zero {w : World} {base : Nat} {D : HD} (h : OwnDisk w base D) : OwnDisk w 0 D := h.mono (Nat.zero_le _)

end Go.Proofs.Ythmbjmknifkbaaa
