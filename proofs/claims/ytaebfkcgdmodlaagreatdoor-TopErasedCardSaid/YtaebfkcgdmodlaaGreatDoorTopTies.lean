/-
  Facts of the row of TopErased.
-/
import Derived.Test.YtaebfkcgdmodlaaGreatDoorJ00
import Derived.Test.YtaebfkcgdmodlaaGreatDoorRows
import Derived.KernelRfl
import Derived.ProofKit
import Derived.JoinedOf
import Derived.SevenTiedAt
namespace Go.Proofs.YtaebfkcgdmodlaaGreatDoor.topErased
open Go.ChangeShapes Go.WideShapes Go.ChangeAt Go.RowKit
set_option maxRecDepth 100000
theorem m1:Rows.topErasedRow.wfByText (OpenSpec.ofChange Rows.topErasedSpec)=true:=by kernel_rfl
theorem m2 : Tryz.pinned.checked.prog.mainIs = some (true, "d42c619ac0b59dbdd857c1e24883a4b254b9552cdaa31ddb99f79d6e9ee53d02".toList) := by kernel_rfl
theorem m3:true=Tryz.pinned.checked.prog.looks []:=by kernel_rfl
theorem m4:false=Rows.topErasedRow.goesBy Tryz.pinned.checked.prog:=by kernel_rfl
theorem m5:Tryz.pinned.checked.prog.wantsStandIn 3=false:=by kernel_rfl
theorem m6:Tryz.pinned.checked.prog.wantsStandIn 22=false:=by kernel_rfl
theorem m7:Tryz.pinned.checked.prog.wantsStandIn 23=false:=by kernel_rfl
theorem m8:Tryz.pinned.checked.prog.funcNamed Rows.topErasedRow.func=some 3:=by kernel_rfl
theorem m9:Tryz.pinned.checked.prog.funcs[3]?=some Tryz.f3:=by kernel_rfl
end Go.Proofs.YtaebfkcgdmodlaaGreatDoor.topErased
