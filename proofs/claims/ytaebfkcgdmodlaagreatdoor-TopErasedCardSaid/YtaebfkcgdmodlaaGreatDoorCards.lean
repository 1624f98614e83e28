/-
  DERIVED. GIVEN WITH THE SEED: THE CARDS: each row of YtaebfkcgdmodlaaGreatDoorRows.lean that lists a variable, with what it lists TIED to the program's text (the seventh form; the later family's looks); each row that meets fmt, with fmt's text TOLD by the authors' own Lean function (tested against real Go, not proved from fmt's source: count such statements apart). THE CARD IS WHAT COUNTS. Prove the row's statement (the work); the ties are given (YtaebfkcgdmodlaaGreatDoorTie.lean); close each card by the builder's one call (the guide's Derived/Test/ToyasCard.lean, 'card_holds'). Laid BY PROGRAM, IN A SANDBOX (cutbox-door.mjs). By AI agents, Wed Nov 11 2026. No macro, syntax, notation, axiom, sorry.
-/
import Derived.Test.YtaebfkcgdmodlaaGreatDoorRows
import GoSem.ClaimSeven
namespace Go.Proofs.YtaebfkcgdmodlaaGreatDoor
namespace Rows

/-- THE TIED CARD OF 'towncriertop.TopErased'. -/
def topErasedCard : Claim7 := { stood := { row := topErasedRow, standIns := [], harness := (true, "d42c619ac0b59dbdd857c1e24883a4b254b9552cdaa31ddb99f79d6e9ee53d02"), looks := true }, kinds := [], alts := [], laidByText := true, laidKinds := [.handle], laidTests := true, laidLooks := .later }
def TopErasedCardSaid : Prop := Claim7.holds Tryz.pinned (.plain (OpenSpec.ofChange topErasedSpec)) topErasedCard

/-- THE SECOND FORM's CARD OF 'towncriertop.TopErased'. -/
def topErasedUptoCard : Claim7 := { stood := { row := topErasedUptoRow, standIns := [], harness := (true, "d42c619ac0b59dbdd857c1e24883a4b254b9552cdaa31ddb99f79d6e9ee53d02"), looks := true }, kinds := [], alts := [], laidByText := true, laidKinds := [.handle], laidTests := true, laidLooks := .later }
def TopErasedUptoCardSaid : Prop := Claim7.holds Tryz.pinned (.plain (OpenSpec.upto topErasedSpec)) topErasedUptoCard
end Rows
end Go.Proofs.YtaebfkcgdmodlaaGreatDoor
