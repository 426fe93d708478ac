/-
  DERIVED. GIVEN WITH THE SEED: THE CARDS: each row of YtdohmppildfjhaaGreatDoorRows.lean that lists a variable, with what it lists TIED to the program's text (the seventh form; the later family's looks); each row that meets fmt, with fmt's text TOLD by the authors' own Lean function (tested against real Go, not proved from fmt's source: count such statements apart). THE CARD IS WHAT COUNTS. Prove the row's statement (the work); the ties are given (YtdohmppildfjhaaGreatDoorTie.lean); close each card by the builder's one call (the guide's Derived/Test/ToyasCard.lean, 'card_holds'). Laid BY PROGRAM, IN A SANDBOX (cutbox-door.mjs). By AI agents, Wed Nov 11 2026. No macro, syntax, notation, axiom, sorry.
-/
import Derived.Test.YtdohmppildfjhaaGreatDoorRows
import GoSem.ClaimSeven
namespace Go.Proofs.YtdohmppildfjhaaGreatDoor
namespace Rows

/-- THE TIED CARD OF 'tallymarklaw28.BoundsTails'. -/
def boundsTailsCard : Claim7 := { stood := { row := boundsTailsRow, standIns := [], harness := (true, "5a0c92c61cfaa8ae62239248f277927d050f947c66c0078c0c0e18c87b5362ed"), looks := false }, kinds := [], alts := [], laidByText := true, laidKinds := [.data, .data, .data], laidTests := true, laidLooks := .later }
def BoundsTailsCardSaid : Prop := Claim7.holds Tryz.pinned (.plain (OpenSpec.ofChange boundsTailsSpec)) boundsTailsCard

/-- THE SECOND FORM's CARD OF 'tallymarklaw28.BoundsTails'. -/
def boundsTailsUptoCard : Claim7 := { stood := { row := boundsTailsUptoRow, standIns := [], harness := (true, "5a0c92c61cfaa8ae62239248f277927d050f947c66c0078c0c0e18c87b5362ed"), looks := false }, kinds := [], alts := [], laidByText := true, laidKinds := [.data, .data, .data], laidTests := true, laidLooks := .later }
def BoundsTailsUptoCardSaid : Prop := Claim7.holds Tryz.pinned (.plain (OpenSpec.upto boundsTailsSpec)) boundsTailsUptoCard
end Rows
end Go.Proofs.YtdohmppildfjhaaGreatDoor
