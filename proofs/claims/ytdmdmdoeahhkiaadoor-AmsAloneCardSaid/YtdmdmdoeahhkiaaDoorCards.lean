/-
  DERIVED. GIVEN WITH THE SEED: THE CARDS: each row of YtdmdmdoeahhkiaaDoorRows.lean that lists a variable, with what it lists TIED to the program's text (the seventh form; the later family's looks); each row that meets fmt, with fmt's text TOLD by the authors' own Lean function (tested against real Go, not proved from fmt's source: count such statements apart). THE CARD IS WHAT COUNTS. Prove the row's statement (the work); the ties are given (YtdmdmdoeahhkiaaDoorTie.lean); close each card by the builder's one call (the guide's Derived/Test/ToyasCard.lean, 'card_holds'). Laid BY PROGRAM, IN A SANDBOX (cutbox-door.mjs). By AI agents, Wed Nov 11 2026. No macro, syntax, notation, axiom, sorry.
-/
import Derived.Test.YtdmdmdoeahhkiaaDoorRows
import GoSem.ClaimSeven
namespace Go.Proofs.YtdmdmdoeahhkiaaDoor
namespace Rows

/-- THE TIED CARD OF 'tallymarklaw22.AmsMeans'. -/
def amsMeansCard : Claim7 := { stood := { row := amsMeansRow, standIns := [], harness := (true, "5cc2e92103262b9de7e8c14b36b81778943fb8880d91310a7455a9ee765e317b"), looks := false }, kinds := [], alts := [], laidByText := true, laidKinds := [.data, .data, .data], laidTests := true, laidLooks := .later }
def AmsMeansCardSaid : Prop := Claim7.holds Tryd.pinned (.plain (OpenSpec.ofChange amsMeansSpec)) amsMeansCard

/-- THE TIED CARD OF 'tallymarklaw22.AmsAlone'. -/
def amsAloneCard : Claim7 := { stood := { row := amsAloneRow, standIns := [], harness := (true, "5cc2e92103262b9de7e8c14b36b81778943fb8880d91310a7455a9ee765e317b"), looks := false }, kinds := [], alts := [], laidByText := true, laidKinds := [.data, .data, .data], laidTests := true, laidLooks := .later }
def AmsAloneCardSaid : Prop := Claim7.holds Tryd.pinned (.plain (OpenSpec.ofChange amsAloneSpec)) amsAloneCard

/-- THE SECOND FORM's CARD OF 'tallymarklaw22.AmsMeans'. -/
def amsMeansUptoCard : Claim7 := { stood := { row := amsMeansUptoRow, standIns := [], harness := (true, "5cc2e92103262b9de7e8c14b36b81778943fb8880d91310a7455a9ee765e317b"), looks := false }, kinds := [], alts := [], laidByText := true, laidKinds := [.data, .data, .data], laidTests := true, laidLooks := .later }
def AmsMeansUptoCardSaid : Prop := Claim7.holds Tryd.pinned (.plain (OpenSpec.upto amsMeansSpec)) amsMeansUptoCard

/-- THE SECOND FORM's CARD OF 'tallymarklaw22.AmsAlone'. -/
def amsAloneUptoCard : Claim7 := { stood := { row := amsAloneUptoRow, standIns := [], harness := (true, "5cc2e92103262b9de7e8c14b36b81778943fb8880d91310a7455a9ee765e317b"), looks := false }, kinds := [], alts := [], laidByText := true, laidKinds := [.data, .data, .data], laidTests := true, laidLooks := .later }
def AmsAloneUptoCardSaid : Prop := Claim7.holds Tryd.pinned (.plain (OpenSpec.upto amsAloneSpec)) amsAloneUptoCard
end Rows
end Go.Proofs.YtdmdmdoeahhkiaaDoor
