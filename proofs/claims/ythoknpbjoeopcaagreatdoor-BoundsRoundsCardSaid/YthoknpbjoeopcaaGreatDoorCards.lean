/-
  DERIVED. GIVEN WITH THE SEED: THE CARDS: each row of YthoknpbjoeopcaaGreatDoorRows.lean that lists a variable, with what it lists TIED to the program's text (the seventh form; the later family's looks); each row that meets fmt, with fmt's text TOLD by the authors' own Lean function (tested against real Go, not proved from fmt's source: count such statements apart). THE CARD IS WHAT COUNTS. Prove the row's statement (the work); the ties are given (YthoknpbjoeopcaaGreatDoorTie.lean); close each card by the builder's one call (the guide's Derived/Test/ToyasCard.lean, 'card_holds'). Laid BY PROGRAM, IN A SANDBOX (cutbox-door.mjs). By AI agents, Wed Nov 11 2026. No macro, syntax, notation, axiom, sorry.
-/
import Derived.Test.YthoknpbjoeopcaaGreatDoorRows
import GoSem.ClaimSeven
namespace Go.Proofs.YthoknpbjoeopcaaGreatDoor
namespace Rows

/-- THE TIED CARD OF 'tallymarktop.TallyNumbers'. -/
def tallyNumbersCard : Claim7 := { stood := { row := tallyNumbersRow, standIns := [], harness := (true, "f06566cb8c351e744aa57822a2518150949fdeb942b8e3e7932f88d54e97de7e"), looks := true }, kinds := [], alts := [], laidByText := true, laidKinds := [.data, .data, .data, .data, .sentinel, .sentinel, .pinned], laidTests := true, laidLooks := .later }
def TallyNumbersCardSaid : Prop := Claim7.holds Tryz.pinned (.plain (OpenSpec.ofChange tallyNumbersSpec)) tallyNumbersCard

/-- THE TIED CARD OF 'tallymarktop.TallyFractions'. -/
def tallyFractionsCard : Claim7 := { stood := { row := tallyFractionsRow, standIns := [], harness := (true, "f06566cb8c351e744aa57822a2518150949fdeb942b8e3e7932f88d54e97de7e"), looks := true }, kinds := [], alts := [], laidByText := true, laidKinds := [.data, .data, .data, .data, .sentinel, .sentinel, .pinned], laidTests := true, laidLooks := .later }
def TallyFractionsCardSaid : Prop := Claim7.holds Tryz.pinned (.plain (OpenSpec.ofChange tallyFractionsSpec)) tallyFractionsCard

/-- THE TIED CARD OF 'tallymarklaw28.BoundsRounds'. -/
def boundsRoundsCard : Claim7 := { stood := { row := boundsRoundsRow, standIns := [], harness := (true, "f06566cb8c351e744aa57822a2518150949fdeb942b8e3e7932f88d54e97de7e"), looks := true }, kinds := [], alts := [], laidByText := true, laidKinds := [.data, .data, .data], laidTests := true, laidLooks := .later }
def BoundsRoundsCardSaid : Prop := Claim7.holds Tryz.pinned (.plain (OpenSpec.ofChange boundsRoundsSpec)) boundsRoundsCard

/-- THE TIED CARD OF 'tallymarklaw28.BoundsErrors'. -/
def boundsErrorsCard : Claim7 := { stood := { row := boundsErrorsRow, standIns := [], harness := (true, "f06566cb8c351e744aa57822a2518150949fdeb942b8e3e7932f88d54e97de7e"), looks := true }, kinds := [], alts := [], laidByText := true, laidKinds := [.data, .data, .data], laidTests := true, laidLooks := .later }
def BoundsErrorsCardSaid : Prop := Claim7.holds Tryz.pinned (.plain (OpenSpec.ofChange boundsErrorsSpec)) boundsErrorsCard

/-- THE TIED CARD OF 'tallymarklaw28.BoundsExps'. -/
def boundsExpsCard : Claim7 := { stood := { row := boundsExpsRow, standIns := [], harness := (true, "f06566cb8c351e744aa57822a2518150949fdeb942b8e3e7932f88d54e97de7e"), looks := true }, kinds := [], alts := [], laidByText := true, laidKinds := [.data, .data, .data, .data, .sentinel, .sentinel, .pinned], laidTests := true, laidLooks := .later }
def BoundsExpsCardSaid : Prop := Claim7.holds Tryz.pinned (.plain (OpenSpec.ofChange boundsExpsSpec)) boundsExpsCard

/-- THE SECOND FORM's CARD OF 'tallymarktop.TallyNumbers'. -/
def tallyNumbersUptoCard : Claim7 := { stood := { row := tallyNumbersUptoRow, standIns := [], harness := (true, "f06566cb8c351e744aa57822a2518150949fdeb942b8e3e7932f88d54e97de7e"), looks := true }, kinds := [], alts := [], laidByText := true, laidKinds := [.data, .data, .data, .data, .sentinel, .sentinel, .pinned], laidTests := true, laidLooks := .later }
def TallyNumbersUptoCardSaid : Prop := Claim7.holds Tryz.pinned (.plain (OpenSpec.upto tallyNumbersSpec)) tallyNumbersUptoCard

/-- THE SECOND FORM's CARD OF 'tallymarktop.TallyFractions'. -/
def tallyFractionsUptoCard : Claim7 := { stood := { row := tallyFractionsUptoRow, standIns := [], harness := (true, "f06566cb8c351e744aa57822a2518150949fdeb942b8e3e7932f88d54e97de7e"), looks := true }, kinds := [], alts := [], laidByText := true, laidKinds := [.data, .data, .data, .data, .sentinel, .sentinel, .pinned], laidTests := true, laidLooks := .later }
def TallyFractionsUptoCardSaid : Prop := Claim7.holds Tryz.pinned (.plain (OpenSpec.upto tallyFractionsSpec)) tallyFractionsUptoCard

/-- THE SECOND FORM's CARD OF 'tallymarklaw28.BoundsRounds'. -/
def boundsRoundsUptoCard : Claim7 := { stood := { row := boundsRoundsUptoRow, standIns := [], harness := (true, "f06566cb8c351e744aa57822a2518150949fdeb942b8e3e7932f88d54e97de7e"), looks := true }, kinds := [], alts := [], laidByText := true, laidKinds := [.data, .data, .data], laidTests := true, laidLooks := .later }
def BoundsRoundsUptoCardSaid : Prop := Claim7.holds Tryz.pinned (.plain (OpenSpec.upto boundsRoundsSpec)) boundsRoundsUptoCard

/-- THE SECOND FORM's CARD OF 'tallymarklaw28.BoundsErrors'. -/
def boundsErrorsUptoCard : Claim7 := { stood := { row := boundsErrorsUptoRow, standIns := [], harness := (true, "f06566cb8c351e744aa57822a2518150949fdeb942b8e3e7932f88d54e97de7e"), looks := true }, kinds := [], alts := [], laidByText := true, laidKinds := [.data, .data, .data], laidTests := true, laidLooks := .later }
def BoundsErrorsUptoCardSaid : Prop := Claim7.holds Tryz.pinned (.plain (OpenSpec.upto boundsErrorsSpec)) boundsErrorsUptoCard

/-- THE SECOND FORM's CARD OF 'tallymarklaw28.BoundsExps'. -/
def boundsExpsUptoCard : Claim7 := { stood := { row := boundsExpsUptoRow, standIns := [], harness := (true, "f06566cb8c351e744aa57822a2518150949fdeb942b8e3e7932f88d54e97de7e"), looks := true }, kinds := [], alts := [], laidByText := true, laidKinds := [.data, .data, .data, .data, .sentinel, .sentinel, .pinned], laidTests := true, laidLooks := .later }
def BoundsExpsUptoCardSaid : Prop := Claim7.holds Tryz.pinned (.plain (OpenSpec.upto boundsExpsSpec)) boundsExpsUptoCard
end Rows
end Go.Proofs.YthoknpbjoeopcaaGreatDoor
