/-
  DERIVED. GIVEN WITH THE SEED: THE CARDS: each row of YtnfmpphlkalbfaaGreatDoorRows.lean that lists a variable, with what it lists TIED to the program's text (the seventh form; the later family's looks); each row that meets fmt, with fmt's text TOLD by the authors' own Lean function (tested against real Go, not proved from fmt's source: count such statements apart). THE CARD IS WHAT COUNTS. Prove the row's statement (the work); the ties are given (YtnfmpphlkalbfaaGreatDoorTie.lean); close each card by the builder's one call (the guide's Derived/Test/ToyasCard.lean, 'card_holds'). Laid BY PROGRAM, IN A SANDBOX (cutbox-door.mjs). By AI agents, Wed Nov 11 2026. No macro, syntax, notation, axiom, sorry.
-/
import Derived.Test.YtnfmpphlkalbfaaGreatDoorRows
import GoSem.ClaimSeven
namespace Go.Proofs.YtnfmpphlkalbfaaGreatDoor
namespace Rows

/-- THE TIED CARD OF 'tallymarklaw28.BoundsErrors'. -/
def boundsErrorsCard : Claim7 := { stood := { row := boundsErrorsRow, standIns := [], harness := (true, "a3922ce94803329f048cee36f678a5dbc2dbac76912868f04a49ffc428e8695c"), looks := true }, kinds := [], alts := [], laidByText := true, laidKinds := [.data, .data, .data], laidTests := true, laidLooks := .later }
def BoundsErrorsCardSaid : Prop := Claim7.holds Tryz.pinned (.plain (OpenSpec.ofChange boundsErrorsSpec)) boundsErrorsCard

/-- THE TIED CARD OF 'tallymarklaw28.BoundsExps'. -/
def boundsExpsCard : Claim7 := { stood := { row := boundsExpsRow, standIns := [], harness := (true, "a3922ce94803329f048cee36f678a5dbc2dbac76912868f04a49ffc428e8695c"), looks := true }, kinds := [], alts := [], laidByText := true, laidKinds := [.data, .data, .data, .data, .sentinel, .sentinel, .pinned], laidTests := true, laidLooks := .later }
def BoundsExpsCardSaid : Prop := Claim7.holds Tryz.pinned (.plain (OpenSpec.ofChange boundsExpsSpec)) boundsExpsCard

/-- THE SECOND FORM's CARD OF 'tallymarklaw28.BoundsErrors'. -/
def boundsErrorsUptoCard : Claim7 := { stood := { row := boundsErrorsUptoRow, standIns := [], harness := (true, "a3922ce94803329f048cee36f678a5dbc2dbac76912868f04a49ffc428e8695c"), looks := true }, kinds := [], alts := [], laidByText := true, laidKinds := [.data, .data, .data], laidTests := true, laidLooks := .later }
def BoundsErrorsUptoCardSaid : Prop := Claim7.holds Tryz.pinned (.plain (OpenSpec.upto boundsErrorsSpec)) boundsErrorsUptoCard

/-- THE SECOND FORM's CARD OF 'tallymarklaw28.BoundsExps'. -/
def boundsExpsUptoCard : Claim7 := { stood := { row := boundsExpsUptoRow, standIns := [], harness := (true, "a3922ce94803329f048cee36f678a5dbc2dbac76912868f04a49ffc428e8695c"), looks := true }, kinds := [], alts := [], laidByText := true, laidKinds := [.data, .data, .data, .data, .sentinel, .sentinel, .pinned], laidTests := true, laidLooks := .later }
def BoundsExpsUptoCardSaid : Prop := Claim7.holds Tryz.pinned (.plain (OpenSpec.upto boundsExpsSpec)) boundsExpsUptoCard
end Rows
end Go.Proofs.YtnfmpphlkalbfaaGreatDoor
