/-
  DERIVED. GIVEN WITH THE SEED: THE CARDS: each row of YthlndppcjcjmlaaDoorRows.lean that lists a variable, with what it lists TIED to the program's text (the seventh form; the later family's looks); each row that meets fmt, with fmt's text TOLD by the authors' own Lean function (tested against real Go, not proved from fmt's source: count such statements apart). THE CARD IS WHAT COUNTS. Prove the row's statement (the work); the ties are given (YthlndppcjcjmlaaDoorTie.lean); close each card by the builder's one call (the guide's Derived/Test/ToyasCard.lean, 'card_holds'). Laid BY PROGRAM, IN A SANDBOX (cutbox-door.mjs). By AI agents, Wed Nov 11 2026. No macro, syntax, notation, axiom, sorry.
-/
import Derived.Test.YthlndppcjcjmlaaDoorRows
import GoSem.ClaimSeven
namespace Go.Proofs.YthlndppcjcjmlaaDoor
namespace Rows

/-- THE TIED CARD OF 'tallymarklaw07.RatPowers'. -/
def ratPowersCard : Claim7 := { stood := { row := ratPowersRow, standIns := [], harness := (true, "4f60ae1d47d4b6f973f4b43d04f871186c2323b50019fb6c652253f24ddb2af9"), looks := false }, kinds := [], alts := [], laidByText := true, laidKinds := [.data, .data, .data], laidTests := true, laidLooks := .later }
def RatPowersCardSaid : Prop := Claim7.holds Tryd.pinned (.plain (OpenSpec.ofChange ratPowersSpec)) ratPowersCard

/-- THE TIED CARD OF 'tallymarklaw07.RatField'. -/
def ratFieldCard : Claim7 := { stood := { row := ratFieldRow, standIns := [], harness := (true, "4f60ae1d47d4b6f973f4b43d04f871186c2323b50019fb6c652253f24ddb2af9"), looks := false }, kinds := [], alts := [], laidByText := true, laidKinds := [.data, .data, .data], laidTests := true, laidLooks := .later }
def RatFieldCardSaid : Prop := Claim7.holds Tryd.pinned (.plain (OpenSpec.ofChange ratFieldSpec)) ratFieldCard

/-- THE SECOND FORM's CARD OF 'tallymarklaw07.RatPowers'. -/
def ratPowersUptoCard : Claim7 := { stood := { row := ratPowersUptoRow, standIns := [], harness := (true, "4f60ae1d47d4b6f973f4b43d04f871186c2323b50019fb6c652253f24ddb2af9"), looks := false }, kinds := [], alts := [], laidByText := true, laidKinds := [.data, .data, .data], laidTests := true, laidLooks := .later }
def RatPowersUptoCardSaid : Prop := Claim7.holds Tryd.pinned (.plain (OpenSpec.upto ratPowersSpec)) ratPowersUptoCard

/-- THE SECOND FORM's CARD OF 'tallymarklaw07.RatField'. -/
def ratFieldUptoCard : Claim7 := { stood := { row := ratFieldUptoRow, standIns := [], harness := (true, "4f60ae1d47d4b6f973f4b43d04f871186c2323b50019fb6c652253f24ddb2af9"), looks := false }, kinds := [], alts := [], laidByText := true, laidKinds := [.data, .data, .data], laidTests := true, laidLooks := .later }
def RatFieldUptoCardSaid : Prop := Claim7.holds Tryd.pinned (.plain (OpenSpec.upto ratFieldSpec)) ratFieldUptoCard
end Rows
end Go.Proofs.YthlndppcjcjmlaaDoor
