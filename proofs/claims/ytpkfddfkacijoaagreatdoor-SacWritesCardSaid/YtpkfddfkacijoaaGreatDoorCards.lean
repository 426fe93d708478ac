/-
  DERIVED. GIVEN WITH THE SEED: THE CARDS: each row of YtpkfddfkacijoaaGreatDoorRows.lean that lists a variable, with what it lists TIED to the program's text (the seventh form; the later family's looks); each row that meets fmt, with fmt's text TOLD by the authors' own Lean function (tested against real Go, not proved from fmt's source: count such statements apart). THE CARD IS WHAT COUNTS. Prove the row's statement (the work); the ties are given (YtpkfddfkacijoaaGreatDoorTie.lean); close each card by the builder's one call (the guide's Derived/Test/ToyasCard.lean, 'card_holds'). Laid BY PROGRAM, IN A SANDBOX (cutbox-door.mjs). By AI agents, Wed Nov 11 2026. No macro, syntax, notation, axiom, sorry.
-/
import Derived.Test.YtpkfddfkacijoaaGreatDoorRows
import GoSem.ClaimSeven
namespace Go.Proofs.YtpkfddfkacijoaaGreatDoor
namespace Rows

/-- THE TIED CARD OF 'tallymarklaw22.AmsWrites'. -/
def amsWritesCard : Claim7 := { stood := { row := amsWritesRow, standIns := [], harness := (true, "c0d32b6ce0b36ebbfdd2c9619a99f8701aabac0589fa59a38cd41ca0d155c237"), looks := false }, kinds := [], alts := [], laidByText := true, laidKinds := [.data, .data, .data], laidTests := true, laidLooks := .later }
def AmsWritesCardSaid : Prop := Claim7.holds Tryz.pinned (.plain (OpenSpec.ofChange amsWritesSpec)) amsWritesCard

/-- THE TIED CARD OF 'tallymarklaw19.SacWrites'. -/
def sacWritesCard : Claim7 := { stood := { row := sacWritesRow, standIns := [], harness := (true, "c0d32b6ce0b36ebbfdd2c9619a99f8701aabac0589fa59a38cd41ca0d155c237"), looks := false }, kinds := [], alts := [], laidByText := true, laidKinds := [.data, .data, .data], laidTests := true, laidLooks := .later }
def SacWritesCardSaid : Prop := Claim7.holds Tryz.pinned (.plain (OpenSpec.ofChange sacWritesSpec)) sacWritesCard

/-- THE SECOND FORM's CARD OF 'tallymarklaw22.AmsWrites'. -/
def amsWritesUptoCard : Claim7 := { stood := { row := amsWritesUptoRow, standIns := [], harness := (true, "c0d32b6ce0b36ebbfdd2c9619a99f8701aabac0589fa59a38cd41ca0d155c237"), looks := false }, kinds := [], alts := [], laidByText := true, laidKinds := [.data, .data, .data], laidTests := true, laidLooks := .later }
def AmsWritesUptoCardSaid : Prop := Claim7.holds Tryz.pinned (.plain (OpenSpec.upto amsWritesSpec)) amsWritesUptoCard

/-- THE SECOND FORM's CARD OF 'tallymarklaw19.SacWrites'. -/
def sacWritesUptoCard : Claim7 := { stood := { row := sacWritesUptoRow, standIns := [], harness := (true, "c0d32b6ce0b36ebbfdd2c9619a99f8701aabac0589fa59a38cd41ca0d155c237"), looks := false }, kinds := [], alts := [], laidByText := true, laidKinds := [.data, .data, .data], laidTests := true, laidLooks := .later }
def SacWritesUptoCardSaid : Prop := Claim7.holds Tryz.pinned (.plain (OpenSpec.upto sacWritesSpec)) sacWritesUptoCard
end Rows
end Go.Proofs.YtpkfddfkacijoaaGreatDoor
