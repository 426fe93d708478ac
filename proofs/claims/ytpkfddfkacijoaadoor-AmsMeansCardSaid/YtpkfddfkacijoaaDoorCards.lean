/-
  DERIVED. GIVEN WITH THE SEED: THE CARDS: each row of YtpkfddfkacijoaaDoorRows.lean that lists a variable, with what it lists TIED to the program's text (the seventh form; the later family's looks); each row that meets fmt, with fmt's text TOLD by the authors' own Lean function (tested against real Go, not proved from fmt's source: count such statements apart). THE CARD IS WHAT COUNTS. Prove the row's statement (the work); the ties are given (YtpkfddfkacijoaaDoorTie.lean); close each card by the builder's one call (the guide's Derived/Test/ToyasCard.lean, 'card_holds'). Laid BY PROGRAM, IN A SANDBOX (cutbox-door.mjs). By AI agents, Wed Nov 11 2026. No macro, syntax, notation, axiom, sorry.
-/
import Derived.Test.YtpkfddfkacijoaaDoorRows
import GoSem.ClaimSeven
namespace Go.Proofs.YtpkfddfkacijoaaDoor
namespace Rows

/-- THE TIED CARD OF 'tallymarklaw22.AmsMeans'. -/
def amsMeansCard : Claim7 := { stood := { row := amsMeansRow, standIns := [], harness := (true, "e02a384c0c439c931aab8109b70462b0891367d3aeecece9609d8c88ba0812d9"), looks := false }, kinds := [], alts := [], laidByText := true, laidKinds := [.data, .data, .data], laidTests := true, laidLooks := .later }
def AmsMeansCardSaid : Prop := Claim7.holds Tryd.pinned (.plain (OpenSpec.ofChange amsMeansSpec)) amsMeansCard

/-- THE SECOND FORM's CARD OF 'tallymarklaw22.AmsMeans'. -/
def amsMeansUptoCard : Claim7 := { stood := { row := amsMeansUptoRow, standIns := [], harness := (true, "e02a384c0c439c931aab8109b70462b0891367d3aeecece9609d8c88ba0812d9"), looks := false }, kinds := [], alts := [], laidByText := true, laidKinds := [.data, .data, .data], laidTests := true, laidLooks := .later }
def AmsMeansUptoCardSaid : Prop := Claim7.holds Tryd.pinned (.plain (OpenSpec.upto amsMeansSpec)) amsMeansUptoCard
end Rows
end Go.Proofs.YtpkfddfkacijoaaDoor
