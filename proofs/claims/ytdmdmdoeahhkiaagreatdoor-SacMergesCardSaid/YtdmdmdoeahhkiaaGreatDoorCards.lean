/-
  DERIVED. GIVEN WITH THE SEED: THE CARDS: each row of YtdmdmdoeahhkiaaGreatDoorRows.lean that lists a variable, with what it lists TIED to the program's text (the seventh form; the later family's looks); each row that meets fmt, with fmt's text TOLD by the authors' own Lean function (tested against real Go, not proved from fmt's source: count such statements apart). THE CARD IS WHAT COUNTS. Prove the row's statement (the work); the ties are given (YtdmdmdoeahhkiaaGreatDoorTie.lean); close each card by the builder's one call (the guide's Derived/Test/ToyasCard.lean, 'card_holds'). Laid BY PROGRAM, IN A SANDBOX (cutbox-door.mjs). By AI agents, Wed Nov 11 2026. No macro, syntax, notation, axiom, sorry.
-/
import Derived.Test.YtdmdmdoeahhkiaaGreatDoorRows
import GoSem.ClaimSeven
namespace Go.Proofs.YtdmdmdoeahhkiaaGreatDoor
namespace Rows

/-- THE TIED CARD OF 'tallymarklaw22.AmsUpdates'. -/
def amsUpdatesCard : Claim7 := { stood := { row := amsUpdatesRow, standIns := [], harness := (true, "36999f8fb9c09c6f2542b2c9fc19c0da8b4d31f8e49bab9582fb40b8ee5219f1"), looks := false }, kinds := [], alts := [], laidByText := true, laidKinds := [.data, .data, .data], laidTests := true, laidLooks := .later }
def AmsUpdatesCardSaid : Prop := Claim7.holds Tryz.pinned (.plain (OpenSpec.ofChange amsUpdatesSpec)) amsUpdatesCard

/-- THE TIED CARD OF 'tallymarklaw22.AmsChecks'. -/
def amsChecksCard : Claim7 := { stood := { row := amsChecksRow, standIns := [], harness := (true, "36999f8fb9c09c6f2542b2c9fc19c0da8b4d31f8e49bab9582fb40b8ee5219f1"), looks := false }, kinds := [], alts := [], laidByText := true, laidKinds := [.data, .data, .data], laidTests := true, laidLooks := .later }
def AmsChecksCardSaid : Prop := Claim7.holds Tryz.pinned (.plain (OpenSpec.ofChange amsChecksSpec)) amsChecksCard

/-- THE TIED CARD OF 'tallymarklaw19.SacBounds'. -/
def sacBoundsCard : Claim7 := { stood := { row := sacBoundsRow, standIns := [], harness := (true, "36999f8fb9c09c6f2542b2c9fc19c0da8b4d31f8e49bab9582fb40b8ee5219f1"), looks := false }, kinds := [], alts := [], laidByText := true, laidKinds := [.data, .data, .data], laidTests := true, laidLooks := .later }
def SacBoundsCardSaid : Prop := Claim7.holds Tryz.pinned (.plain (OpenSpec.ofChange sacBoundsSpec)) sacBoundsCard

/-- THE TIED CARD OF 'tallymarklaw19.SacAdds'. -/
def sacAddsCard : Claim7 := { stood := { row := sacAddsRow, standIns := [], harness := (true, "36999f8fb9c09c6f2542b2c9fc19c0da8b4d31f8e49bab9582fb40b8ee5219f1"), looks := false }, kinds := [], alts := [], laidByText := true, laidKinds := [.data, .data, .data], laidTests := true, laidLooks := .later }
def SacAddsCardSaid : Prop := Claim7.holds Tryz.pinned (.plain (OpenSpec.ofChange sacAddsSpec)) sacAddsCard

/-- THE TIED CARD OF 'tallymarklaw19.SacMeans'. -/
def sacMeansCard : Claim7 := { stood := { row := sacMeansRow, standIns := [], harness := (true, "36999f8fb9c09c6f2542b2c9fc19c0da8b4d31f8e49bab9582fb40b8ee5219f1"), looks := false }, kinds := [], alts := [], laidByText := true, laidKinds := [.data, .data, .data], laidTests := true, laidLooks := .later }
def SacMeansCardSaid : Prop := Claim7.holds Tryz.pinned (.plain (OpenSpec.ofChange sacMeansSpec)) sacMeansCard

/-- THE TIED CARD OF 'tallymarklaw19.SacMerges'. -/
def sacMergesCard : Claim7 := { stood := { row := sacMergesRow, standIns := [], harness := (true, "36999f8fb9c09c6f2542b2c9fc19c0da8b4d31f8e49bab9582fb40b8ee5219f1"), looks := false }, kinds := [], alts := [], laidByText := true, laidKinds := [.data, .data, .data], laidTests := true, laidLooks := .later }
def SacMergesCardSaid : Prop := Claim7.holds Tryz.pinned (.plain (OpenSpec.ofChange sacMergesSpec)) sacMergesCard

/-- THE TIED CARD OF 'tallymarklaw22.AmsWrites'. -/
def amsWritesCard : Claim7 := { stood := { row := amsWritesRow, standIns := [], harness := (true, "36999f8fb9c09c6f2542b2c9fc19c0da8b4d31f8e49bab9582fb40b8ee5219f1"), looks := false }, kinds := [], alts := [], laidByText := true, laidKinds := [.data, .data, .data], laidTests := true, laidLooks := .later }
def AmsWritesCardSaid : Prop := Claim7.holds Tryz.pinned (.plain (OpenSpec.ofChange amsWritesSpec)) amsWritesCard

/-- THE TIED CARD OF 'tallymarklaw19.SacWrites'. -/
def sacWritesCard : Claim7 := { stood := { row := sacWritesRow, standIns := [], harness := (true, "36999f8fb9c09c6f2542b2c9fc19c0da8b4d31f8e49bab9582fb40b8ee5219f1"), looks := false }, kinds := [], alts := [], laidByText := true, laidKinds := [.data, .data, .data], laidTests := true, laidLooks := .later }
def SacWritesCardSaid : Prop := Claim7.holds Tryz.pinned (.plain (OpenSpec.ofChange sacWritesSpec)) sacWritesCard

/-- THE SECOND FORM's CARD OF 'tallymarklaw22.AmsUpdates'. -/
def amsUpdatesUptoCard : Claim7 := { stood := { row := amsUpdatesUptoRow, standIns := [], harness := (true, "36999f8fb9c09c6f2542b2c9fc19c0da8b4d31f8e49bab9582fb40b8ee5219f1"), looks := false }, kinds := [], alts := [], laidByText := true, laidKinds := [.data, .data, .data], laidTests := true, laidLooks := .later }
def AmsUpdatesUptoCardSaid : Prop := Claim7.holds Tryz.pinned (.plain (OpenSpec.upto amsUpdatesSpec)) amsUpdatesUptoCard

/-- THE SECOND FORM's CARD OF 'tallymarklaw22.AmsChecks'. -/
def amsChecksUptoCard : Claim7 := { stood := { row := amsChecksUptoRow, standIns := [], harness := (true, "36999f8fb9c09c6f2542b2c9fc19c0da8b4d31f8e49bab9582fb40b8ee5219f1"), looks := false }, kinds := [], alts := [], laidByText := true, laidKinds := [.data, .data, .data], laidTests := true, laidLooks := .later }
def AmsChecksUptoCardSaid : Prop := Claim7.holds Tryz.pinned (.plain (OpenSpec.upto amsChecksSpec)) amsChecksUptoCard

/-- THE SECOND FORM's CARD OF 'tallymarklaw19.SacBounds'. -/
def sacBoundsUptoCard : Claim7 := { stood := { row := sacBoundsUptoRow, standIns := [], harness := (true, "36999f8fb9c09c6f2542b2c9fc19c0da8b4d31f8e49bab9582fb40b8ee5219f1"), looks := false }, kinds := [], alts := [], laidByText := true, laidKinds := [.data, .data, .data], laidTests := true, laidLooks := .later }
def SacBoundsUptoCardSaid : Prop := Claim7.holds Tryz.pinned (.plain (OpenSpec.upto sacBoundsSpec)) sacBoundsUptoCard

/-- THE SECOND FORM's CARD OF 'tallymarklaw19.SacAdds'. -/
def sacAddsUptoCard : Claim7 := { stood := { row := sacAddsUptoRow, standIns := [], harness := (true, "36999f8fb9c09c6f2542b2c9fc19c0da8b4d31f8e49bab9582fb40b8ee5219f1"), looks := false }, kinds := [], alts := [], laidByText := true, laidKinds := [.data, .data, .data], laidTests := true, laidLooks := .later }
def SacAddsUptoCardSaid : Prop := Claim7.holds Tryz.pinned (.plain (OpenSpec.upto sacAddsSpec)) sacAddsUptoCard

/-- THE SECOND FORM's CARD OF 'tallymarklaw19.SacMeans'. -/
def sacMeansUptoCard : Claim7 := { stood := { row := sacMeansUptoRow, standIns := [], harness := (true, "36999f8fb9c09c6f2542b2c9fc19c0da8b4d31f8e49bab9582fb40b8ee5219f1"), looks := false }, kinds := [], alts := [], laidByText := true, laidKinds := [.data, .data, .data], laidTests := true, laidLooks := .later }
def SacMeansUptoCardSaid : Prop := Claim7.holds Tryz.pinned (.plain (OpenSpec.upto sacMeansSpec)) sacMeansUptoCard

/-- THE SECOND FORM's CARD OF 'tallymarklaw19.SacMerges'. -/
def sacMergesUptoCard : Claim7 := { stood := { row := sacMergesUptoRow, standIns := [], harness := (true, "36999f8fb9c09c6f2542b2c9fc19c0da8b4d31f8e49bab9582fb40b8ee5219f1"), looks := false }, kinds := [], alts := [], laidByText := true, laidKinds := [.data, .data, .data], laidTests := true, laidLooks := .later }
def SacMergesUptoCardSaid : Prop := Claim7.holds Tryz.pinned (.plain (OpenSpec.upto sacMergesSpec)) sacMergesUptoCard

/-- THE SECOND FORM's CARD OF 'tallymarklaw22.AmsWrites'. -/
def amsWritesUptoCard : Claim7 := { stood := { row := amsWritesUptoRow, standIns := [], harness := (true, "36999f8fb9c09c6f2542b2c9fc19c0da8b4d31f8e49bab9582fb40b8ee5219f1"), looks := false }, kinds := [], alts := [], laidByText := true, laidKinds := [.data, .data, .data], laidTests := true, laidLooks := .later }
def AmsWritesUptoCardSaid : Prop := Claim7.holds Tryz.pinned (.plain (OpenSpec.upto amsWritesSpec)) amsWritesUptoCard

/-- THE SECOND FORM's CARD OF 'tallymarklaw19.SacWrites'. -/
def sacWritesUptoCard : Claim7 := { stood := { row := sacWritesUptoRow, standIns := [], harness := (true, "36999f8fb9c09c6f2542b2c9fc19c0da8b4d31f8e49bab9582fb40b8ee5219f1"), looks := false }, kinds := [], alts := [], laidByText := true, laidKinds := [.data, .data, .data], laidTests := true, laidLooks := .later }
def SacWritesUptoCardSaid : Prop := Claim7.holds Tryz.pinned (.plain (OpenSpec.upto sacWritesSpec)) sacWritesUptoCard
end Rows
end Go.Proofs.YtdmdmdoeahhkiaaGreatDoor
