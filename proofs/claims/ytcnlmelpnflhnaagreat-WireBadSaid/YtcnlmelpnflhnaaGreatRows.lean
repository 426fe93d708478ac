/-
  No cell of these rows narrows 'for every input' (looked for: loops, veiled, ifaces, maps, wideKeys, modest, calm, conditions, laid).
  DERIVED. THE GIVEN ROWS OF THIS SEAT. 4 by the template 'for every input the law returns true; each argument reads behind the call as it read before'; 0 by the template 'total and deterministic' (their statements: YtcnlmelpnflhnaaGreatTotals.lean).
  GIVEN WITH THE SEED: the statements are not yours to turn. If you find one false, say at which input.
  Laid BY PROGRAM, IN A SANDBOX (cutbox-rows.mjs): the forced cells as the released guide's own fill.sh prints them over the translation f580e431f8ba07b1… (all of the seat's roots in one cut). By AI agents, Wed Nov 11 2026. No macro, syntax, notation, axiom, sorry.
-/
import Derived.Test.YtcnlmelpnflhnaaGreatChecked
import GoSem.Claim
import GoSem.ClaimJoined
import GoSem.ClaimMapViews
import Derived.JoinedTies
import Derived.KernelRfl
namespace Go.Proofs.YtcnlmelpnflhnaaGreat
/- THE CELL 'sum', in the pinned program and in every row, IS THE sha256 OF THE DUMP (.gsa) THAT YtcnlmelpnflhnaaGreatProg.lean LOADS. Nothing in Lean hashes anything: it is a label: what it is worth is what the hold of that sum in a sandbox is worth. -/
noncomputable def Tryz.pinned : Pinned := { name := "ytcnlmelpnflhnaagreat", sum := "f580e431f8ba07b1468caf3f3e3212b1f7871c026a11e8e41e649d36f92b3aca", checked := Tryz.checked }
namespace Rows
def none {H : Type} : Left H := { results := [], args := [] }

/-- 'tallymarklaw25.WireBack': WHATEVER THE INPUT: true; the input reads as it did. -/
def wireBackSpec : ChangeSpec := { name := "wireBack", fn := fun _ => fun
  | [d] => { results := [.lit (.bool true)], args := [d] }
  | _ => none }
def wireBackRow : OpenClaim := { program := "ytcnlmelpnflhnaagreat", sum := "f580e431f8ba07b1468caf3f3e3212b1f7871c026a11e8e41e649d36f92b3aca", func := "tallymark/tallymarklaw25.WireBack", spec := "wireBack", inPlace := ["math/bits.Add64", "math/bits.Sub64"], unfollowed := true, recurses := true, named := ["math/bits.divideError", "math/bits.overflowError"], apart := false }
def WireBackSaid : Prop := wireBackRow.holds Tryz.pinned (OpenSpec.ofChange wireBackSpec)

/-- ITS FALSE NEIGHBOUR: 'it returns false'. Refute it at one input. -/
def wireBackWrong : ChangeSpec := { name := "wireBack", fn := fun _ => fun
  | [d] => { results := [.lit (.bool false)], args := [d] }
  | _ => none }
def WireBackWrongFalsely : Prop := wireBackRow.holds Tryz.pinned (OpenSpec.ofChange wireBackWrong)

/-- 'tallymarklaw25.WireBad': WHATEVER THE INPUT: true; the input reads as it did. -/
def wireBadSpec : ChangeSpec := { name := "wireBad", fn := fun _ => fun
  | [d1, d2, d3] => { results := [.lit (.bool true)], args := [d1, d2, d3] }
  | _ => none }
def wireBadRow : OpenClaim := { program := "ytcnlmelpnflhnaagreat", sum := "f580e431f8ba07b1468caf3f3e3212b1f7871c026a11e8e41e649d36f92b3aca", func := "tallymark/tallymarklaw25.WireBad", spec := "wireBad", inPlace := ["math/bits.Add64", "math/bits.Sub64"], unfollowed := true, recurses := true, named := ["math/bits.divideError", "math/bits.overflowError"], apart := false }
def WireBadSaid : Prop := wireBadRow.holds Tryz.pinned (OpenSpec.ofChange wireBadSpec)

/-- ITS FALSE NEIGHBOUR: 'it returns false'. Refute it at one input. -/
def wireBadWrong : ChangeSpec := { name := "wireBad", fn := fun _ => fun
  | [d1, d2, d3] => { results := [.lit (.bool false)], args := [d1, d2, d3] }
  | _ => none }
def WireBadWrongFalsely : Prop := wireBadRow.holds Tryz.pinned (OpenSpec.ofChange wireBadWrong)

/-- 'tallymarklaw25.WireUnlike': WHATEVER THE INPUT: true; the input reads as it did. -/
def wireUnlikeSpec : ChangeSpec := { name := "wireUnlike", fn := fun _ => fun
  | [d1, d2] => { results := [.lit (.bool true)], args := [d1, d2] }
  | _ => none }
def wireUnlikeRow : OpenClaim := { program := "ytcnlmelpnflhnaagreat", sum := "f580e431f8ba07b1468caf3f3e3212b1f7871c026a11e8e41e649d36f92b3aca", func := "tallymark/tallymarklaw25.WireUnlike", spec := "wireUnlike", inPlace := ["math/bits.Add64", "math/bits.Sub64"], unfollowed := true, recurses := true, named := ["math/bits.divideError", "math/bits.overflowError"], apart := false }
def WireUnlikeSaid : Prop := wireUnlikeRow.holds Tryz.pinned (OpenSpec.ofChange wireUnlikeSpec)

/-- ITS FALSE NEIGHBOUR: 'it returns false'. Refute it at one input. -/
def wireUnlikeWrong : ChangeSpec := { name := "wireUnlike", fn := fun _ => fun
  | [d1, d2] => { results := [.lit (.bool false)], args := [d1, d2] }
  | _ => none }
def WireUnlikeWrongFalsely : Prop := wireUnlikeRow.holds Tryz.pinned (OpenSpec.ofChange wireUnlikeWrong)

/-- 'tallymarktop.TallyCopies': WHATEVER THE INPUT: true; the input reads as it did. -/
def tallyCopiesSpec : ChangeSpec := { name := "tallyCopies", fn := fun _ => fun
  | [d1, d2] => { results := [.lit (.bool true)], args := [d1, d2] }
  | _ => none }
def tallyCopiesRow : OpenClaim := { program := "ytcnlmelpnflhnaagreat", sum := "f580e431f8ba07b1468caf3f3e3212b1f7871c026a11e8e41e649d36f92b3aca", func := "tallymark/tallymarktop.TallyCopies", spec := "tallyCopies", inPlace := ["math/bits.Add64", "math/bits.Sub64"], unfollowed := true, recurses := true, named := ["math/bits.divideError", "math/bits.overflowError"], apart := false }
def TallyCopiesSaid : Prop := tallyCopiesRow.holds Tryz.pinned (OpenSpec.ofChange tallyCopiesSpec)

/-- ITS FALSE NEIGHBOUR: 'it returns false'. Refute it at one input. -/
def tallyCopiesWrong : ChangeSpec := { name := "tallyCopies", fn := fun _ => fun
  | [d1, d2] => { results := [.lit (.bool false)], args := [d1, d2] }
  | _ => none }
def TallyCopiesWrongFalsely : Prop := tallyCopiesRow.holds Tryz.pinned (OpenSpec.ofChange tallyCopiesWrong)

/- THE SECOND FORM. 'bulk': how many values and letters a reading holds, each counted each time it is reached (what is shared counts as often as it is met; a slice's spare places count too). A statement '..UptoSaid' is the law's where the arguments, and the package variables that the reading takes, are together of bulk at most 1048576: NARROWER than '..Said'. Prove '..Said' where nothing that the law and all that it calls make is longer than what came in: it says more and counts as full. Else prove '..UptoSaid'. A law counts once. -/
mutual
def uptoBulk {H : Type} : DataW H → Nat
  | .lit (.string bytes) => bytes.length + 1
  | .lit _ => 1
  | .nil => 1
  | .ptr d => uptoBulk d + 1
  | .slice elems spare => uptoBulkAll elems + uptoBulkAll spare + 1
  | .agg parts => uptoBulkAll parts + 1
  | .iface _ d => uptoBulk d + 1
  | .map entries => uptoBulkEntries entries + 1
  | .held _ => 1
def uptoBulkAll {H : Type} : List (DataW H) → Nat
  | [] => 0
  | d :: r => uptoBulk d + uptoBulkAll r
def uptoBulkEntries {H : Type} : List (Lit × DataW H) → Nat
  | [] => 0
  | x :: r => uptoBulkEntry x + uptoBulkEntries r
def uptoBulkEntry {H : Type} : Lit × DataW H → Nat
  | (.string bytes, d) => bytes.length + uptoBulk d + 1
  | (_, d) => uptoBulk d + 1
 end
def uptoSmall : (H : Type) → List (DataW H) → Bool := fun _ ds => decide (uptoBulkAll ds ≤ 1048576)
def OpenSpec.upto (s : _root_.Go.ChangeSpec) : _root_.Go.OpenSpec := { _root_.Go.OpenSpec.ofChange s with cond := some uptoSmall }

/-- 'tallymarklaw25.WireBack', WHERE WHAT IT READS IS OF BULK AT MOST 1048576: true; the input reads as it did. -/
def wireBackUptoRow : OpenClaim := { program := "ytcnlmelpnflhnaagreat", sum := "f580e431f8ba07b1468caf3f3e3212b1f7871c026a11e8e41e649d36f92b3aca", func := "tallymark/tallymarklaw25.WireBack", spec := "wireBack", inPlace := ["math/bits.Add64", "math/bits.Sub64"], unfollowed := true, recurses := true, named := ["math/bits.divideError", "math/bits.overflowError"], apart := false, narrowed := true }
def WireBackUptoSaid : Prop := wireBackUptoRow.holds Tryz.pinned (OpenSpec.upto wireBackSpec)

/-- 'tallymarklaw25.WireBad', WHERE WHAT IT READS IS OF BULK AT MOST 1048576: true; the input reads as it did. -/
def wireBadUptoRow : OpenClaim := { program := "ytcnlmelpnflhnaagreat", sum := "f580e431f8ba07b1468caf3f3e3212b1f7871c026a11e8e41e649d36f92b3aca", func := "tallymark/tallymarklaw25.WireBad", spec := "wireBad", inPlace := ["math/bits.Add64", "math/bits.Sub64"], unfollowed := true, recurses := true, named := ["math/bits.divideError", "math/bits.overflowError"], apart := false, narrowed := true }
def WireBadUptoSaid : Prop := wireBadUptoRow.holds Tryz.pinned (OpenSpec.upto wireBadSpec)

/-- 'tallymarklaw25.WireUnlike', WHERE WHAT IT READS IS OF BULK AT MOST 1048576: true; the input reads as it did. -/
def wireUnlikeUptoRow : OpenClaim := { program := "ytcnlmelpnflhnaagreat", sum := "f580e431f8ba07b1468caf3f3e3212b1f7871c026a11e8e41e649d36f92b3aca", func := "tallymark/tallymarklaw25.WireUnlike", spec := "wireUnlike", inPlace := ["math/bits.Add64", "math/bits.Sub64"], unfollowed := true, recurses := true, named := ["math/bits.divideError", "math/bits.overflowError"], apart := false, narrowed := true }
def WireUnlikeUptoSaid : Prop := wireUnlikeUptoRow.holds Tryz.pinned (OpenSpec.upto wireUnlikeSpec)

/-- 'tallymarktop.TallyCopies', WHERE WHAT IT READS IS OF BULK AT MOST 1048576: true; the input reads as it did. -/
def tallyCopiesUptoRow : OpenClaim := { program := "ytcnlmelpnflhnaagreat", sum := "f580e431f8ba07b1468caf3f3e3212b1f7871c026a11e8e41e649d36f92b3aca", func := "tallymark/tallymarktop.TallyCopies", spec := "tallyCopies", inPlace := ["math/bits.Add64", "math/bits.Sub64"], unfollowed := true, recurses := true, named := ["math/bits.divideError", "math/bits.overflowError"], apart := false, narrowed := true }
def TallyCopiesUptoSaid : Prop := tallyCopiesUptoRow.holds Tryz.pinned (OpenSpec.upto tallyCopiesSpec)

end Rows
end Go.Proofs.YtcnlmelpnflhnaaGreat
