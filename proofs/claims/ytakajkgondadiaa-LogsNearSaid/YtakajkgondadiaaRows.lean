/-
  No cell of these rows narrows 'for every input' (looked for: loops, veiled, ifaces, maps, wideKeys, modest, calm, conditions, laid).
  DERIVED. THE GIVEN ROWS OF THIS SEAT. 4 by the template 'for every input the law returns true; each argument reads behind the call as it read before'; 0 by the template 'total and deterministic' (their statements: YtakajkgondadiaaTotals.lean).
  GIVEN WITH THE SEED: the statements are not yours to turn. If you find one false, say at which input.
  Laid BY PROGRAM, IN A SANDBOX (cutbox-rows.mjs): the forced cells as the released guide's own fill.sh prints them over the translation 9034256261aa9d00… (all of the seat's roots in one cut). By AI agents, Wed Nov 11 2026. No macro, syntax, notation, axiom, sorry.
-/
import Derived.Test.YtakajkgondadiaaChecked
import GoSem.Claim
import GoSem.ClaimJoined
import GoSem.ClaimMapViews
import Derived.JoinedTies
import Derived.KernelRfl
namespace Go.Proofs.Ytakajkgondadiaa
/- THE CELL 'sum', in the pinned program and in every row, IS THE sha256 OF THE DUMP (.gsa) THAT YtakajkgondadiaaProg.lean LOADS. Nothing in Lean hashes anything: it is a label: what it is worth is what the hold of that sum in a sandbox is worth. -/
noncomputable def Try.pinned : Pinned := { name := "ytakajkgondadiaa", sum := "9034256261aa9d005b2c41cce78532c0362aebeb1ef5f6832501d69ef6feb12a", checked := Try.checked }
namespace Rows
def none {H : Type} : Left H := { results := [], args := [] }

/-- 'tallymarklaw10.FlipWeighs': WHATEVER THE INPUT: true; the input reads as it did. -/
def flipWeighsSpec : ChangeSpec := { name := "flipWeighs", fn := fun _ => fun
  | [d] => { results := [.lit (.bool true)], args := [d] }
  | _ => none }
def flipWeighsRow : OpenClaim := { program := "ytakajkgondadiaa", sum := "9034256261aa9d005b2c41cce78532c0362aebeb1ef5f6832501d69ef6feb12a", func := "tallymark/tallymarklaw10.FlipWeighs", spec := "flipWeighs", inPlace := ["math/bits.Add64", "math/bits.Sub64"], unfollowed := true, recurses := true, apart := false }
def FlipWeighsSaid : Prop := flipWeighsRow.holds Try.pinned (OpenSpec.ofChange flipWeighsSpec)

/-- ITS FALSE NEIGHBOUR: 'it returns false'. Refute it at one input. -/
def flipWeighsWrong : ChangeSpec := { name := "flipWeighs", fn := fun _ => fun
  | [d] => { results := [.lit (.bool false)], args := [d] }
  | _ => none }
def FlipWeighsWrongFalsely : Prop := flipWeighsRow.holds Try.pinned (OpenSpec.ofChange flipWeighsWrong)

/-- 'tallymarklaw10.FlipPowers': WHATEVER THE INPUT: true; the input reads as it did. -/
def flipPowersSpec : ChangeSpec := { name := "flipPowers", fn := fun _ => fun
  | [d] => { results := [.lit (.bool true)], args := [d] }
  | _ => none }
def flipPowersRow : OpenClaim := { program := "ytakajkgondadiaa", sum := "9034256261aa9d005b2c41cce78532c0362aebeb1ef5f6832501d69ef6feb12a", func := "tallymark/tallymarklaw10.FlipPowers", spec := "flipPowers", inPlace := ["math/bits.Add64", "math/bits.Sub64"], unfollowed := true, recurses := true, apart := false }
def FlipPowersSaid : Prop := flipPowersRow.holds Try.pinned (OpenSpec.ofChange flipPowersSpec)

/-- ITS FALSE NEIGHBOUR: 'it returns false'. Refute it at one input. -/
def flipPowersWrong : ChangeSpec := { name := "flipPowers", fn := fun _ => fun
  | [d] => { results := [.lit (.bool false)], args := [d] }
  | _ => none }
def FlipPowersWrongFalsely : Prop := flipPowersRow.holds Try.pinned (OpenSpec.ofChange flipPowersWrong)

/-- 'tallymarklaw10.FlipPrefix': WHATEVER THE INPUT: true; the input reads as it did. -/
def flipPrefixSpec : ChangeSpec := { name := "flipPrefix", fn := fun _ => fun
  | [d1, d2, d3] => { results := [.lit (.bool true)], args := [d1, d2, d3] }
  | _ => none }
def flipPrefixRow : OpenClaim := { program := "ytakajkgondadiaa", sum := "9034256261aa9d005b2c41cce78532c0362aebeb1ef5f6832501d69ef6feb12a", func := "tallymark/tallymarklaw10.FlipPrefix", spec := "flipPrefix", inPlace := ["math/bits.Add64", "math/bits.Sub64"], unfollowed := true, recurses := true, apart := false }
def FlipPrefixSaid : Prop := flipPrefixRow.holds Try.pinned (OpenSpec.ofChange flipPrefixSpec)

/-- ITS FALSE NEIGHBOUR: 'it returns false'. Refute it at one input. -/
def flipPrefixWrong : ChangeSpec := { name := "flipPrefix", fn := fun _ => fun
  | [d1, d2, d3] => { results := [.lit (.bool false)], args := [d1, d2, d3] }
  | _ => none }
def FlipPrefixWrongFalsely : Prop := flipPrefixRow.holds Try.pinned (OpenSpec.ofChange flipPrefixWrong)

/-- 'tallymarklaw08.LogsNear': WHATEVER THE INPUT: true; the input reads as it did. -/
def logsNearSpec : ChangeSpec := { name := "logsNear", fn := fun _ => fun
  | [d] => { results := [.lit (.bool true)], args := [d] }
  | _ => none }
def logsNearRow : OpenClaim := { program := "ytakajkgondadiaa", sum := "9034256261aa9d005b2c41cce78532c0362aebeb1ef5f6832501d69ef6feb12a", func := "tallymark/tallymarklaw08.LogsNear", spec := "logsNear", inPlace := ["math/bits.Add64"], apart := false }
def LogsNearSaid : Prop := logsNearRow.holds Try.pinned (OpenSpec.ofChange logsNearSpec)

/-- ITS FALSE NEIGHBOUR: 'it returns false'. Refute it at one input. -/
def logsNearWrong : ChangeSpec := { name := "logsNear", fn := fun _ => fun
  | [d] => { results := [.lit (.bool false)], args := [d] }
  | _ => none }
def LogsNearWrongFalsely : Prop := logsNearRow.holds Try.pinned (OpenSpec.ofChange logsNearWrong)

/- THE SECOND FORM. 'bulk': how many values and letters a reading holds, each counted each time it is reached (what is shared counts as often as it is met; a slice's spare places count too). A statement '..UptoSaid' is the law's where the arguments, and the package variables that the reading takes, are together of bulk at most 1048576: NARROWER than '..Said'. Prove '..Said' where nothing that the law and all that it calls make is longer than what came in: it says more and counts as full. Else prove '..UptoSaid'. A law counts once. -/
mutual
def uptoBulk {H : Type} : DataW H → Nat
  | .lit (.string bytes) => bytes.length + 1
  | .lit _ => 1
  | .nil => 1
  | .ptr d => uptoBulk d + 1
  | .slice elems spare => uptoBulkAll elems + uptoBulkAll spare + 1
  | .agg parts => uptoBulkAll parts + 1
  | .iface _ d => uptoBulk d + 1
  | .map entries => uptoBulkEntries entries + 1
  | .held _ => 1
def uptoBulkAll {H : Type} : List (DataW H) → Nat
  | [] => 0
  | d :: r => uptoBulk d + uptoBulkAll r
def uptoBulkEntries {H : Type} : List (Lit × DataW H) → Nat
  | [] => 0
  | x :: r => uptoBulkEntry x + uptoBulkEntries r
def uptoBulkEntry {H : Type} : Lit × DataW H → Nat
  | (.string bytes, d) => bytes.length + uptoBulk d + 1
  | (_, d) => uptoBulk d + 1
 end
def uptoSmall : (H : Type) → List (DataW H) → Bool := fun _ ds => decide (uptoBulkAll ds ≤ 1048576)
def OpenSpec.upto (s : _root_.Go.ChangeSpec) : _root_.Go.OpenSpec := { _root_.Go.OpenSpec.ofChange s with cond := some uptoSmall }

/-- 'tallymarklaw10.FlipWeighs', WHERE WHAT IT READS IS OF BULK AT MOST 1048576: true; the input reads as it did. -/
def flipWeighsUptoRow : OpenClaim := { program := "ytakajkgondadiaa", sum := "9034256261aa9d005b2c41cce78532c0362aebeb1ef5f6832501d69ef6feb12a", func := "tallymark/tallymarklaw10.FlipWeighs", spec := "flipWeighs", inPlace := ["math/bits.Add64", "math/bits.Sub64"], unfollowed := true, recurses := true, apart := false, narrowed := true }
def FlipWeighsUptoSaid : Prop := flipWeighsUptoRow.holds Try.pinned (OpenSpec.upto flipWeighsSpec)

/-- 'tallymarklaw10.FlipPowers', WHERE WHAT IT READS IS OF BULK AT MOST 1048576: true; the input reads as it did. -/
def flipPowersUptoRow : OpenClaim := { program := "ytakajkgondadiaa", sum := "9034256261aa9d005b2c41cce78532c0362aebeb1ef5f6832501d69ef6feb12a", func := "tallymark/tallymarklaw10.FlipPowers", spec := "flipPowers", inPlace := ["math/bits.Add64", "math/bits.Sub64"], unfollowed := true, recurses := true, apart := false, narrowed := true }
def FlipPowersUptoSaid : Prop := flipPowersUptoRow.holds Try.pinned (OpenSpec.upto flipPowersSpec)

/-- 'tallymarklaw10.FlipPrefix', WHERE WHAT IT READS IS OF BULK AT MOST 1048576: true; the input reads as it did. -/
def flipPrefixUptoRow : OpenClaim := { program := "ytakajkgondadiaa", sum := "9034256261aa9d005b2c41cce78532c0362aebeb1ef5f6832501d69ef6feb12a", func := "tallymark/tallymarklaw10.FlipPrefix", spec := "flipPrefix", inPlace := ["math/bits.Add64", "math/bits.Sub64"], unfollowed := true, recurses := true, apart := false, narrowed := true }
def FlipPrefixUptoSaid : Prop := flipPrefixUptoRow.holds Try.pinned (OpenSpec.upto flipPrefixSpec)

/-- 'tallymarklaw08.LogsNear', WHERE WHAT IT READS IS OF BULK AT MOST 1048576: true; the input reads as it did. -/
def logsNearUptoRow : OpenClaim := { program := "ytakajkgondadiaa", sum := "9034256261aa9d005b2c41cce78532c0362aebeb1ef5f6832501d69ef6feb12a", func := "tallymark/tallymarklaw08.LogsNear", spec := "logsNear", inPlace := ["math/bits.Add64"], apart := false, narrowed := true }
def LogsNearUptoSaid : Prop := logsNearUptoRow.holds Try.pinned (OpenSpec.upto logsNearSpec)

end Rows
end Go.Proofs.Ytakajkgondadiaa
