/-
  No cell of these rows narrows 'for every input' (looked for: loops, veiled, ifaces, maps, wideKeys, modest, calm, conditions, laid).
  DERIVED. THE GIVEN ROWS OF THIS SEAT. 10 by the template 'for every input the law returns true; each argument reads behind the call as it read before'; 0 by the template 'total and deterministic' (their statements: YtdpekigpjihnkaaTotals.lean).
  GIVEN WITH THE SEED: the statements are not yours to turn. If you find one false, say at which input.
  Laid BY PROGRAM, IN A SANDBOX (cutbox-rows.mjs): the forced cells as the released guide's own fill.sh prints them over the translation 6d81ca588b339c42… (all of the seat's roots in one cut). By AI agents, Wed Nov 11 2026. No macro, syntax, notation, axiom, sorry.
-/
import Derived.Test.YtdpekigpjihnkaaChecked
import GoSem.Claim
import GoSem.ClaimJoined
import GoSem.ClaimMapViews
import Derived.JoinedTies
import Derived.KernelRfl
namespace Go.Proofs.Ytdpekigpjihnkaa
/- THE CELL 'sum', in the pinned program and in every row, IS THE sha256 OF THE DUMP (.gsa) THAT YtdpekigpjihnkaaProg.lean LOADS. Nothing in Lean hashes anything: it is a label: what it is worth is what the hold of that sum in a sandbox is worth. -/
noncomputable def Try.pinned : Pinned := { name := "ytdpekigpjihnkaa", sum := "6d81ca588b339c424245baa87b4e65aa37ef8e6c151f92b8d35e13a24ce64bc8", checked := Try.checked }
namespace Rows
def none {H : Type} : Left H := { results := [], args := [] }

/-- 'tallymarklaw20.HashSums': WHATEVER THE INPUT: true; the input reads as it did. -/
def hashSumsSpec : ChangeSpec := { name := "hashSums", fn := fun _ => fun
  | [d1, d2, d3] => { results := [.lit (.bool true)], args := [d1, d2, d3] }
  | _ => none }
def hashSumsRow : OpenClaim := { program := "ytdpekigpjihnkaa", sum := "6d81ca588b339c424245baa87b4e65aa37ef8e6c151f92b8d35e13a24ce64bc8", func := "tallymark/tallymarklaw20.HashSums", spec := "hashSums", apart := false }
def HashSumsSaid : Prop := hashSumsRow.holds Try.pinned (OpenSpec.ofChange hashSumsSpec)

/-- ITS FALSE NEIGHBOUR: 'it returns false'. Refute it at one input. -/
def hashSumsWrong : ChangeSpec := { name := "hashSums", fn := fun _ => fun
  | [d1, d2, d3] => { results := [.lit (.bool false)], args := [d1, d2, d3] }
  | _ => none }
def HashSumsWrongFalsely : Prop := hashSumsRow.holds Try.pinned (OpenSpec.ofChange hashSumsWrong)

/-- 'tallymarklaw20.HashApart': WHATEVER THE INPUT: true; the input reads as it did. -/
def hashApartSpec : ChangeSpec := { name := "hashApart", fn := fun _ => fun
  | [d1, d2] => { results := [.lit (.bool true)], args := [d1, d2] }
  | _ => none }
def hashApartRow : OpenClaim := { program := "ytdpekigpjihnkaa", sum := "6d81ca588b339c424245baa87b4e65aa37ef8e6c151f92b8d35e13a24ce64bc8", func := "tallymark/tallymarklaw20.HashApart", spec := "hashApart", apart := false }
def HashApartSaid : Prop := hashApartRow.holds Try.pinned (OpenSpec.ofChange hashApartSpec)

/-- ITS FALSE NEIGHBOUR: 'it returns false'. Refute it at one input. -/
def hashApartWrong : ChangeSpec := { name := "hashApart", fn := fun _ => fun
  | [d1, d2] => { results := [.lit (.bool false)], args := [d1, d2] }
  | _ => none }
def HashApartWrongFalsely : Prop := hashApartRow.holds Try.pinned (OpenSpec.ofChange hashApartWrong)

/-- 'tallymarklaw20.HashMuls': WHATEVER THE INPUT: true; the input reads as it did. -/
def hashMulsSpec : ChangeSpec := { name := "hashMuls", fn := fun _ => fun
  | [d1, d2, d3] => { results := [.lit (.bool true)], args := [d1, d2, d3] }
  | _ => none }
def hashMulsRow : OpenClaim := { program := "ytdpekigpjihnkaa", sum := "6d81ca588b339c424245baa87b4e65aa37ef8e6c151f92b8d35e13a24ce64bc8", func := "tallymark/tallymarklaw20.HashMuls", spec := "hashMuls", apart := false }
def HashMulsSaid : Prop := hashMulsRow.holds Try.pinned (OpenSpec.ofChange hashMulsSpec)

/-- ITS FALSE NEIGHBOUR: 'it returns false'. Refute it at one input. -/
def hashMulsWrong : ChangeSpec := { name := "hashMuls", fn := fun _ => fun
  | [d1, d2, d3] => { results := [.lit (.bool false)], args := [d1, d2, d3] }
  | _ => none }
def HashMulsWrongFalsely : Prop := hashMulsRow.holds Try.pinned (OpenSpec.ofChange hashMulsWrong)

/-- 'tallymarklaw11.DrawBelow': WHATEVER THE INPUT: true; the input reads as it did. -/
def drawBelowSpec : ChangeSpec := { name := "drawBelow", fn := fun _ => fun
  | [d] => { results := [.lit (.bool true)], args := [d] }
  | _ => none }
def drawBelowRow : OpenClaim := { program := "ytdpekigpjihnkaa", sum := "6d81ca588b339c424245baa87b4e65aa37ef8e6c151f92b8d35e13a24ce64bc8", func := "tallymark/tallymarklaw11.DrawBelow", spec := "drawBelow", unfollowed := true, recurses := true, apart := false }
def DrawBelowSaid : Prop := drawBelowRow.holds Try.pinned (OpenSpec.ofChange drawBelowSpec)

/-- ITS FALSE NEIGHBOUR: 'it returns false'. Refute it at one input. -/
def drawBelowWrong : ChangeSpec := { name := "drawBelow", fn := fun _ => fun
  | [d] => { results := [.lit (.bool false)], args := [d] }
  | _ => none }
def DrawBelowWrongFalsely : Prop := drawBelowRow.holds Try.pinned (OpenSpec.ofChange drawBelowWrong)

/-- 'tallymarklaw08.LogsIs': WHATEVER THE INPUT: true; the input reads as it did. -/
def logsIsSpec : ChangeSpec := { name := "logsIs", fn := fun _ => fun
  | [d] => { results := [.lit (.bool true)], args := [d] }
  | _ => none }
def logsIsRow : OpenClaim := { program := "ytdpekigpjihnkaa", sum := "6d81ca588b339c424245baa87b4e65aa37ef8e6c151f92b8d35e13a24ce64bc8", func := "tallymark/tallymarklaw08.LogsIs", spec := "logsIs", apart := false }
def LogsIsSaid : Prop := logsIsRow.holds Try.pinned (OpenSpec.ofChange logsIsSpec)

/-- ITS FALSE NEIGHBOUR: 'it returns false'. Refute it at one input. -/
def logsIsWrong : ChangeSpec := { name := "logsIs", fn := fun _ => fun
  | [d] => { results := [.lit (.bool false)], args := [d] }
  | _ => none }
def LogsIsWrongFalsely : Prop := logsIsRow.holds Try.pinned (OpenSpec.ofChange logsIsWrong)

/-- 'tallymarklaw08.LogsPowers': WHATEVER THE INPUT: true; the input reads as it did. -/
def logsPowersSpec : ChangeSpec := { name := "logsPowers", fn := fun _ => fun
  | [d1, d2] => { results := [.lit (.bool true)], args := [d1, d2] }
  | _ => none }
def logsPowersRow : OpenClaim := { program := "ytdpekigpjihnkaa", sum := "6d81ca588b339c424245baa87b4e65aa37ef8e6c151f92b8d35e13a24ce64bc8", func := "tallymark/tallymarklaw08.LogsPowers", spec := "logsPowers", apart := false }
def LogsPowersSaid : Prop := logsPowersRow.holds Try.pinned (OpenSpec.ofChange logsPowersSpec)

/-- ITS FALSE NEIGHBOUR: 'it returns false'. Refute it at one input. -/
def logsPowersWrong : ChangeSpec := { name := "logsPowers", fn := fun _ => fun
  | [d1, d2] => { results := [.lit (.bool false)], args := [d1, d2] }
  | _ => none }
def LogsPowersWrongFalsely : Prop := logsPowersRow.holds Try.pinned (OpenSpec.ofChange logsPowersWrong)

/-- 'tallymarklaw08.LogsSums': WHATEVER THE INPUT: true; the input reads as it did. -/
def logsSumsSpec : ChangeSpec := { name := "logsSums", fn := fun _ => fun
  | [d1, d2] => { results := [.lit (.bool true)], args := [d1, d2] }
  | _ => none }
def logsSumsRow : OpenClaim := { program := "ytdpekigpjihnkaa", sum := "6d81ca588b339c424245baa87b4e65aa37ef8e6c151f92b8d35e13a24ce64bc8", func := "tallymark/tallymarklaw08.LogsSums", spec := "logsSums", apart := false }
def LogsSumsSaid : Prop := logsSumsRow.holds Try.pinned (OpenSpec.ofChange logsSumsSpec)

/-- ITS FALSE NEIGHBOUR: 'it returns false'. Refute it at one input. -/
def logsSumsWrong : ChangeSpec := { name := "logsSums", fn := fun _ => fun
  | [d1, d2] => { results := [.lit (.bool false)], args := [d1, d2] }
  | _ => none }
def LogsSumsWrongFalsely : Prop := logsSumsRow.holds Try.pinned (OpenSpec.ofChange logsSumsWrong)

/-- 'tallymarklaw11.DrawBinomial': WHATEVER THE INPUT: true; the input reads as it did. -/
def drawBinomialSpec : ChangeSpec := { name := "drawBinomial", fn := fun _ => fun
  | [d] => { results := [.lit (.bool true)], args := [d] }
  | _ => none }
def drawBinomialRow : OpenClaim := { program := "ytdpekigpjihnkaa", sum := "6d81ca588b339c424245baa87b4e65aa37ef8e6c151f92b8d35e13a24ce64bc8", func := "tallymark/tallymarklaw11.DrawBinomial", spec := "drawBinomial", unfollowed := true, recurses := true, apart := false }
def DrawBinomialSaid : Prop := drawBinomialRow.holds Try.pinned (OpenSpec.ofChange drawBinomialSpec)

/-- ITS FALSE NEIGHBOUR: 'it returns false'. Refute it at one input. -/
def drawBinomialWrong : ChangeSpec := { name := "drawBinomial", fn := fun _ => fun
  | [d] => { results := [.lit (.bool false)], args := [d] }
  | _ => none }
def DrawBinomialWrongFalsely : Prop := drawBinomialRow.holds Try.pinned (OpenSpec.ofChange drawBinomialWrong)

/-- 'tallymarklaw11.DrawPrefix': WHATEVER THE INPUT: true; the input reads as it did. -/
def drawPrefixSpec : ChangeSpec := { name := "drawPrefix", fn := fun _ => fun
  | [d1, d2, d3] => { results := [.lit (.bool true)], args := [d1, d2, d3] }
  | _ => none }
def drawPrefixRow : OpenClaim := { program := "ytdpekigpjihnkaa", sum := "6d81ca588b339c424245baa87b4e65aa37ef8e6c151f92b8d35e13a24ce64bc8", func := "tallymark/tallymarklaw11.DrawPrefix", spec := "drawPrefix", unfollowed := true, recurses := true, apart := false }
def DrawPrefixSaid : Prop := drawPrefixRow.holds Try.pinned (OpenSpec.ofChange drawPrefixSpec)

/-- ITS FALSE NEIGHBOUR: 'it returns false'. Refute it at one input. -/
def drawPrefixWrong : ChangeSpec := { name := "drawPrefix", fn := fun _ => fun
  | [d1, d2, d3] => { results := [.lit (.bool false)], args := [d1, d2, d3] }
  | _ => none }
def DrawPrefixWrongFalsely : Prop := drawPrefixRow.holds Try.pinned (OpenSpec.ofChange drawPrefixWrong)

/-- 'tallymarklaw20.HashDraws': WHATEVER THE INPUT: true; the input reads as it did. -/
def hashDrawsSpec : ChangeSpec := { name := "hashDraws", fn := fun _ => fun
  | [d] => { results := [.lit (.bool true)], args := [d] }
  | _ => none }
def hashDrawsRow : OpenClaim := { program := "ytdpekigpjihnkaa", sum := "6d81ca588b339c424245baa87b4e65aa37ef8e6c151f92b8d35e13a24ce64bc8", func := "tallymark/tallymarklaw20.HashDraws", spec := "hashDraws", apart := false }
def HashDrawsSaid : Prop := hashDrawsRow.holds Try.pinned (OpenSpec.ofChange hashDrawsSpec)

/-- ITS FALSE NEIGHBOUR: 'it returns false'. Refute it at one input. -/
def hashDrawsWrong : ChangeSpec := { name := "hashDraws", fn := fun _ => fun
  | [d] => { results := [.lit (.bool false)], args := [d] }
  | _ => none }
def HashDrawsWrongFalsely : Prop := hashDrawsRow.holds Try.pinned (OpenSpec.ofChange hashDrawsWrong)

/- THE SECOND FORM. 'bulk': how many values and letters a reading holds, each counted each time it is reached (what is shared counts as often as it is met; a slice's spare places count too). A statement '..UptoSaid' is the law's where the arguments, and the package variables that the reading takes, are together of bulk at most 1048576: NARROWER than '..Said'. Prove '..Said' where nothing that the law and all that it calls make is longer than what came in: it says more and counts as full. Else prove '..UptoSaid'. A law counts once. -/
mutual
def uptoBulk {H : Type} : DataW H → Nat
  | .lit (.string bytes) => bytes.length + 1
  | .lit _ => 1
  | .nil => 1
  | .ptr d => uptoBulk d + 1
  | .slice elems spare => uptoBulkAll elems + uptoBulkAll spare + 1
  | .agg parts => uptoBulkAll parts + 1
  | .iface _ d => uptoBulk d + 1
  | .map entries => uptoBulkEntries entries + 1
  | .held _ => 1
def uptoBulkAll {H : Type} : List (DataW H) → Nat
  | [] => 0
  | d :: r => uptoBulk d + uptoBulkAll r
def uptoBulkEntries {H : Type} : List (Lit × DataW H) → Nat
  | [] => 0
  | x :: r => uptoBulkEntry x + uptoBulkEntries r
def uptoBulkEntry {H : Type} : Lit × DataW H → Nat
  | (.string bytes, d) => bytes.length + uptoBulk d + 1
  | (_, d) => uptoBulk d + 1
 end
def uptoSmall : (H : Type) → List (DataW H) → Bool := fun _ ds => decide (uptoBulkAll ds ≤ 1048576)
def OpenSpec.upto (s : _root_.Go.ChangeSpec) : _root_.Go.OpenSpec := { _root_.Go.OpenSpec.ofChange s with cond := some uptoSmall }

/-- 'tallymarklaw20.HashSums', WHERE WHAT IT READS IS OF BULK AT MOST 1048576: true; the input reads as it did. -/
def hashSumsUptoRow : OpenClaim := { program := "ytdpekigpjihnkaa", sum := "6d81ca588b339c424245baa87b4e65aa37ef8e6c151f92b8d35e13a24ce64bc8", func := "tallymark/tallymarklaw20.HashSums", spec := "hashSums", apart := false, narrowed := true }
def HashSumsUptoSaid : Prop := hashSumsUptoRow.holds Try.pinned (OpenSpec.upto hashSumsSpec)

/-- 'tallymarklaw20.HashApart', WHERE WHAT IT READS IS OF BULK AT MOST 1048576: true; the input reads as it did. -/
def hashApartUptoRow : OpenClaim := { program := "ytdpekigpjihnkaa", sum := "6d81ca588b339c424245baa87b4e65aa37ef8e6c151f92b8d35e13a24ce64bc8", func := "tallymark/tallymarklaw20.HashApart", spec := "hashApart", apart := false, narrowed := true }
def HashApartUptoSaid : Prop := hashApartUptoRow.holds Try.pinned (OpenSpec.upto hashApartSpec)

/-- 'tallymarklaw20.HashMuls', WHERE WHAT IT READS IS OF BULK AT MOST 1048576: true; the input reads as it did. -/
def hashMulsUptoRow : OpenClaim := { program := "ytdpekigpjihnkaa", sum := "6d81ca588b339c424245baa87b4e65aa37ef8e6c151f92b8d35e13a24ce64bc8", func := "tallymark/tallymarklaw20.HashMuls", spec := "hashMuls", apart := false, narrowed := true }
def HashMulsUptoSaid : Prop := hashMulsUptoRow.holds Try.pinned (OpenSpec.upto hashMulsSpec)

/-- 'tallymarklaw11.DrawBelow', WHERE WHAT IT READS IS OF BULK AT MOST 1048576: true; the input reads as it did. -/
def drawBelowUptoRow : OpenClaim := { program := "ytdpekigpjihnkaa", sum := "6d81ca588b339c424245baa87b4e65aa37ef8e6c151f92b8d35e13a24ce64bc8", func := "tallymark/tallymarklaw11.DrawBelow", spec := "drawBelow", unfollowed := true, recurses := true, apart := false, narrowed := true }
def DrawBelowUptoSaid : Prop := drawBelowUptoRow.holds Try.pinned (OpenSpec.upto drawBelowSpec)

/-- 'tallymarklaw08.LogsIs', WHERE WHAT IT READS IS OF BULK AT MOST 1048576: true; the input reads as it did. -/
def logsIsUptoRow : OpenClaim := { program := "ytdpekigpjihnkaa", sum := "6d81ca588b339c424245baa87b4e65aa37ef8e6c151f92b8d35e13a24ce64bc8", func := "tallymark/tallymarklaw08.LogsIs", spec := "logsIs", apart := false, narrowed := true }
def LogsIsUptoSaid : Prop := logsIsUptoRow.holds Try.pinned (OpenSpec.upto logsIsSpec)

/-- 'tallymarklaw08.LogsPowers', WHERE WHAT IT READS IS OF BULK AT MOST 1048576: true; the input reads as it did. -/
def logsPowersUptoRow : OpenClaim := { program := "ytdpekigpjihnkaa", sum := "6d81ca588b339c424245baa87b4e65aa37ef8e6c151f92b8d35e13a24ce64bc8", func := "tallymark/tallymarklaw08.LogsPowers", spec := "logsPowers", apart := false, narrowed := true }
def LogsPowersUptoSaid : Prop := logsPowersUptoRow.holds Try.pinned (OpenSpec.upto logsPowersSpec)

/-- 'tallymarklaw08.LogsSums', WHERE WHAT IT READS IS OF BULK AT MOST 1048576: true; the input reads as it did. -/
def logsSumsUptoRow : OpenClaim := { program := "ytdpekigpjihnkaa", sum := "6d81ca588b339c424245baa87b4e65aa37ef8e6c151f92b8d35e13a24ce64bc8", func := "tallymark/tallymarklaw08.LogsSums", spec := "logsSums", apart := false, narrowed := true }
def LogsSumsUptoSaid : Prop := logsSumsUptoRow.holds Try.pinned (OpenSpec.upto logsSumsSpec)

/-- 'tallymarklaw11.DrawBinomial', WHERE WHAT IT READS IS OF BULK AT MOST 1048576: true; the input reads as it did. -/
def drawBinomialUptoRow : OpenClaim := { program := "ytdpekigpjihnkaa", sum := "6d81ca588b339c424245baa87b4e65aa37ef8e6c151f92b8d35e13a24ce64bc8", func := "tallymark/tallymarklaw11.DrawBinomial", spec := "drawBinomial", unfollowed := true, recurses := true, apart := false, narrowed := true }
def DrawBinomialUptoSaid : Prop := drawBinomialUptoRow.holds Try.pinned (OpenSpec.upto drawBinomialSpec)

/-- 'tallymarklaw11.DrawPrefix', WHERE WHAT IT READS IS OF BULK AT MOST 1048576: true; the input reads as it did. -/
def drawPrefixUptoRow : OpenClaim := { program := "ytdpekigpjihnkaa", sum := "6d81ca588b339c424245baa87b4e65aa37ef8e6c151f92b8d35e13a24ce64bc8", func := "tallymark/tallymarklaw11.DrawPrefix", spec := "drawPrefix", unfollowed := true, recurses := true, apart := false, narrowed := true }
def DrawPrefixUptoSaid : Prop := drawPrefixUptoRow.holds Try.pinned (OpenSpec.upto drawPrefixSpec)

/-- 'tallymarklaw20.HashDraws', WHERE WHAT IT READS IS OF BULK AT MOST 1048576: true; the input reads as it did. -/
def hashDrawsUptoRow : OpenClaim := { program := "ytdpekigpjihnkaa", sum := "6d81ca588b339c424245baa87b4e65aa37ef8e6c151f92b8d35e13a24ce64bc8", func := "tallymark/tallymarklaw20.HashDraws", spec := "hashDraws", apart := false, narrowed := true }
def HashDrawsUptoSaid : Prop := hashDrawsUptoRow.holds Try.pinned (OpenSpec.upto hashDrawsSpec)

end Rows
end Go.Proofs.Ytdpekigpjihnkaa
