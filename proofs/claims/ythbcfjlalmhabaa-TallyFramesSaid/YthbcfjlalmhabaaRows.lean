/-
  No cell of these rows narrows 'for every input' (looked for: loops, veiled, ifaces, maps, wideKeys, modest, calm, conditions, laid).
  DERIVED. THE GIVEN ROWS OF THIS SEAT. 12 by the template 'for every input the law returns true; each argument reads behind the call as it read before'; 0 by the template 'total and deterministic' (their statements: YthbcfjlalmhabaaTotals.lean).
  GIVEN WITH THE SEED: the statements are not yours to turn. If you find one false, say at which input.
  Laid BY PROGRAM, IN A SANDBOX (cutbox-rows.mjs): the forced cells as the released guide's own fill.sh prints them over the translation 2c700131953e8253… (all of the seat's roots in one cut). By AI agents, Wed Nov 11 2026. No macro, syntax, notation, axiom, sorry.
-/
import Derived.Test.YthbcfjlalmhabaaChecked
import GoSem.Claim
import GoSem.ClaimJoined
import GoSem.ClaimMapViews
import Derived.JoinedTies
import Derived.KernelRfl
namespace Go.Proofs.Ythbcfjlalmhabaa
/- THE CELL 'sum', in the pinned program and in every row, IS THE sha256 OF THE DUMP (.gsa) THAT YthbcfjlalmhabaaProg.lean LOADS. Nothing in Lean hashes anything: it is a label: what it is worth is what the hold of that sum in a sandbox is worth. -/
noncomputable def Try.pinned : Pinned := { name := "ythbcfjlalmhabaa", sum := "2c700131953e82536dcdaf0a55c5123971d1fc435005f4d7f4fa29a8d2702b49", checked := Try.checked }
namespace Rows
def none {H : Type} : Left H := { results := [], args := [] }

/-- 'tallymarklaw01.BitsWrites': WHATEVER THE INPUT: true; the input reads as it did. -/
def bitsWritesSpec : ChangeSpec := { name := "bitsWrites", fn := fun _ => fun
  | [d] => { results := [.lit (.bool true)], args := [d] }
  | _ => none }
def bitsWritesRow : OpenClaim := { program := "ythbcfjlalmhabaa", sum := "2c700131953e82536dcdaf0a55c5123971d1fc435005f4d7f4fa29a8d2702b49", func := "tallymark/tallymarklaw01.BitsWrites", spec := "bitsWrites", apart := false }
def BitsWritesSaid : Prop := bitsWritesRow.holds Try.pinned (OpenSpec.ofChange bitsWritesSpec)

/-- ITS FALSE NEIGHBOUR: 'it returns false'. Refute it at one input. -/
def bitsWritesWrong : ChangeSpec := { name := "bitsWrites", fn := fun _ => fun
  | [d] => { results := [.lit (.bool false)], args := [d] }
  | _ => none }
def BitsWritesWrongFalsely : Prop := bitsWritesRow.holds Try.pinned (OpenSpec.ofChange bitsWritesWrong)

/-- 'tallymarklaw01.BitsJoins': WHATEVER THE INPUT: true; the input reads as it did. -/
def bitsJoinsSpec : ChangeSpec := { name := "bitsJoins", fn := fun _ => fun
  | [d1, d2, d3] => { results := [.lit (.bool true)], args := [d1, d2, d3] }
  | _ => none }
def bitsJoinsRow : OpenClaim := { program := "ythbcfjlalmhabaa", sum := "2c700131953e82536dcdaf0a55c5123971d1fc435005f4d7f4fa29a8d2702b49", func := "tallymark/tallymarklaw01.BitsJoins", spec := "bitsJoins", apart := false }
def BitsJoinsSaid : Prop := bitsJoinsRow.holds Try.pinned (OpenSpec.ofChange bitsJoinsSpec)

/-- ITS FALSE NEIGHBOUR: 'it returns false'. Refute it at one input. -/
def bitsJoinsWrong : ChangeSpec := { name := "bitsJoins", fn := fun _ => fun
  | [d1, d2, d3] => { results := [.lit (.bool false)], args := [d1, d2, d3] }
  | _ => none }
def BitsJoinsWrongFalsely : Prop := bitsJoinsRow.holds Try.pinned (OpenSpec.ofChange bitsJoinsWrong)

/-- 'tallymarklaw02.CodesOne': WHATEVER THE INPUT: true; the input reads as it did. -/
def codesOneSpec : ChangeSpec := { name := "codesOne", fn := fun _ => fun
  | [d1, d2] => { results := [.lit (.bool true)], args := [d1, d2] }
  | _ => none }
def codesOneRow : OpenClaim := { program := "ythbcfjlalmhabaa", sum := "2c700131953e82536dcdaf0a55c5123971d1fc435005f4d7f4fa29a8d2702b49", func := "tallymark/tallymarklaw02.CodesOne", spec := "codesOne", unfollowed := true, recurses := true, apart := false }
def CodesOneSaid : Prop := codesOneRow.holds Try.pinned (OpenSpec.ofChange codesOneSpec)

/-- ITS FALSE NEIGHBOUR: 'it returns false'. Refute it at one input. -/
def codesOneWrong : ChangeSpec := { name := "codesOne", fn := fun _ => fun
  | [d1, d2] => { results := [.lit (.bool false)], args := [d1, d2] }
  | _ => none }
def CodesOneWrongFalsely : Prop := codesOneRow.holds Try.pinned (OpenSpec.ofChange codesOneWrong)

/-- 'tallymarklaw01.BitsBack': WHATEVER THE INPUT: true; the input reads as it did. -/
def bitsBackSpec : ChangeSpec := { name := "bitsBack", fn := fun _ => fun
  | [d] => { results := [.lit (.bool true)], args := [d] }
  | _ => none }
def bitsBackRow : OpenClaim := { program := "ythbcfjlalmhabaa", sum := "2c700131953e82536dcdaf0a55c5123971d1fc435005f4d7f4fa29a8d2702b49", func := "tallymark/tallymarklaw01.BitsBack", spec := "bitsBack", apart := false }
def BitsBackSaid : Prop := bitsBackRow.holds Try.pinned (OpenSpec.ofChange bitsBackSpec)

/-- ITS FALSE NEIGHBOUR: 'it returns false'. Refute it at one input. -/
def bitsBackWrong : ChangeSpec := { name := "bitsBack", fn := fun _ => fun
  | [d] => { results := [.lit (.bool false)], args := [d] }
  | _ => none }
def BitsBackWrongFalsely : Prop := bitsBackRow.holds Try.pinned (OpenSpec.ofChange bitsBackWrong)

/-- 'tallymarklaw01.BitsReads': WHATEVER THE INPUT: true; the input reads as it did. -/
def bitsReadsSpec : ChangeSpec := { name := "bitsReads", fn := fun _ => fun
  | [d1, d2] => { results := [.lit (.bool true)], args := [d1, d2] }
  | _ => none }
def bitsReadsRow : OpenClaim := { program := "ythbcfjlalmhabaa", sum := "2c700131953e82536dcdaf0a55c5123971d1fc435005f4d7f4fa29a8d2702b49", func := "tallymark/tallymarklaw01.BitsReads", spec := "bitsReads", apart := false }
def BitsReadsSaid : Prop := bitsReadsRow.holds Try.pinned (OpenSpec.ofChange bitsReadsSpec)

/-- ITS FALSE NEIGHBOUR: 'it returns false'. Refute it at one input. -/
def bitsReadsWrong : ChangeSpec := { name := "bitsReads", fn := fun _ => fun
  | [d1, d2] => { results := [.lit (.bool false)], args := [d1, d2] }
  | _ => none }
def BitsReadsWrongFalsely : Prop := bitsReadsRow.holds Try.pinned (OpenSpec.ofChange bitsReadsWrong)

/-- 'tallymarklaw02.CodesWrites': WHATEVER THE INPUT: true; the input reads as it did. -/
def codesWritesSpec : ChangeSpec := { name := "codesWrites", fn := fun _ => fun
  | [d] => { results := [.lit (.bool true)], args := [d] }
  | _ => none }
def codesWritesRow : OpenClaim := { program := "ythbcfjlalmhabaa", sum := "2c700131953e82536dcdaf0a55c5123971d1fc435005f4d7f4fa29a8d2702b49", func := "tallymark/tallymarklaw02.CodesWrites", spec := "codesWrites", apart := false }
def CodesWritesSaid : Prop := codesWritesRow.holds Try.pinned (OpenSpec.ofChange codesWritesSpec)

/-- ITS FALSE NEIGHBOUR: 'it returns false'. Refute it at one input. -/
def codesWritesWrong : ChangeSpec := { name := "codesWrites", fn := fun _ => fun
  | [d] => { results := [.lit (.bool false)], args := [d] }
  | _ => none }
def CodesWritesWrongFalsely : Prop := codesWritesRow.holds Try.pinned (OpenSpec.ofChange codesWritesWrong)

/-- 'tallymarktop.TallyCodes': WHATEVER THE INPUT: true; the input reads as it did. -/
def tallyCodesSpec : ChangeSpec := { name := "tallyCodes", fn := fun _ => fun
  | [d1, d2] => { results := [.lit (.bool true)], args := [d1, d2] }
  | _ => none }
def tallyCodesRow : OpenClaim := { program := "ythbcfjlalmhabaa", sum := "2c700131953e82536dcdaf0a55c5123971d1fc435005f4d7f4fa29a8d2702b49", func := "tallymark/tallymarktop.TallyCodes", spec := "tallyCodes", apart := false }
def TallyCodesSaid : Prop := tallyCodesRow.holds Try.pinned (OpenSpec.ofChange tallyCodesSpec)

/-- ITS FALSE NEIGHBOUR: 'it returns false'. Refute it at one input. -/
def tallyCodesWrong : ChangeSpec := { name := "tallyCodes", fn := fun _ => fun
  | [d1, d2] => { results := [.lit (.bool false)], args := [d1, d2] }
  | _ => none }
def TallyCodesWrongFalsely : Prop := tallyCodesRow.holds Try.pinned (OpenSpec.ofChange tallyCodesWrong)

/-- 'tallymarklaw03.PackPlays': WHATEVER THE INPUT: true; the input reads as it did. -/
def packPlaysSpec : ChangeSpec := { name := "packPlays", fn := fun _ => fun
  | [d1, d2, d3] => { results := [.lit (.bool true)], args := [d1, d2, d3] }
  | _ => none }
def packPlaysRow : OpenClaim := { program := "ythbcfjlalmhabaa", sum := "2c700131953e82536dcdaf0a55c5123971d1fc435005f4d7f4fa29a8d2702b49", func := "tallymark/tallymarklaw03.PackPlays", spec := "packPlays", apart := false }
def PackPlaysSaid : Prop := packPlaysRow.holds Try.pinned (OpenSpec.ofChange packPlaysSpec)

/-- ITS FALSE NEIGHBOUR: 'it returns false'. Refute it at one input. -/
def packPlaysWrong : ChangeSpec := { name := "packPlays", fn := fun _ => fun
  | [d1, d2, d3] => { results := [.lit (.bool false)], args := [d1, d2, d3] }
  | _ => none }
def PackPlaysWrongFalsely : Prop := packPlaysRow.holds Try.pinned (OpenSpec.ofChange packPlaysWrong)

/-- 'tallymarklaw03.PackReads': WHATEVER THE INPUT: true; the input reads as it did. -/
def packReadsSpec : ChangeSpec := { name := "packReads", fn := fun _ => fun
  | [d1, d2] => { results := [.lit (.bool true)], args := [d1, d2] }
  | _ => none }
def packReadsRow : OpenClaim := { program := "ythbcfjlalmhabaa", sum := "2c700131953e82536dcdaf0a55c5123971d1fc435005f4d7f4fa29a8d2702b49", func := "tallymark/tallymarklaw03.PackReads", spec := "packReads", apart := false }
def PackReadsSaid : Prop := packReadsRow.holds Try.pinned (OpenSpec.ofChange packReadsSpec)

/-- ITS FALSE NEIGHBOUR: 'it returns false'. Refute it at one input. -/
def packReadsWrong : ChangeSpec := { name := "packReads", fn := fun _ => fun
  | [d1, d2] => { results := [.lit (.bool false)], args := [d1, d2] }
  | _ => none }
def PackReadsWrongFalsely : Prop := packReadsRow.holds Try.pinned (OpenSpec.ofChange packReadsWrong)

/-- 'tallymarklaw02.CodesReads': WHATEVER THE INPUT: true; the input reads as it did. -/
def codesReadsSpec : ChangeSpec := { name := "codesReads", fn := fun _ => fun
  | [d1, d2] => { results := [.lit (.bool true)], args := [d1, d2] }
  | _ => none }
def codesReadsRow : OpenClaim := { program := "ythbcfjlalmhabaa", sum := "2c700131953e82536dcdaf0a55c5123971d1fc435005f4d7f4fa29a8d2702b49", func := "tallymark/tallymarklaw02.CodesReads", spec := "codesReads", apart := false }
def CodesReadsSaid : Prop := codesReadsRow.holds Try.pinned (OpenSpec.ofChange codesReadsSpec)

/-- ITS FALSE NEIGHBOUR: 'it returns false'. Refute it at one input. -/
def codesReadsWrong : ChangeSpec := { name := "codesReads", fn := fun _ => fun
  | [d1, d2] => { results := [.lit (.bool false)], args := [d1, d2] }
  | _ => none }
def CodesReadsWrongFalsely : Prop := codesReadsRow.holds Try.pinned (OpenSpec.ofChange codesReadsWrong)

/-- 'tallymarktop.TallyFrames': WHATEVER THE INPUT: true; the input reads as it did. -/
def tallyFramesSpec : ChangeSpec := { name := "tallyFrames", fn := fun _ => fun
  | [d] => { results := [.lit (.bool true)], args := [d] }
  | _ => none }
def tallyFramesRow : OpenClaim := { program := "ythbcfjlalmhabaa", sum := "2c700131953e82536dcdaf0a55c5123971d1fc435005f4d7f4fa29a8d2702b49", func := "tallymark/tallymarktop.TallyFrames", spec := "tallyFrames", apart := false }
def TallyFramesSaid : Prop := tallyFramesRow.holds Try.pinned (OpenSpec.ofChange tallyFramesSpec)

/-- ITS FALSE NEIGHBOUR: 'it returns false'. Refute it at one input. -/
def tallyFramesWrong : ChangeSpec := { name := "tallyFrames", fn := fun _ => fun
  | [d] => { results := [.lit (.bool false)], args := [d] }
  | _ => none }
def TallyFramesWrongFalsely : Prop := tallyFramesRow.holds Try.pinned (OpenSpec.ofChange tallyFramesWrong)

/-- 'tallymarklaw02.CodesSeveral': WHATEVER THE INPUT: true; the input reads as it did. -/
def codesSeveralSpec : ChangeSpec := { name := "codesSeveral", fn := fun _ => fun
  | [d1, d2] => { results := [.lit (.bool true)], args := [d1, d2] }
  | _ => none }
def codesSeveralRow : OpenClaim := { program := "ythbcfjlalmhabaa", sum := "2c700131953e82536dcdaf0a55c5123971d1fc435005f4d7f4fa29a8d2702b49", func := "tallymark/tallymarklaw02.CodesSeveral", spec := "codesSeveral", apart := false }
def CodesSeveralSaid : Prop := codesSeveralRow.holds Try.pinned (OpenSpec.ofChange codesSeveralSpec)

/-- ITS FALSE NEIGHBOUR: 'it returns false'. Refute it at one input. -/
def codesSeveralWrong : ChangeSpec := { name := "codesSeveral", fn := fun _ => fun
  | [d1, d2] => { results := [.lit (.bool false)], args := [d1, d2] }
  | _ => none }
def CodesSeveralWrongFalsely : Prop := codesSeveralRow.holds Try.pinned (OpenSpec.ofChange codesSeveralWrong)

/- THE SECOND FORM. 'bulk': how many values and letters a reading holds, each counted each time it is reached (what is shared counts as often as it is met; a slice's spare places count too). A statement '..UptoSaid' is the law's where the arguments, and the package variables that the reading takes, are together of bulk at most 1048576: NARROWER than '..Said'. Prove '..Said' where nothing that the law and all that it calls make is longer than what came in: it says more and counts as full. Else prove '..UptoSaid'. A law counts once. -/
mutual
def uptoBulk {H : Type} : DataW H → Nat
  | .lit (.string bytes) => bytes.length + 1
  | .lit _ => 1
  | .nil => 1
  | .ptr d => uptoBulk d + 1
  | .slice elems spare => uptoBulkAll elems + uptoBulkAll spare + 1
  | .agg parts => uptoBulkAll parts + 1
  | .iface _ d => uptoBulk d + 1
  | .map entries => uptoBulkEntries entries + 1
  | .held _ => 1
def uptoBulkAll {H : Type} : List (DataW H) → Nat
  | [] => 0
  | d :: r => uptoBulk d + uptoBulkAll r
def uptoBulkEntries {H : Type} : List (Lit × DataW H) → Nat
  | [] => 0
  | x :: r => uptoBulkEntry x + uptoBulkEntries r
def uptoBulkEntry {H : Type} : Lit × DataW H → Nat
  | (.string bytes, d) => bytes.length + uptoBulk d + 1
  | (_, d) => uptoBulk d + 1
 end
def uptoSmall : (H : Type) → List (DataW H) → Bool := fun _ ds => decide (uptoBulkAll ds ≤ 1048576)
def OpenSpec.upto (s : _root_.Go.ChangeSpec) : _root_.Go.OpenSpec := { _root_.Go.OpenSpec.ofChange s with cond := some uptoSmall }

/-- 'tallymarklaw01.BitsWrites', WHERE WHAT IT READS IS OF BULK AT MOST 1048576: true; the input reads as it did. -/
def bitsWritesUptoRow : OpenClaim := { program := "ythbcfjlalmhabaa", sum := "2c700131953e82536dcdaf0a55c5123971d1fc435005f4d7f4fa29a8d2702b49", func := "tallymark/tallymarklaw01.BitsWrites", spec := "bitsWrites", apart := false, narrowed := true }
def BitsWritesUptoSaid : Prop := bitsWritesUptoRow.holds Try.pinned (OpenSpec.upto bitsWritesSpec)

/-- 'tallymarklaw01.BitsJoins', WHERE WHAT IT READS IS OF BULK AT MOST 1048576: true; the input reads as it did. -/
def bitsJoinsUptoRow : OpenClaim := { program := "ythbcfjlalmhabaa", sum := "2c700131953e82536dcdaf0a55c5123971d1fc435005f4d7f4fa29a8d2702b49", func := "tallymark/tallymarklaw01.BitsJoins", spec := "bitsJoins", apart := false, narrowed := true }
def BitsJoinsUptoSaid : Prop := bitsJoinsUptoRow.holds Try.pinned (OpenSpec.upto bitsJoinsSpec)

/-- 'tallymarklaw02.CodesOne', WHERE WHAT IT READS IS OF BULK AT MOST 1048576: true; the input reads as it did. -/
def codesOneUptoRow : OpenClaim := { program := "ythbcfjlalmhabaa", sum := "2c700131953e82536dcdaf0a55c5123971d1fc435005f4d7f4fa29a8d2702b49", func := "tallymark/tallymarklaw02.CodesOne", spec := "codesOne", unfollowed := true, recurses := true, apart := false, narrowed := true }
def CodesOneUptoSaid : Prop := codesOneUptoRow.holds Try.pinned (OpenSpec.upto codesOneSpec)

/-- 'tallymarklaw01.BitsBack', WHERE WHAT IT READS IS OF BULK AT MOST 1048576: true; the input reads as it did. -/
def bitsBackUptoRow : OpenClaim := { program := "ythbcfjlalmhabaa", sum := "2c700131953e82536dcdaf0a55c5123971d1fc435005f4d7f4fa29a8d2702b49", func := "tallymark/tallymarklaw01.BitsBack", spec := "bitsBack", apart := false, narrowed := true }
def BitsBackUptoSaid : Prop := bitsBackUptoRow.holds Try.pinned (OpenSpec.upto bitsBackSpec)

/-- 'tallymarklaw01.BitsReads', WHERE WHAT IT READS IS OF BULK AT MOST 1048576: true; the input reads as it did. -/
def bitsReadsUptoRow : OpenClaim := { program := "ythbcfjlalmhabaa", sum := "2c700131953e82536dcdaf0a55c5123971d1fc435005f4d7f4fa29a8d2702b49", func := "tallymark/tallymarklaw01.BitsReads", spec := "bitsReads", apart := false, narrowed := true }
def BitsReadsUptoSaid : Prop := bitsReadsUptoRow.holds Try.pinned (OpenSpec.upto bitsReadsSpec)

/-- 'tallymarklaw02.CodesWrites', WHERE WHAT IT READS IS OF BULK AT MOST 1048576: true; the input reads as it did. -/
def codesWritesUptoRow : OpenClaim := { program := "ythbcfjlalmhabaa", sum := "2c700131953e82536dcdaf0a55c5123971d1fc435005f4d7f4fa29a8d2702b49", func := "tallymark/tallymarklaw02.CodesWrites", spec := "codesWrites", apart := false, narrowed := true }
def CodesWritesUptoSaid : Prop := codesWritesUptoRow.holds Try.pinned (OpenSpec.upto codesWritesSpec)

/-- 'tallymarktop.TallyCodes', WHERE WHAT IT READS IS OF BULK AT MOST 1048576: true; the input reads as it did. -/
def tallyCodesUptoRow : OpenClaim := { program := "ythbcfjlalmhabaa", sum := "2c700131953e82536dcdaf0a55c5123971d1fc435005f4d7f4fa29a8d2702b49", func := "tallymark/tallymarktop.TallyCodes", spec := "tallyCodes", apart := false, narrowed := true }
def TallyCodesUptoSaid : Prop := tallyCodesUptoRow.holds Try.pinned (OpenSpec.upto tallyCodesSpec)

/-- 'tallymarklaw03.PackPlays', WHERE WHAT IT READS IS OF BULK AT MOST 1048576: true; the input reads as it did. -/
def packPlaysUptoRow : OpenClaim := { program := "ythbcfjlalmhabaa", sum := "2c700131953e82536dcdaf0a55c5123971d1fc435005f4d7f4fa29a8d2702b49", func := "tallymark/tallymarklaw03.PackPlays", spec := "packPlays", apart := false, narrowed := true }
def PackPlaysUptoSaid : Prop := packPlaysUptoRow.holds Try.pinned (OpenSpec.upto packPlaysSpec)

/-- 'tallymarklaw03.PackReads', WHERE WHAT IT READS IS OF BULK AT MOST 1048576: true; the input reads as it did. -/
def packReadsUptoRow : OpenClaim := { program := "ythbcfjlalmhabaa", sum := "2c700131953e82536dcdaf0a55c5123971d1fc435005f4d7f4fa29a8d2702b49", func := "tallymark/tallymarklaw03.PackReads", spec := "packReads", apart := false, narrowed := true }
def PackReadsUptoSaid : Prop := packReadsUptoRow.holds Try.pinned (OpenSpec.upto packReadsSpec)

/-- 'tallymarklaw02.CodesReads', WHERE WHAT IT READS IS OF BULK AT MOST 1048576: true; the input reads as it did. -/
def codesReadsUptoRow : OpenClaim := { program := "ythbcfjlalmhabaa", sum := "2c700131953e82536dcdaf0a55c5123971d1fc435005f4d7f4fa29a8d2702b49", func := "tallymark/tallymarklaw02.CodesReads", spec := "codesReads", apart := false, narrowed := true }
def CodesReadsUptoSaid : Prop := codesReadsUptoRow.holds Try.pinned (OpenSpec.upto codesReadsSpec)

/-- 'tallymarktop.TallyFrames', WHERE WHAT IT READS IS OF BULK AT MOST 1048576: true; the input reads as it did. -/
def tallyFramesUptoRow : OpenClaim := { program := "ythbcfjlalmhabaa", sum := "2c700131953e82536dcdaf0a55c5123971d1fc435005f4d7f4fa29a8d2702b49", func := "tallymark/tallymarktop.TallyFrames", spec := "tallyFrames", apart := false, narrowed := true }
def TallyFramesUptoSaid : Prop := tallyFramesUptoRow.holds Try.pinned (OpenSpec.upto tallyFramesSpec)

/-- 'tallymarklaw02.CodesSeveral', WHERE WHAT IT READS IS OF BULK AT MOST 1048576: true; the input reads as it did. -/
def codesSeveralUptoRow : OpenClaim := { program := "ythbcfjlalmhabaa", sum := "2c700131953e82536dcdaf0a55c5123971d1fc435005f4d7f4fa29a8d2702b49", func := "tallymark/tallymarklaw02.CodesSeveral", spec := "codesSeveral", apart := false, narrowed := true }
def CodesSeveralUptoSaid : Prop := codesSeveralUptoRow.holds Try.pinned (OpenSpec.upto codesSeveralSpec)

end Rows
end Go.Proofs.Ythbcfjlalmhabaa
