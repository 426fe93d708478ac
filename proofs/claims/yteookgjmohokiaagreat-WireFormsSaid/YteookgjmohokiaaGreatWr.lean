import Derived.Test.YteookgjmohokiaaGreatWj
import Derived.Test.YteookgjmohokiaaGreatE6
import Derived.Test.YteookgjmohokiaaGreatE7
import Derived.Test.YteookgjmohokiaaGreatE8
/-! TallyCodes. -/
namespace Go.Proofs.YteookgjmohokiaaGreat
open Go.Eng Go.Vx
set_option linter.unusedSimpArgs false
set_option linter.unusedVariables false
set_option maxRecDepth 100000
/-- All bytes, told as unchanged. -/
theorem bytesR_fn {L : List Bool} (hm : L.length < 1099511627776) : Fn1 Tryz.prog 32 [.ref 0 0 0 0] [some (wrC 1 L), some (wrR L)] (.row 1 ((pk L).map (ie .u8))) [some (wrC 1 L), some (wrR L)] := by
  refine fn1N_of pl32 (by kernel_rfl) Tryz.call32 Tryz.func32 rfl (by kernel_rfl) rfl [.tmp 2] (by kernel_rfl) fun Q hQ => ?_
  have hpl := pk_len L
  have e : List.take 0 (List.replicate (pk L).length (0 : Int)) ++ List.take (pk L).length (pk L) ++ List.drop (List.take (pk L).length (pk L)).length (List.replicate (pk L).length 0) = pk L := by simp
  simp (maxSteps := 1000000) (disch := (first | omega | (simp only [lnA, List.length_map, List.length_range, true_and, and_true]; (try omega); done) | fail)) only [go_sem, Int.reduceEq, Int.reduceToNat, Nat.reduceAdd, Nat.reduceMul, Nat.reduceEqDiff, ↓reduceIte]
  rw [e]
  exact endW [some 0, some 1] hQ
/-- A number of three ways. -/
def three (k x : Nat) : List Bool := numBits x (k + 1) ++ deltaB (x ||| 1) ++ varB x
end Go.Proofs.YteookgjmohokiaaGreat
