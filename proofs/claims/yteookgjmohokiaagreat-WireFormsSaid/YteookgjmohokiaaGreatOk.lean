import Derived.Test.YteookgjmohokiaaGreatWc
/-! A writer that is only looked at. -/
namespace Go.Proofs.YteookgjmohokiaaGreat
open Go.Eng Go.Vx
set_option linter.unusedSimpArgs false
set_option linter.unusedVariables false
set_option maxRecDepth 100000
/-- A writer that is only looked at. -/
def wrP (L : List Bool) : V := .rref 2 [[.row 1 ((pk L).map (ie .u8)), .lit (.int .i64 (L.length : Int))]] 0 0
attribute [go_sem] wrP
theorem bytesF_fn {L : List Bool} (hm : L.length < 1099511627776) : Fn1 Tryz.prog 32 [wrP L] [] (.sl 0 1 0 (pk L).length) [some (wrR L)] := by
  refine fn1N_of pl32 (by kernel_rfl) Tryz.call32 Tryz.func32 rfl (by kernel_rfl) rfl [.tmp 2] (by kernel_rfl) fun Q hQ => ?_
  have hpl := pk_len L
  simp (maxSteps := 1000000) (disch := (first | omega | (simp only [lnA, List.length_map, List.length_range, true_and, and_true]; (try omega); done) | fail)) only [go_sem, Int.reduceEq, Int.reduceToNat, Nat.reduceAdd, Nat.reduceMul, Nat.reduceEqDiff, ↓reduceIte]
  exact endW [some 0] hQ
end Go.Proofs.YteookgjmohokiaaGreat
