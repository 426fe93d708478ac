import Derived.Test.YthoknpbjoeopcaaGreatDoorUa
import Derived.Test.YthoknpbjoeopcaaGreatDoorZq
/-! The document's fractions. -/
namespace Go.Proofs.YthoknpbjoeopcaaGreatDoor
open Go.Eng Go.Vx
set_option linter.unusedSimpArgs false
set_option linter.unusedVariables false
set_option maxRecDepth 100000
def QD (p m d : Nat) : V := .agg [.row 1 ((nl (dg p)).map (ie .i64)), .row 1 ((nl (dg m)).map (ie .i64)), .row 1 ((nl (dg d)).map (ie .i64))]
attribute [go_sem] QD
/-- The text of a fraction. -/
def qS (x : Rat) : List UInt8 := zS x.num ++ (if x.den = 1 then [] else 47 :: decS x.den)
theorem qfrac_fn {p m d : Nat} : Fn1 Tryz.prog 68 [ZD p m, DV d] [] (QD p m d) [] := by
  refine fn1N_of pl68 (by kernel_rfl) Tryz.call68 Tryz.func68 rfl (by kernel_rfl) rfl [.cell 4 57] (by kernel_rfl) fun Q hQ => ?_
  simp (maxSteps := 1000000) (disch := (first | omega | (simp only [lnA, List.length_map, List.length_range, true_and, and_true]; (try omega); done) | fail)) only [go_sem, Int.reduceEq, Int.reduceToNat, Nat.reduceAdd, Nat.reduceMul, Nat.reduceEqDiff, ↓reduceIte]
  exact endW [] hQ
end Go.Proofs.YthoknpbjoeopcaaGreatDoor
