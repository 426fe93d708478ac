import Derived.Test.YthoknpbjoeopcaaGreatDoorE6
/-! Law 5's Few. -/
namespace Go.Proofs.YthoknpbjoeopcaaGreatDoor
open Go.Eng Go.Vx
set_option linter.unusedSimpArgs false
set_option linter.unusedVariables false
set_option maxRecDepth 100000
theorem few5_fn {W : List Int} {n : Nat} (hL : W.length ≤ 9223372036854775807) (hn : n ≤ 1000000) : Fn1 Tryz.prog 9 [.row 1 (W.map (ie .u64)), .lit (.int .i64 (n : Int))] [] (.row 1 ((W.take n).map (ie .u64))) [] := by
  refine fn1N_of pl9 (by kernel_rfl) Tryz.call9 Tryz.func9 rfl (by kernel_rfl) rfl [.tmp 4] (by kernel_rfl) fun Q hQ => ?_
  by_cases h : n < W.length
  · simp (maxSteps := 1000000) (disch := (first | omega | (simp only [lnA, List.length_map, List.length_range, true_and, and_true]; (try omega); done) | fail)) only [go_sem, List.drop_zero, Int.reduceEq, Int.reduceToNat, Nat.reduceAdd, Nat.reduceMul, Nat.reduceEqDiff, ↓reduceIte]
    exact endW [] hQ
  · have e : W.take n = W := List.take_of_length_le (by omega)
    rw [e] at hQ
    simp (maxSteps := 1000000) (disch := (first | omega | (simp only [lnA, List.length_map, List.length_range, true_and, and_true]; (try omega); done) | fail)) only [go_sem, Int.reduceEq, Int.reduceToNat, Nat.reduceAdd, Nat.reduceMul, Nat.reduceEqDiff, ↓reduceIte]
    exact endW [] hQ
end Go.Proofs.YthoknpbjoeopcaaGreatDoor
