import Derived.Test.YthoknpbjoeopcaaGreatDoorQc
import Derived.Test.YthoknpbjoeopcaaGreatDoorNp
import Derived.Test.YthoknpbjoeopcaaGreatDoorUa
/-! Package rat: powers, halves. -/
namespace Go.Proofs.YthoknpbjoeopcaaGreatDoor
open Go.Eng Go.Vx
set_option linter.unusedSimpArgs false
set_option linter.unusedVariables false
set_option maxRecDepth 100000
theorem bl_two {N K : Nat} (h : N < K) : bl (2 ^ N) ≤ K := bl_le_of (Nat.pow_lt_pow_right (by decide) h)
end Go.Proofs.YthoknpbjoeopcaaGreatDoor

/-! Law 6: what its statements share. -/
namespace Go.Proofs.YthoknpbjoeopcaaGreatDoor
open Go.Eng Go.Vx
set_option linter.unusedSimpArgs false
set_option linter.unusedVariables false
set_option maxRecDepth 100000
end Go.Proofs.YthoknpbjoeopcaaGreatDoor

/-! Law 6: what its statements share. -/
namespace Go.Proofs.YthoknpbjoeopcaaGreatDoor
open Go.Eng Go.Vx
set_option linter.unusedSimpArgs false
set_option linter.unusedVariables false
set_option maxRecDepth 100000
theorem wsub_fn {x y : Int} (hx : (wg x.natAbs).length ≤ 1000000) (hy : (wg y.natAbs).length ≤ 1000000) : Fn1 Tryz.prog 17 [WV x, WV y] [] (WV (x - y)) [] := by
  have h1 := wminus_fn (z := y) (by omega)
  have h2 := wadd_fn (x := x) (y := -y) hx (by rw [Int.natAbs_neg]; exact hy)
  rw [← Int.sub_eq_add_neg] at h2
  refine fn1N_of pl17 (by kernel_rfl) Tryz.call17 Tryz.func17 rfl (by kernel_rfl) rfl [.cell 4 31] (by kernel_rfl) fun Q hQ => ?_
  repeat (first | (refine callV0 (h1) rfl rfl ?_) | (refine callV0 (h2) rfl rfl ?_) | (simp (maxSteps := 1000000) (disch := (first | omega | (simp only [lnA, List.length_map, List.length_range, true_and, and_true]; (try omega); done) | fail)) only [go_sem, Int.reduceEq, Int.reduceToNat, Nat.reduceAdd, Nat.reduceMul, Nat.reduceEqDiff, ↓reduceIte]))
  exact endW [] hQ
end Go.Proofs.YthoknpbjoeopcaaGreatDoor

/-! WholeRing. -/
namespace Go.Proofs.YthoknpbjoeopcaaGreatDoor
open Go.Eng Go.Vx
set_option linter.unusedSimpArgs false
set_option linter.unusedVariables false
set_option maxRecDepth 100000
theorem cmpZ_eq (x : Int) : cmpZ x x = 0 := by unfold cmpZ; rw [if_neg (by omega), if_neg (by omega)]
end Go.Proofs.YthoknpbjoeopcaaGreatDoor
