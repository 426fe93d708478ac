import Derived.Test.YthoknpbjoeopcaaGreatDoorQh
import Derived.Test.YthoknpbjoeopcaaGreatDoorRh
import Derived.Test.YthoknpbjoeopcaaGreatDoorRd
import Derived.Test.YthoknpbjoeopcaaGreatDoorRj
import Derived.Test.YthoknpbjoeopcaaGreatDoorLa
/-! Package logs; LogsIs, LogsPowers, LogsSums. -/
namespace Go.Proofs.YthoknpbjoeopcaaGreatDoor
open Go.Eng Go.Vx
set_option linter.unusedSimpArgs false
set_option linter.unusedVariables false
set_option maxRecDepth 100000
theorem xlog_fn {N : Nat} {n : Int} (h : max 0 (min n 1048576) = (N : Int)) : Fn1 Tryz.prog 75 [.lit (.int .i64 n)] [] (.lit (.int .i64 ((N * lgN (max 1 N) : Nat) : Int))) [] := by
  refine fn1N_of pl75 (by kernel_rfl) Tryz.call75 Tryz.func75 rfl (by kernel_rfl) rfl [.tmp 2] (by kernel_rfl) fun Q hQ => ?_
  have hN : N ≤ 1048576 := by omega
  have hl := lgN_le (n := max 1 N) (by omega) (by omega)
  have hm : N * lgN (max 1 N) ≤ 1048576 * (41 * 268435456) := Nat.mul_le_mul hN (by omega)
  have hc : (N : Int) * ((lgN (max 1 N) : Nat) : Int) = ((N * lgN (max 1 N) : Nat) : Int) := by simp
  simp (maxSteps := 1000000) (disch := (first | omega | (simp only [lnA, List.length_map, List.length_range, true_and, and_true]; (try omega); done) | fail)) only [go_sem, h, Int.reduceEq, Int.reduceToNat, Nat.reduceAdd, Nat.reduceMul, Nat.reduceEqDiff, ↓reduceIte]
  refine callV0 (log2_fn (N := max 1 N) (n := (N : Int)) (by omega)) rfl rfl ?_
  simp (maxSteps := 1000000) (disch := (first | omega | (simp only [lnA, List.length_map, List.length_range, true_and, and_true]; (try omega); done) | fail)) only [go_sem, hc, Int.reduceEq, Int.reduceToNat, Nat.reduceAdd, Nat.reduceMul, Nat.reduceEqDiff, ↓reduceIte]
  exact endW [] hQ
theorem diff_fn {N : Nat} {n : Int} (h : max 1 (min n 1048576) = (N : Int)) : Fn1 Tryz.prog 33 [.lit (.int .i64 n)] [] (.lit (.int .i64 (((N * lgN (max 1 N) : Nat) : Int) - (((N - 1) * lgN (max 1 (N - 1)) : Nat) : Int)))) [] := by
  refine fn1N_of pl33 (by kernel_rfl) Tryz.call33 Tryz.func33 rfl (by kernel_rfl) rfl [.tmp 2] (by kernel_rfl) fun Q hQ => ?_
  have hN : 1 ≤ N ∧ N ≤ 1048576 := by omega
  have hl := lgN_le (n := max 1 N) (by omega) (by omega)
  have hm : N * lgN (max 1 N) ≤ 1048576 * (41 * 268435456) := Nat.mul_le_mul hN.2 (by omega)
  have hl2 := lgN_le (n := max 1 (N - 1)) (by omega) (by omega)
  have hm2 : (N - 1) * lgN (max 1 (N - 1)) ≤ 1048576 * (41 * 268435456) := Nat.mul_le_mul (by omega) (by omega)
  have hc : (N : Int) - 1 = ((N - 1 : Nat) : Int) := by omega
  simp (maxSteps := 1000000) (disch := (first | omega | (simp only [lnA, List.length_map, List.length_range, true_and, and_true]; (try omega); done) | fail)) only [go_sem, h, Int.reduceEq, Int.reduceToNat, Nat.reduceAdd, Nat.reduceMul, Nat.reduceEqDiff, ↓reduceIte]
  refine callV0 (xlog_fn (N := N) (n := (N : Int)) (by omega)) rfl rfl ?_
  simp (maxSteps := 1000000) (disch := (first | omega | (simp only [lnA, List.length_map, List.length_range, true_and, and_true]; (try omega); done) | fail)) only [go_sem, hc, Int.reduceEq, Int.reduceToNat, Nat.reduceAdd, Nat.reduceMul, Nat.reduceEqDiff, ↓reduceIte]
  refine callV0 (xlog_fn (N := N - 1) (n := ((N - 1 : Nat) : Int)) (by omega)) rfl rfl ?_
  simp (maxSteps := 1000000) (disch := (first | omega | (simp only [lnA, List.length_map, List.length_range, true_and, and_true]; (try omega); done) | fail)) only [go_sem, Int.reduceEq, Int.reduceToNat, Nat.reduceAdd, Nat.reduceMul, Nat.reduceEqDiff, ↓reduceIte]
  exact endW [] hQ
end Go.Proofs.YthoknpbjoeopcaaGreatDoor

/-! Package tallymarklaw08: awake. -/
namespace Go.Proofs.YthoknpbjoeopcaaGreatDoor
open Go.Eng Go.Vx
set_option linter.unusedSimpArgs false
set_option linter.unusedVariables false
set_option maxRecDepth 100000
theorem log2n_fn {N : Nat} (h1 : 1 ≤ N) (h2 : N ≤ 1099511627776) : Fn1 Tryz.prog 35 [.lit (.int .i64 (N : Int))] [] (.lit (.int .i64 ((lgN N : Nat) : Int))) [] := log2_fn (by omega)
end Go.Proofs.YthoknpbjoeopcaaGreatDoor

/-! LogsIs, LogsPowers, LogsSums. -/
namespace Go.Proofs.YthoknpbjoeopcaaGreatDoor
open Go.Eng Go.Vx
set_option linter.unusedSimpArgs false
set_option linter.unusedVariables false
set_option maxRecDepth 100000
/-- The number times its logarithm. -/
def xl (N : Nat) : Int := ((N * lgN (max 1 N) : Nat) : Int)
theorem xl_zero : xl 0 = 0 := by unfold xl; rw [Nat.zero_mul]; rfl
theorem xl_le {N : Nat} (h : N ≤ 1048576) : 0 ≤ xl N ∧ xl N ≤ 11542724608000000 := by
  have hl := lgN_le (n := max 1 N) (by omega) (by omega)
  have hm : N * lgN (max 1 N) ≤ 1048576 * (41 * 268435456) := Nat.mul_le_mul h (by omega)
  unfold xl
  omega
theorem diffx_fn {N : Nat} {n : Int} (h : max 1 (min n 1048576) = (N : Int)) : Fn1 Tryz.prog 33 [.lit (.int .i64 n)] [] (.lit (.int .i64 (xl N - xl (N - 1)))) [] := diff_fn h
end Go.Proofs.YthoknpbjoeopcaaGreatDoor
