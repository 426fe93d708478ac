import Derived.Test.YteookgjmohokiaaGreatRh
import Derived.Test.YteookgjmohokiaaGreatN2
import Derived.Test.YteookgjmohokiaaGreatRj
/-! math/bits.Len, logs.Log2. -/
namespace Go.Proofs.YteookgjmohokiaaGreat
open Go.Eng Go.Vx
set_option linter.unusedSimpArgs false
set_option linter.unusedVariables false
set_option maxRecDepth 100000
theorem len_fn {n : Nat} (hn : n < 18446744073709551616) : Fn1 Tryz.prog 75 [.lit (.int .u64 n)] [] (.lit (.int .i64 (bl n : Int))) [] := by
  refine fn1N_of pl75 (by kernel_rfl) Tryz.call75 Tryz.func75 rfl (by kernel_rfl) rfl [.tmp 2] (by kernel_rfl) fun Q hQ => ?_
  simp (maxSteps := 1000000) (disch := (first | omega | (simp only [lnA, List.length_map, List.length_range, true_and, and_true]; (try omega); done) | fail)) only [go_sem, Int.reduceEq, Int.reduceToNat, Nat.reduceAdd, Nat.reduceMul, Nat.reduceEqDiff, ↓reduceIte]
  refine callV0 (len64_fn hn) rfl rfl ?_
  simp (maxSteps := 1000000) (disch := (first | omega | (simp only [lnA, List.length_map, List.length_range, true_and, and_true]; (try omega); done) | fail)) only [go_sem, Int.reduceEq, Int.reduceToNat, Nat.reduceAdd, Nat.reduceMul, Nat.reduceEqDiff, ↓reduceIte]
  exact endW [] hQ
end Go.Proofs.YteookgjmohokiaaGreat
