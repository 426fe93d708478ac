import Derived.Test.YtfemchdaoihogaaTa
/-! Is a tape dead? -/
namespace Go.Proofs.Ytfemchdaoihogaa
open Go.Eng Go.Vx
set_option linter.unusedSimpArgs false
set_option linter.unusedVariables false
set_option maxRecDepth 100000
theorem deadT_fn {L : List Bool} {p : Nat} {d : Bool} : Fn1 Try.prog 34 [tpP L p d] [] (.lit (.bool d)) [] := by
  refine fn1_of pl34 (by kernel_rfl) Try.call34 Try.func34 rfl (by kernel_rfl) rfl [.tmp 2] (by kernel_rfl) fun Q hQ => ?_
  simp (maxSteps := 1000000) (disch := (first | omega | (simp only [List.length_append, List.length_set, List.length_cons, List.length_nil, List.length_replicate, List.length_take, List.length_drop, List.length_map, List.length_range, true_and, and_true]; (try omega); done) | fail)) only [go_sem, Int.reduceEq, Int.reduceToNat, Nat.reduceAdd, Nat.reduceMul, Nat.reduceEqDiff, ↓reduceIte]
  exact endW [] hQ
end Go.Proofs.Ytfemchdaoihogaa
