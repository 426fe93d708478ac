import Derived.Test.YtakajkgondadiaaLa
/-! Package tallymarklaw08: awake. -/
namespace Go.Proofs.Ytakajkgondadiaa
open Go.Eng Go.Vx
set_option linter.unusedSimpArgs false
set_option linter.unusedVariables false
set_option maxRecDepth 100000
theorem lg1 : lgN 1 = 0 := by decide +kernel
theorem lg2 : lgN 2 = 268435456 := by decide +kernel
theorem lg3 : lgN 3 = 425460131 := by decide +kernel
theorem awake08_fn : Fn1 Try.prog 20 [] [] (.lit (.bool true)) [] := by
  refine fn1_of pl20 (by kernel_rfl) Try.call20 Try.func20 rfl (by kernel_rfl) rfl [.tmp 0] (by kernel_rfl) fun Q hQ => ?_
  have h1 := log2_fn (N := 1) (n := 1) (by decide)
  have h2 := log2_fn (N := 2) (n := 2) (by decide)
  have h3 := log2_fn (N := 3) (n := 3) (by decide)
  rw [lg1] at h1
  rw [lg2] at h2
  rw [lg3] at h3
  simp (maxSteps := 1000000) (disch := (first | omega | (simp only [List.length_append, List.length_set, List.length_cons, List.length_nil, List.length_replicate, List.length_take, List.length_drop, List.length_map, List.length_range, true_and, and_true]; (try omega); done) | fail)) only [go_sem, Int.reduceEq, Int.reduceToNat, Nat.reduceAdd, Nat.reduceMul, Nat.reduceEqDiff, ↓reduceIte]
  refine callV0 (h1) rfl rfl ?_
  simp (maxSteps := 1000000) (disch := (first | omega | (simp only [List.length_append, List.length_set, List.length_cons, List.length_nil, List.length_replicate, List.length_take, List.length_drop, List.length_map, List.length_range, true_and, and_true]; (try omega); done) | fail)) only [go_sem, Int.reduceEq, Int.reduceToNat, Nat.reduceAdd, Nat.reduceMul, Nat.reduceEqDiff, ↓reduceIte]
  refine callV0 (h2) rfl rfl ?_
  simp (maxSteps := 1000000) (disch := (first | omega | (simp only [List.length_append, List.length_set, List.length_cons, List.length_nil, List.length_replicate, List.length_take, List.length_drop, List.length_map, List.length_range, true_and, and_true]; (try omega); done) | fail)) only [go_sem, Int.reduceEq, Int.reduceToNat, Nat.reduceAdd, Nat.reduceMul, Nat.reduceEqDiff, ↓reduceIte]
  refine callV0 (h3) rfl rfl ?_
  simp (maxSteps := 1000000) (disch := (first | omega | (simp only [List.length_append, List.length_set, List.length_cons, List.length_nil, List.length_replicate, List.length_take, List.length_drop, List.length_map, List.length_range, true_and, and_true]; (try omega); done) | fail)) only [go_sem, Int.reduceEq, Int.reduceToNat, Nat.reduceAdd, Nat.reduceMul, Nat.reduceEqDiff, ↓reduceIte]
  exact endW [] hQ
theorem log2n_fn {N : Nat} (h1 : 1 ≤ N) (h2 : N ≤ 1099511627776) : Fn1 Try.prog 23 [.lit (.int .i64 (N : Int))] [] (.lit (.int .i64 ((lgN N : Nat) : Int))) [] := log2_fn (by omega)
end Go.Proofs.Ytakajkgondadiaa
