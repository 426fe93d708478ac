import Derived.Test.YteookgjmohokiaaGreatD2
import Derived.Test.YteookgjmohokiaaGreatNp
namespace Go.Proofs.YteookgjmohokiaaGreat
open Go.Eng Go.Vx
set_option linter.unusedSimpArgs false
set_option linter.unusedVariables false
set_option maxRecDepth 100000
theorem mgood_fn {a : Int} : Fn1 Tryz.prog 127 [.lit (.int .i64 a)] [] (.lit (.bool (decide (1 ≤ a ∧ a ≤ 4096)))) [] := by
  refine fn1N_of pl127 (by kernel_rfl) Tryz.call127 Tryz.func127 rfl (by kernel_rfl) rfl [.tmp 2] (by kernel_rfl) fun Q hQ => ?_
  by_cases h : 1 ≤ a
  · simp (maxSteps := 1000000) (disch := (first | omega | (simp only [lnA, List.length_map, List.length_range, true_and, and_true]; (try omega); done) | fail)) only [go_sem, decide_true, Int.reduceEq, Int.reduceToNat, Nat.reduceAdd, Nat.reduceMul, Nat.reduceEqDiff, ↓reduceIte]
    simp only [h, true_and] at hQ
    exact endW [] hQ
  · simp (maxSteps := 1000000) (disch := (first | omega | (simp only [lnA, List.length_map, List.length_range, true_and, and_true]; (try omega); done) | fail)) only [go_sem, decide_false, Int.reduceEq, Int.reduceToNat, Nat.reduceAdd, Nat.reduceMul, Nat.reduceEqDiff, ↓reduceIte]
    simp only [h, false_and, decide_false] at hQ
    exact endW [] hQ
theorem fgood_fn {a : Int} : Fn1 Tryz.prog 134 [.lit (.int .i64 a)] [] (.lit (.bool (decide (0 ≤ a ∧ a ≤ 8)))) [] := by
  refine fn1N_of pl134 (by kernel_rfl) Tryz.call134 Tryz.func134 rfl (by kernel_rfl) rfl [.tmp 2] (by kernel_rfl) fun Q hQ => ?_
  by_cases h : 0 ≤ a
  · simp (maxSteps := 1000000) (disch := (first | omega | (simp only [lnA, List.length_map, List.length_range, true_and, and_true]; (try omega); done) | fail)) only [go_sem, decide_true, Int.reduceEq, Int.reduceToNat, Nat.reduceAdd, Nat.reduceMul, Nat.reduceEqDiff, ↓reduceIte]
    simp only [h, true_and] at hQ
    exact endW [] hQ
  · simp (maxSteps := 1000000) (disch := (first | omega | (simp only [lnA, List.length_map, List.length_range, true_and, and_true]; (try omega); done) | fail)) only [go_sem, decide_false, Int.reduceEq, Int.reduceToNat, Nat.reduceAdd, Nat.reduceMul, Nat.reduceEqDiff, ↓reduceIte]
    simp only [h, false_and, decide_false] at hQ
    exact endW [] hQ
theorem ygood_fn {a : Int} : Fn1 Tryz.prog 141 [.lit (.int .i64 a)] [] (.lit (.bool (decide (1 ≤ a ∧ a ≤ 5)))) [] := by
  refine fn1N_of pl141 (by kernel_rfl) Tryz.call141 Tryz.func141 rfl (by kernel_rfl) rfl [.tmp 2] (by kernel_rfl) fun Q hQ => ?_
  by_cases h : 1 ≤ a
  · simp (maxSteps := 1000000) (disch := (first | omega | (simp only [lnA, List.length_map, List.length_range, true_and, and_true]; (try omega); done) | fail)) only [go_sem, decide_true, Int.reduceEq, Int.reduceToNat, Nat.reduceAdd, Nat.reduceMul, Nat.reduceEqDiff, ↓reduceIte]
    simp only [h, true_and] at hQ
    exact endW [] hQ
  · simp (maxSteps := 1000000) (disch := (first | omega | (simp only [lnA, List.length_map, List.length_range, true_and, and_true]; (try omega); done) | fail)) only [go_sem, decide_false, Int.reduceEq, Int.reduceToNat, Nat.reduceAdd, Nat.reduceMul, Nat.reduceEqDiff, ↓reduceIte]
    simp only [h, false_and, decide_false] at hQ
    exact endW [] hQ
theorem amgood_fn {a : Int} : Fn1 Tryz.prog 123 [.lit (.int .i64 a)] [] (.lit (.bool (decide (1 ≤ a ∧ a ≤ 4096)))) [] := by
  refine fn1N_of pl123 (by kernel_rfl) Tryz.call123 Tryz.func123 rfl (by kernel_rfl) rfl [.tmp 2] (by kernel_rfl) fun Q hQ => ?_
  simp (maxSteps := 1000000) (disch := (first | omega | (simp only [lnA, List.length_map, List.length_range, true_and, and_true]; (try omega); done) | fail)) only [go_sem, Int.reduceEq, Int.reduceToNat, Nat.reduceAdd, Nat.reduceMul, Nat.reduceEqDiff, ↓reduceIte]
  refine callV0 (mgood_fn) rfl rfl ?_
  simp (maxSteps := 1000000) (disch := (first | omega | (simp only [lnA, List.length_map, List.length_range, true_and, and_true]; (try omega); done) | fail)) only [go_sem, Int.reduceEq, Int.reduceToNat, Nat.reduceAdd, Nat.reduceMul, Nat.reduceEqDiff, ↓reduceIte]
  exact endW [] hQ
theorem afgood_fn {a : Int} : Fn1 Tryz.prog 130 [.lit (.int .i64 a)] [] (.lit (.bool (decide (0 ≤ a ∧ a ≤ 8)))) [] := by
  refine fn1N_of pl130 (by kernel_rfl) Tryz.call130 Tryz.func130 rfl (by kernel_rfl) rfl [.tmp 2] (by kernel_rfl) fun Q hQ => ?_
  simp (maxSteps := 1000000) (disch := (first | omega | (simp only [lnA, List.length_map, List.length_range, true_and, and_true]; (try omega); done) | fail)) only [go_sem, Int.reduceEq, Int.reduceToNat, Nat.reduceAdd, Nat.reduceMul, Nat.reduceEqDiff, ↓reduceIte]
  refine callV0 (fgood_fn) rfl rfl ?_
  simp (maxSteps := 1000000) (disch := (first | omega | (simp only [lnA, List.length_map, List.length_range, true_and, and_true]; (try omega); done) | fail)) only [go_sem, Int.reduceEq, Int.reduceToNat, Nat.reduceAdd, Nat.reduceMul, Nat.reduceEqDiff, ↓reduceIte]
  exact endW [] hQ
theorem aygood_fn {a : Int} : Fn1 Tryz.prog 137 [.lit (.int .i64 a)] [] (.lit (.bool (decide (1 ≤ a ∧ a ≤ 5)))) [] := by
  refine fn1N_of pl137 (by kernel_rfl) Tryz.call137 Tryz.func137 rfl (by kernel_rfl) rfl [.tmp 2] (by kernel_rfl) fun Q hQ => ?_
  simp (maxSteps := 1000000) (disch := (first | omega | (simp only [lnA, List.length_map, List.length_range, true_and, and_true]; (try omega); done) | fail)) only [go_sem, Int.reduceEq, Int.reduceToNat, Nat.reduceAdd, Nat.reduceMul, Nat.reduceEqDiff, ↓reduceIte]
  refine callV0 (ygood_fn) rfl rfl ?_
  simp (maxSteps := 1000000) (disch := (first | omega | (simp only [lnA, List.length_map, List.length_range, true_and, and_true]; (try omega); done) | fail)) only [go_sem, Int.reduceEq, Int.reduceToNat, Nat.reduceAdd, Nat.reduceMul, Nat.reduceEqDiff, ↓reduceIte]
  exact endW [] hQ
theorem kind1_fn {a w : Int} : Fn1 Tryz.prog 95 [.agg [.lit (.int .i64 1), .lit (.int .i64 a), .lit (.int .i64 w)]] [] (.lit (.iface 177 (.int .i64 a))) [] := by
  refine fn1N_of pl95 (by kernel_rfl) Tryz.call95 Tryz.func95 rfl (by kernel_rfl) rfl [.tmp 2] (by kernel_rfl) fun Q hQ => ?_
  simp (maxSteps := 1000000) (disch := (first | omega | (simp only [lnA, List.length_map, List.length_range, true_and, and_true]; (try omega); done) | fail)) only [go_sem, Int.reduceEq, Int.reduceToNat, Nat.reduceAdd, Nat.reduceMul, Nat.reduceEqDiff, ↓reduceIte]
  exact endW [] hQ
theorem kind2_fn {a w : Int} : Fn1 Tryz.prog 95 [.agg [.lit (.int .i64 2), .lit (.int .i64 a), .lit (.int .i64 w)]] [] (.lit (.iface 178 (.int .i64 a))) [] := by
  refine fn1N_of pl95 (by kernel_rfl) Tryz.call95 Tryz.func95 rfl (by kernel_rfl) rfl [.tmp 2] (by kernel_rfl) fun Q hQ => ?_
  simp (maxSteps := 1000000) (disch := (first | omega | (simp only [lnA, List.length_map, List.length_range, true_and, and_true]; (try omega); done) | fail)) only [go_sem, Int.reduceEq, Int.reduceToNat, Nat.reduceAdd, Nat.reduceMul, Nat.reduceEqDiff, ↓reduceIte]
  exact endW [] hQ
theorem kind3_fn {a w : Int} : Fn1 Tryz.prog 95 [.agg [.lit (.int .i64 3), .lit (.int .i64 a), .lit (.int .i64 w)]] [] (.lit (.iface 179 (.int .i64 a))) [] := by
  refine fn1N_of pl95 (by kernel_rfl) Tryz.call95 Tryz.func95 rfl (by kernel_rfl) rfl [.tmp 2] (by kernel_rfl) fun Q hQ => ?_
  simp (maxSteps := 1000000) (disch := (first | omega | (simp only [lnA, List.length_map, List.length_range, true_and, and_true]; (try omega); done) | fail)) only [go_sem, Int.reduceEq, Int.reduceToNat, Nat.reduceAdd, Nat.reduceMul, Nat.reduceEqDiff, ↓reduceIte]
  exact endW [] hQ
end Go.Proofs.YteookgjmohokiaaGreat
