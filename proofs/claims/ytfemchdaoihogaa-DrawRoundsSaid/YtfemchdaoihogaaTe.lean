import Derived.Test.YtfemchdaoihogaaTb
/-! Package tallymarklaw11: awake. -/
namespace Go.Proofs.Ytfemchdaoihogaa
open Go.Eng Go.Vx
set_option linter.unusedSimpArgs false
set_option linter.unusedVariables false
set_option maxRecDepth 100000
theorem awake11_fn : Fn1 Try.prog 23 [] [] (.lit (.bool true)) [] := by
  refine fn1_of pl23 (by kernel_rfl) Try.call23 Try.func23 rfl (by kernel_rfl) rfl [.tmp 0] (by kernel_rfl) fun Q hQ => ?_
  have hb : belowX [true, true, false, true] 3 0 = (1, 0, 4, false) := by decide +kernel
  have hbf := below_fn (L := [true, true, false, true]) (n := 3) (p := 0) (by decide) (by decide) (by decide) (by decide)
  rw [hb] at hbf
  simp (maxSteps := 1000000) (disch := (first | omega | (simp only [lnA, List.length_map, List.length_range, true_and, and_true]; (try omega); done) | fail)) only [go_sem, Int.reduceEq, Int.reduceToNat, Nat.reduceAdd, Nat.reduceMul, Nat.reduceEqDiff, ↓reduceIte]
  refine callW [] [0] (newT_fn (L := [true, true, false, true]) (by decide)) ?_
  simp (maxSteps := 1000000) (disch := (first | omega | (simp only [lnA, List.length_map, List.length_range, true_and, and_true]; (try omega); done) | fail)) only [go_sem, Int.reduceEq, Int.reduceToNat, Nat.reduceAdd, Nat.reduceMul, Nat.reduceEqDiff, ↓reduceIte]
  refine callW [some 1] [] (hbf) ?_
  simp (maxSteps := 1000000) (disch := (first | omega | (simp only [lnA, List.length_map, List.length_range, true_and, and_true]; (try omega); done) | fail)) only [go_sem, Int.reduceEq, Int.reduceToNat, Nat.reduceAdd, Nat.reduceMul, Nat.reduceEqDiff, ↓reduceIte]
  refine callT (readT_fn (L := [true, true, false, true]) (p := 4) (d := false)) ?_
  simp (maxSteps := 1000000) (disch := (first | omega | (simp only [lnA, List.length_map, List.length_range, true_and, and_true]; (try omega); done) | fail)) only [go_sem, Int.reduceEq, Int.reduceToNat, Nat.reduceAdd, Nat.reduceMul, Nat.reduceEqDiff, ↓reduceIte]
  exact endW [] hQ
end Go.Proofs.Ytfemchdaoihogaa
