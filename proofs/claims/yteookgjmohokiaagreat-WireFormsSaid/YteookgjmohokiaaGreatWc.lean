import Derived.Test.YteookgjmohokiaaGreatWb
/-! The document's bits. -/
namespace Go.Proofs.YteookgjmohokiaaGreat
open Go.Eng Go.Vx
set_option linter.unusedSimpArgs false
set_option linter.unusedVariables false
set_option maxRecDepth 100000

theorem refSame_fn {A B : List Int} (hA : A.length ≤ 1099511627776) (hB : B.length ≤ 1099511627776) : Fn1 Tryz.prog 15 [.row 1 (A.map (ie .u8)), .row 1 (B.map (ie .u8))] [] (.lit (.bool (decide (A = B)))) [] := by
  refine fn1N_of pl15 (by kernel_rfl) Tryz.call15 Tryz.func15 rfl (by kernel_rfl) rfl [.tmp 4] (by kernel_rfl) fun Q hQ => ?_
  by_cases hl : A.length = B.length
  · simp (maxSteps := 1000000) (disch := (first | omega | (simp only [lnA, List.length_map, List.length_range, true_and, and_true]; (try omega); done) | fail)) only [go_sem, Int.reduceEq, Int.reduceToNat, Nat.reduceAdd, Nat.reduceMul, Nat.reduceEqDiff, ↓reduceIte]
    refine LoopV_of (X := Nat) (st := fun i => ([(0, .row 1 (A.map (ie .u8))), (1, .row 1 (B.map (ie .u8))), (5, .lit (.int .i64 (i : Int)))], []))
      (inv := fun i => i ≤ A.length ∧ A.take i = B.take i) (m := fun i => A.length - i) 0 [] rfl (by simp (disch := (first | omega | (simp only [lnA, List.length_map, List.length_range, true_and, and_true]; (try omega); done) | fail)) only [go_sem, Int.reduceEq, Int.reduceToNat, Nat.reduceAdd, Nat.reduceMul, Nat.reduceEqDiff, ↓reduceIte, true_and, and_true, and_self, List.drop_zero, List.take_length, Nat.le_refl, V.lit.injEq, Value.int.injEq, Value.bool.injEq]; try (first | omega | (simp; done) | (simp; omega))) (by simp (disch := (first | omega | (simp only [lnA, List.length_map, List.length_range, true_and, and_true]; (try omega); done) | fail)) only [go_sem, Int.reduceEq, Int.reduceToNat, Nat.reduceAdd, Nat.reduceMul, Nat.reduceEqDiff, ↓reduceIte, true_and, and_true, and_self, List.drop_zero, List.take_length, Nat.le_refl, V.lit.injEq, Value.int.injEq, Value.bool.injEq]; try (first | omega | (simp; done) | (simp; omega))) ⟨Nat.zero_le _, by simp⟩ ?_
    rintro i ⟨hi, hs⟩
    by_cases hil : i < A.length
    · by_cases hx : A.getD i 0 = B.getD i 0
      · simp (maxSteps := 1000000) (disch := (first | omega | (simp only [lnA, List.length_map, List.length_range, true_and, and_true]; (try omega); done) | fail)) only [go_sem, hx, decide_true, Bool.not_true, Int.reduceEq, Int.reduceToNat, Nat.reduceAdd, Nat.reduceMul, Nat.reduceEqDiff, ↓reduceIte]
        refine nextW (i + 1) [] ⟨by omega, ?_⟩ (by omega)
        rw [take_succ_getD _ _ hil, take_succ_getD _ _ (by omega), hs]
        have : A.getD i default = B.getD i default := hx
        rw [this]
      · simp (maxSteps := 1000000) (disch := (first | omega | (simp only [lnA, List.length_map, List.length_range, true_and, and_true]; (try omega); done) | fail)) only [go_sem, hx, decide_false, Bool.not_false, Int.reduceEq, Int.reduceToNat, Nat.reduceAdd, Nat.reduceMul, Nat.reduceEqDiff, ↓reduceIte]
        have : decide (A = B) = false := decide_eq_false fun e => hx (by rw [e])
        rw [this] at hQ
        exact endW [] hQ
    · simp (maxSteps := 1000000) (disch := (first | omega | (simp only [lnA, List.length_map, List.length_range, true_and, and_true]; (try omega); done) | fail)) only [go_sem, Int.reduceEq, Int.reduceToNat, Nat.reduceAdd, Nat.reduceMul, Nat.reduceEqDiff, ↓reduceIte]
      obtain rfl : i = A.length := by omega
      rw [List.take_of_length_le (by omega), List.take_of_length_le (by omega)] at hs
      rw [decide_eq_true hs] at hQ
      exact endW [] hQ
  · simp (maxSteps := 1000000) (disch := (first | omega | (simp only [lnA, List.length_map, List.length_range, true_and, and_true]; (try omega); done) | fail)) only [go_sem, Int.reduceEq, Int.reduceToNat, Nat.reduceAdd, Nat.reduceMul, Nat.reduceEqDiff, ↓reduceIte]
    have : decide (A = B) = false := decide_eq_false fun e => hl (by rw [e])
    rw [this] at hQ
    exact endW [] hQ
end Go.Proofs.YteookgjmohokiaaGreat
