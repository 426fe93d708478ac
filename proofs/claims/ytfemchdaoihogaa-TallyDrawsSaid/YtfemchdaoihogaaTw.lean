import Derived.Test.YtfemchdaoihogaaTa
/-! The first few of coins. -/
namespace Go.Proofs.Ytfemchdaoihogaa
open Go.Eng Go.Vx
set_option linter.unusedSimpArgs false
set_option linter.unusedVariables false
set_option maxRecDepth 100000
theorem few9_fn {L : List Bool} {n : Nat} (hL : L.length ≤ 9223372036854775807) (hn : n ≤ 1000000) : Fn1 Try.prog 9 [.row 1 (L.map be), .lit (.int .i64 (n : Int))] [] (.row 1 ((L.take n).map be)) [] := by
  refine fn1_of pl9 (by kernel_rfl) Try.call9 Try.func9 rfl (by kernel_rfl) rfl [.tmp 4] (by kernel_rfl) fun Q hQ => ?_
  by_cases h : n < L.length
  · simp (maxSteps := 1000000) (disch := (first | omega | (simp only [List.length_append, List.length_set, List.length_cons, List.length_nil, List.length_replicate, List.length_take, List.length_drop, List.length_map, List.length_range, true_and, and_true]; (try omega); done) | fail)) only [go_sem, List.drop_zero, Int.reduceEq, Int.reduceToNat, Nat.reduceAdd, Nat.reduceMul, Nat.reduceEqDiff, ↓reduceIte]
    exact endW [] hQ
  · have e : L.take n = L := List.take_of_length_le (by omega)
    rw [e] at hQ
    simp (maxSteps := 1000000) (disch := (first | omega | (simp only [List.length_append, List.length_set, List.length_cons, List.length_nil, List.length_replicate, List.length_take, List.length_drop, List.length_map, List.length_range, true_and, and_true]; (try omega); done) | fail)) only [go_sem, Int.reduceEq, Int.reduceToNat, Nat.reduceAdd, Nat.reduceMul, Nat.reduceEqDiff, ↓reduceIte]
    exact endW [] hQ
end Go.Proofs.Ytfemchdaoihogaa
