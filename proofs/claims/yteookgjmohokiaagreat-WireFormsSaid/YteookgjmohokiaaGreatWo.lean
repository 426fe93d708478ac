import Derived.Test.YteookgjmohokiaaGreatWn
import Derived.Test.YteookgjmohokiaaGreatE8
/-! Package pack: written and read; what the document says. -/
namespace Go.Proofs.YteookgjmohokiaaGreat
open Go.Eng Go.Vx
set_option linter.unusedSimpArgs false
set_option linter.unusedVariables false
set_option maxRecDepth 100000
theorem write_fn {n w : Nat} {N : List Nat} {L : List Bool} (hn : n ≤ 256) (hw : 1 ≤ w ∧ w ≤ 32) (hN : N.length = n) (hl : ∀ x ∈ N, x < 2 ^ w) (hL : L.length < 1099511600000) :
    Fn1 Tryz.prog 27 [.ref 0 0 0 0, .ref 2 0 0 0] [some (vcC 1 n w), some (vcR n w (packN w N)), some (wrC 3 L), some (wrR L)] (.tup []) [some (vcC 1 n w), some (vcR n w (packN w N)), some (wrC 4 (L ++ wbits w N)), none, some (wrR (L ++ wbits w N))] := by
  refine fn1N_of pl27 (by kernel_rfl) Tryz.call27 Tryz.func27 rfl (by kernel_rfl) rfl [] (by kernel_rfl) fun Q hQ => ?_
  have hnw : n * w ≤ 256 * 32 := Nat.mul_le_mul hn hw.2
  have hlw := words_len (nwd n w) (packN w N)
  simp (maxSteps := 1000000) (disch := (first | omega | (simp only [lnA, List.length_map, List.length_range, true_and, and_true]; (try omega); done) | fail)) only [go_sem, Int.reduceEq, Int.reduceToNat, Nat.reduceAdd, Nat.reduceMul, Nat.reduceEqDiff, ↓reduceIte]
  refine LoopV_of (X := Nat) (st := fun i => ([(0, .ref 0 0 0 0), (1, .ref 2 0 0 0), (10, .lit (.int .i64 (n : Int))), (11, .lit (.int .i64 (i : Int)))], [some (vcC 1 n w), some (vcR n w (packN w N)), some (wrC 4 (L ++ wbits w (N.take i))), none, some (wrR (L ++ wbits w (N.take i)))]))
    (inv := fun i => i ≤ n) (m := fun i => n - i) 0 [some 0, some 1, some 2, some 3, some 3] rfl (by simp only [List.take_zero, wbits, List.flatMap_nil, List.append_nil]; (simp (disch := (first | omega | (simp only [lnA, List.length_map, List.length_range, true_and, and_true]; (try omega); done) | fail)) only [go_sem, Int.reduceEq, Int.reduceToNat, Nat.reduceAdd, Nat.reduceMul, Nat.reduceEqDiff, ↓reduceIte, true_and, and_true, and_self, List.drop_zero, List.take_length, Nat.le_refl, V.lit.injEq, Value.int.injEq, Value.bool.injEq]; try (first | omega | (simp; done) | (simp; omega)))) (by simp (disch := (first | omega | (simp only [lnA, List.length_map, List.length_range, true_and, and_true]; (try omega); done) | fail)) only [go_sem, Int.reduceEq, Int.reduceToNat, Nat.reduceAdd, Nat.reduceMul, Nat.reduceEqDiff, ↓reduceIte, true_and, and_true, and_self, List.drop_zero, List.take_length, Nat.le_refl, V.lit.injEq, Value.int.injEq, Value.bool.injEq]; try (first | omega | (simp; done) | (simp; omega))) (by omega) ?_
  intro i hi
  by_cases h : i < n
  · have hx := getD_lt hl i
    have ht := wbits_take (w := w) (N := N) (i := i) (by omega)
    have hlen := wbits_len w (N.take i)
    have hlen2 : (N.take i).length * w ≤ 256 * 32 := Nat.mul_le_mul (by simp; omega) hw.2
    have hp := pow_w hw
    simp (maxSteps := 1000000) (disch := (first | omega | (simp only [lnA, List.length_map, List.length_range, true_and, and_true]; (try omega); done) | fail)) only [go_sem, Int.reduceEq, Int.reduceToNat, Nat.reduceAdd, Nat.reduceMul, Nat.reduceEqDiff, ↓reduceIte]
    refine callT (getN_fn (n := n) (w := w) (N := N) (i := i) hn hw h hl) ?_
    simp (maxSteps := 1000000) (disch := (first | omega | (simp only [lnA, List.length_map, List.length_range, true_and, and_true]; (try omega); done) | fail)) only [go_sem, Int.reduceEq, Int.reduceToNat, Nat.reduceAdd, Nat.reduceMul, Nat.reduceEqDiff, ↓reduceIte]
    refine callW [some 2, some 4] [] (num_fn (L := L ++ wbits w (N.take i)) (n := N.getD i 0) (m := (w : Int)) (by omega) (by rw [List.length_append]; omega) (by omega) (by omega) (by simpa using hx)) ?_
    rw [Int.toNat_natCast, List.append_assoc, ← ht]
    simp (maxSteps := 1000000) (disch := (first | omega | (simp only [lnA, List.length_map, List.length_range, true_and, and_true]; (try omega); done) | fail)) only [go_sem, Int.reduceEq, Int.reduceToNat, Nat.reduceAdd, Nat.reduceMul, Nat.reduceEqDiff, ↓reduceIte]
    refine nextW (i + 1) [some 0, some 1, some 2, some 3, some 5] (by omega) (by omega)
  · obtain rfl : i = n := by omega
    rw [List.take_of_length_le (show N.length ≤ i by omega)]
    simp (maxSteps := 1000000) (disch := (first | omega | (simp only [lnA, List.length_map, List.length_range, true_and, and_true]; (try omega); done) | fail)) only [go_sem, Int.reduceEq, Int.reduceToNat, Nat.reduceAdd, Nat.reduceMul, Nat.reduceEqDiff, ↓reduceIte]
    exact endW [some 0, some 1, some 2, some 3, some 4] hQ
end Go.Proofs.YteookgjmohokiaaGreat
