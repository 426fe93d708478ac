import Derived.Test.YtfemchdaoihogaaZa
/-! Package whole: compared, sums, products, quotients. -/
namespace Go.Proofs.Ytfemchdaoihogaa
open Go.Eng Go.Vx
set_option linter.unusedSimpArgs false
set_option linter.unusedVariables false
set_option maxRecDepth 100000
def cmpZ (x y : Int) : Int := if x < y then -1 else if y < x then 1 else 0
theorem wcmp_fn {x y : Int} (hx : (wg x.natAbs).length ≤ 4000000) (hy : (wg y.natAbs).length ≤ 4000000) : Fn1 Try.prog 76 [WV x, WV y] [] (.lit (.int .i64 (cmpZ x y))) [] := by
  refine fn1_of pl76 (by kernel_rfl) Try.call76 Try.func76 rfl (by kernel_rfl) rfl [.tmp 4] (by kernel_rfl) fun Q hQ => ?_
  by_cases h1 : x < 0
  · by_cases h2 : y < 0
    · have hc := ncmp_fn (a := y.natAbs) (b := x.natAbs) hy hx
      have e : cmpI y.natAbs x.natAbs = cmpZ x y := by unfold cmpI cmpZ; repeat' split <;> omega
      rw [e] at hc
      simp (maxSteps := 1000000) (disch := (first | omega | (simp only [List.length_append, List.length_set, List.length_cons, List.length_nil, List.length_replicate, List.length_take, List.length_drop, List.length_map, List.length_range, true_and, and_true]; (try omega); done) | fail)) only [go_sem, decide_eq_true h1, decide_eq_true h2, Int.reduceEq, Int.reduceToNat, Nat.reduceAdd, Nat.reduceMul, Nat.reduceEqDiff, ↓reduceIte]
      refine callV0 (hc) rfl rfl ?_
      simp (maxSteps := 1000000) (disch := (first | omega | (simp only [List.length_append, List.length_set, List.length_cons, List.length_nil, List.length_replicate, List.length_take, List.length_drop, List.length_map, List.length_range, true_and, and_true]; (try omega); done) | fail)) only [go_sem, Int.reduceEq, Int.reduceToNat, Nat.reduceAdd, Nat.reduceMul, Nat.reduceEqDiff, ↓reduceIte]
      exact endW [] hQ
    · have e : cmpZ x y = -1 := by unfold cmpZ; rw [if_pos (by omega)]
      rw [e] at hQ
      simp (maxSteps := 1000000) (disch := (first | omega | (simp only [List.length_append, List.length_set, List.length_cons, List.length_nil, List.length_replicate, List.length_take, List.length_drop, List.length_map, List.length_range, true_and, and_true]; (try omega); done) | fail)) only [go_sem, decide_eq_true h1, decide_eq_false h2, Int.reduceEq, Int.reduceToNat, Nat.reduceAdd, Nat.reduceMul, Nat.reduceEqDiff, ↓reduceIte]
      exact endW [] hQ
  · by_cases h2 : y < 0
    · have e : cmpZ x y = 1 := by unfold cmpZ; rw [if_neg (by omega), if_pos (by omega)]
      rw [e] at hQ
      simp (maxSteps := 1000000) (disch := (first | omega | (simp only [List.length_append, List.length_set, List.length_cons, List.length_nil, List.length_replicate, List.length_take, List.length_drop, List.length_map, List.length_range, true_and, and_true]; (try omega); done) | fail)) only [go_sem, decide_eq_false h1, decide_eq_true h2, Int.reduceEq, Int.reduceToNat, Nat.reduceAdd, Nat.reduceMul, Nat.reduceEqDiff, ↓reduceIte]
      exact endW [] hQ
    · have hc := ncmp_fn (a := x.natAbs) (b := y.natAbs) hx hy
      have e : cmpI x.natAbs y.natAbs = cmpZ x y := by unfold cmpI cmpZ; repeat' split <;> omega
      rw [e] at hc
      simp (maxSteps := 1000000) (disch := (first | omega | (simp only [List.length_append, List.length_set, List.length_cons, List.length_nil, List.length_replicate, List.length_take, List.length_drop, List.length_map, List.length_range, true_and, and_true]; (try omega); done) | fail)) only [go_sem, decide_eq_false h1, decide_eq_false h2, Int.reduceEq, Int.reduceToNat, Nat.reduceAdd, Nat.reduceMul, Nat.reduceEqDiff, ↓reduceIte]
      refine callV0 (hc) rfl rfl ?_
      simp (maxSteps := 1000000) (disch := (first | omega | (simp only [List.length_append, List.length_set, List.length_cons, List.length_nil, List.length_replicate, List.length_take, List.length_drop, List.length_map, List.length_range, true_and, and_true]; (try omega); done) | fail)) only [go_sem, Int.reduceEq, Int.reduceToNat, Nat.reduceAdd, Nat.reduceMul, Nat.reduceEqDiff, ↓reduceIte]
      exact endW [] hQ
theorem wadd_fn {x y : Int} (hx : (wg x.natAbs).length ≤ 1000000) (hy : (wg y.natAbs).length ≤ 1000000) : Fn1 Try.prog 69 [WV x, WV y] [] (WV (x + y)) [] := by
  have hla : (wg (x.natAbs + y.natAbs)).length ≤ 1000001 := dgB_len_add (B := 18446744073709551616) (by decide) hx hy
  have hm := fun b n (h : n ≤ x.natAbs + y.natAbs) => wmake_fn (b := b) (n := n) (Nat.le_trans (wg_mono h) (Nat.le_trans hla (by decide)))
  refine fn1_of pl69 (by kernel_rfl) Try.call69 Try.func69 rfl (by kernel_rfl) rfl [.cell 4 46] (by kernel_rfl) fun Q hQ => ?_
  by_cases h1 : x < 0
  · by_cases h2 : y < 0
    · have hb : sg true (x.natAbs + y.natAbs) = x + y := by simp only [sg, if_true]; omega
      have hm := hm true _ (Nat.le_refl _)
      rw [hb] at hm
      simp (maxSteps := 1000000) (disch := (first | omega | (simp only [List.length_append, List.length_set, List.length_cons, List.length_nil, List.length_replicate, List.length_take, List.length_drop, List.length_map, List.length_range, true_and, and_true]; (try omega); done) | fail)) only [go_sem, decide_eq_true h1, decide_eq_true h2, Int.reduceEq, Int.reduceToNat, Nat.reduceAdd, Nat.reduceMul, Nat.reduceEqDiff, ↓reduceIte]
      refine callV0 (nadd_fn (a := x.natAbs) (b := y.natAbs) (by omega) (by omega)) rfl rfl ?_
      simp (maxSteps := 1000000) (disch := (first | omega | (simp only [List.length_append, List.length_set, List.length_cons, List.length_nil, List.length_replicate, List.length_take, List.length_drop, List.length_map, List.length_range, true_and, and_true]; (try omega); done) | fail)) only [go_sem, Int.reduceEq, Int.reduceToNat, Nat.reduceAdd, Nat.reduceMul, Nat.reduceEqDiff, ↓reduceIte]
      refine callV0 (hm) rfl rfl ?_
      simp (maxSteps := 1000000) (disch := (first | omega | (simp only [List.length_append, List.length_set, List.length_cons, List.length_nil, List.length_replicate, List.length_take, List.length_drop, List.length_map, List.length_range, true_and, and_true]; (try omega); done) | fail)) only [go_sem, Int.reduceEq, Int.reduceToNat, Nat.reduceAdd, Nat.reduceMul, Nat.reduceEqDiff, ↓reduceIte]
      exact endW [] hQ
    · by_cases h3 : y.natAbs ≤ x.natAbs
      · have hb : sg true (x.natAbs - y.natAbs) = x + y := by simp only [sg, if_true]; omega
        have hm := hm true (x.natAbs - y.natAbs) (by omega)
        rw [hb] at hm
        simp (maxSteps := 1000000) (disch := (first | omega | (simp only [List.length_append, List.length_set, List.length_cons, List.length_nil, List.length_replicate, List.length_take, List.length_drop, List.length_map, List.length_range, true_and, and_true]; (try omega); done) | fail)) only [go_sem, decide_eq_true h1, decide_eq_false h2, Int.reduceEq, Int.reduceToNat, Nat.reduceAdd, Nat.reduceMul, Nat.reduceEqDiff, ↓reduceIte]
        refine callV0 (nsub_fn (a := x.natAbs) (b := y.natAbs) h3 (by omega)) rfl rfl ?_
        simp (maxSteps := 1000000) (disch := (first | omega | (simp only [List.length_append, List.length_set, List.length_cons, List.length_nil, List.length_replicate, List.length_take, List.length_drop, List.length_map, List.length_range, true_and, and_true]; (try omega); done) | fail)) only [go_sem, Int.reduceEq, Int.reduceToNat, Nat.reduceAdd, Nat.reduceMul, Nat.reduceEqDiff, ↓reduceIte]
        refine callV0 (hm) rfl rfl ?_
        simp (maxSteps := 1000000) (disch := (first | omega | (simp only [List.length_append, List.length_set, List.length_cons, List.length_nil, List.length_replicate, List.length_take, List.length_drop, List.length_map, List.length_range, true_and, and_true]; (try omega); done) | fail)) only [go_sem, Int.reduceEq, Int.reduceToNat, Nat.reduceAdd, Nat.reduceMul, Nat.reduceEqDiff, ↓reduceIte]
        exact endW [] hQ
      · have hb : sg false (y.natAbs - x.natAbs) = x + y := by simp only [sg, Bool.false_eq_true, if_false]; omega
        have hm := hm false (y.natAbs - x.natAbs) (by omega)
        rw [hb] at hm
        simp (maxSteps := 1000000) (disch := (first | omega | (simp only [List.length_append, List.length_set, List.length_cons, List.length_nil, List.length_replicate, List.length_take, List.length_drop, List.length_map, List.length_range, true_and, and_true]; (try omega); done) | fail)) only [go_sem, decide_eq_true h1, decide_eq_false h2, Int.reduceEq, Int.reduceToNat, Nat.reduceAdd, Nat.reduceMul, Nat.reduceEqDiff, ↓reduceIte]
        refine callV0 (nsubE_fn (a := x.natAbs) (b := y.natAbs) (by omega) (by omega) (by omega)) rfl rfl ?_
        simp (maxSteps := 1000000) (disch := (first | omega | (simp only [List.length_append, List.length_set, List.length_cons, List.length_nil, List.length_replicate, List.length_take, List.length_drop, List.length_map, List.length_range, true_and, and_true]; (try omega); done) | fail)) only [go_sem, Int.reduceEq, Int.reduceToNat, Nat.reduceAdd, Nat.reduceMul, Nat.reduceEqDiff, ↓reduceIte]
        refine callV0 (nsub_fn (a := y.natAbs) (b := x.natAbs) (by omega) (by omega)) rfl rfl ?_
        simp (maxSteps := 1000000) (disch := (first | omega | (simp only [List.length_append, List.length_set, List.length_cons, List.length_nil, List.length_replicate, List.length_take, List.length_drop, List.length_map, List.length_range, true_and, and_true]; (try omega); done) | fail)) only [go_sem, Int.reduceEq, Int.reduceToNat, Nat.reduceAdd, Nat.reduceMul, Nat.reduceEqDiff, ↓reduceIte]
        refine callV0 (hm) rfl rfl ?_
        simp (maxSteps := 1000000) (disch := (first | omega | (simp only [List.length_append, List.length_set, List.length_cons, List.length_nil, List.length_replicate, List.length_take, List.length_drop, List.length_map, List.length_range, true_and, and_true]; (try omega); done) | fail)) only [go_sem, Int.reduceEq, Int.reduceToNat, Nat.reduceAdd, Nat.reduceMul, Nat.reduceEqDiff, ↓reduceIte]
        exact endW [] hQ
  · by_cases h2 : y < 0
    · by_cases h3 : y.natAbs ≤ x.natAbs
      · have hb : sg false (x.natAbs - y.natAbs) = x + y := by simp only [sg, Bool.false_eq_true, if_false]; omega
        have hm := hm false (x.natAbs - y.natAbs) (by omega)
        rw [hb] at hm
        simp (maxSteps := 1000000) (disch := (first | omega | (simp only [List.length_append, List.length_set, List.length_cons, List.length_nil, List.length_replicate, List.length_take, List.length_drop, List.length_map, List.length_range, true_and, and_true]; (try omega); done) | fail)) only [go_sem, decide_eq_false h1, decide_eq_true h2, Int.reduceEq, Int.reduceToNat, Nat.reduceAdd, Nat.reduceMul, Nat.reduceEqDiff, ↓reduceIte]
        refine callV0 (nsub_fn (a := x.natAbs) (b := y.natAbs) h3 (by omega)) rfl rfl ?_
        simp (maxSteps := 1000000) (disch := (first | omega | (simp only [List.length_append, List.length_set, List.length_cons, List.length_nil, List.length_replicate, List.length_take, List.length_drop, List.length_map, List.length_range, true_and, and_true]; (try omega); done) | fail)) only [go_sem, Int.reduceEq, Int.reduceToNat, Nat.reduceAdd, Nat.reduceMul, Nat.reduceEqDiff, ↓reduceIte]
        refine callV0 (hm) rfl rfl ?_
        simp (maxSteps := 1000000) (disch := (first | omega | (simp only [List.length_append, List.length_set, List.length_cons, List.length_nil, List.length_replicate, List.length_take, List.length_drop, List.length_map, List.length_range, true_and, and_true]; (try omega); done) | fail)) only [go_sem, Int.reduceEq, Int.reduceToNat, Nat.reduceAdd, Nat.reduceMul, Nat.reduceEqDiff, ↓reduceIte]
        exact endW [] hQ
      · have hb : sg true (y.natAbs - x.natAbs) = x + y := by simp only [sg, if_true]; omega
        have hm := hm true (y.natAbs - x.natAbs) (by omega)
        rw [hb] at hm
        simp (maxSteps := 1000000) (disch := (first | omega | (simp only [List.length_append, List.length_set, List.length_cons, List.length_nil, List.length_replicate, List.length_take, List.length_drop, List.length_map, List.length_range, true_and, and_true]; (try omega); done) | fail)) only [go_sem, decide_eq_false h1, decide_eq_true h2, Int.reduceEq, Int.reduceToNat, Nat.reduceAdd, Nat.reduceMul, Nat.reduceEqDiff, ↓reduceIte]
        refine callV0 (nsubE_fn (a := x.natAbs) (b := y.natAbs) (by omega) (by omega) (by omega)) rfl rfl ?_
        simp (maxSteps := 1000000) (disch := (first | omega | (simp only [List.length_append, List.length_set, List.length_cons, List.length_nil, List.length_replicate, List.length_take, List.length_drop, List.length_map, List.length_range, true_and, and_true]; (try omega); done) | fail)) only [go_sem, Int.reduceEq, Int.reduceToNat, Nat.reduceAdd, Nat.reduceMul, Nat.reduceEqDiff, ↓reduceIte]
        refine callV0 (nsub_fn (a := y.natAbs) (b := x.natAbs) (by omega) (by omega)) rfl rfl ?_
        simp (maxSteps := 1000000) (disch := (first | omega | (simp only [List.length_append, List.length_set, List.length_cons, List.length_nil, List.length_replicate, List.length_take, List.length_drop, List.length_map, List.length_range, true_and, and_true]; (try omega); done) | fail)) only [go_sem, Int.reduceEq, Int.reduceToNat, Nat.reduceAdd, Nat.reduceMul, Nat.reduceEqDiff, ↓reduceIte]
        refine callV0 (hm) rfl rfl ?_
        simp (maxSteps := 1000000) (disch := (first | omega | (simp only [List.length_append, List.length_set, List.length_cons, List.length_nil, List.length_replicate, List.length_take, List.length_drop, List.length_map, List.length_range, true_and, and_true]; (try omega); done) | fail)) only [go_sem, Int.reduceEq, Int.reduceToNat, Nat.reduceAdd, Nat.reduceMul, Nat.reduceEqDiff, ↓reduceIte]
        exact endW [] hQ
    · have hb : sg false (x.natAbs + y.natAbs) = x + y := by simp only [sg, Bool.false_eq_true, if_false]; omega
      have hm := hm false _ (Nat.le_refl _)
      rw [hb] at hm
      simp (maxSteps := 1000000) (disch := (first | omega | (simp only [List.length_append, List.length_set, List.length_cons, List.length_nil, List.length_replicate, List.length_take, List.length_drop, List.length_map, List.length_range, true_and, and_true]; (try omega); done) | fail)) only [go_sem, decide_eq_false h1, decide_eq_false h2, Int.reduceEq, Int.reduceToNat, Nat.reduceAdd, Nat.reduceMul, Nat.reduceEqDiff, ↓reduceIte]
      refine callV0 (nadd_fn (a := x.natAbs) (b := y.natAbs) (by omega) (by omega)) rfl rfl ?_
      simp (maxSteps := 1000000) (disch := (first | omega | (simp only [List.length_append, List.length_set, List.length_cons, List.length_nil, List.length_replicate, List.length_take, List.length_drop, List.length_map, List.length_range, true_and, and_true]; (try omega); done) | fail)) only [go_sem, Int.reduceEq, Int.reduceToNat, Nat.reduceAdd, Nat.reduceMul, Nat.reduceEqDiff, ↓reduceIte]
      refine callV0 (hm) rfl rfl ?_
      simp (maxSteps := 1000000) (disch := (first | omega | (simp only [List.length_append, List.length_set, List.length_cons, List.length_nil, List.length_replicate, List.length_take, List.length_drop, List.length_map, List.length_range, true_and, and_true]; (try omega); done) | fail)) only [go_sem, Int.reduceEq, Int.reduceToNat, Nat.reduceAdd, Nat.reduceMul, Nat.reduceEqDiff, ↓reduceIte]
      exact endW [] hQ
theorem sg_mul (b c : Bool) (m n : Nat) : sg (!(b == c)) (m * n) = sg b m * sg c n := by
  cases b <;> cases c <;> simp [sg, Int.neg_mul, Int.mul_neg]
theorem wmul_fn {x y : Int} (hx : (wg x.natAbs).length ≤ 1000000) (hy : (wg y.natAbs).length ≤ 1000000) : Fn1 Try.prog 70 [WV x, WV y] [] (WV (x * y)) [] := by
  have hla : (wg (x.natAbs * y.natAbs)).length ≤ 2000000 := Nat.le_trans (dgB_len_mul (B := 18446744073709551616) (by decide) _ _) (Nat.add_le_add hx hy)
  have hm := wmake_fn (b := !(decide (x < 0) == decide (y < 0))) (n := x.natAbs * y.natAbs) (by omega)
  rw [sg_mul, sg_self, sg_self] at hm
  refine fn1_of pl70 (by kernel_rfl) Try.call70 Try.func70 rfl (by kernel_rfl) rfl [.cell 4 46] (by kernel_rfl) fun Q hQ => ?_
  simp (maxSteps := 1000000) (disch := (first | omega | (simp only [List.length_append, List.length_set, List.length_cons, List.length_nil, List.length_replicate, List.length_take, List.length_drop, List.length_map, List.length_range, true_and, and_true]; (try omega); done) | fail)) only [go_sem, Int.reduceEq, Int.reduceToNat, Nat.reduceAdd, Nat.reduceMul, Nat.reduceEqDiff, ↓reduceIte]
  refine callV0 (nmul_fn (a := x.natAbs) (b := y.natAbs) hx hy) rfl rfl ?_
  simp (maxSteps := 1000000) (disch := (first | omega | (simp only [List.length_append, List.length_set, List.length_cons, List.length_nil, List.length_replicate, List.length_take, List.length_drop, List.length_map, List.length_range, true_and, and_true]; (try omega); done) | fail)) only [go_sem, Int.reduceEq, Int.reduceToNat, Nat.reduceAdd, Nat.reduceMul, Nat.reduceEqDiff, ↓reduceIte]
  refine callV0 (hm) rfl rfl ?_
  simp (maxSteps := 1000000) (disch := (first | omega | (simp only [List.length_append, List.length_set, List.length_cons, List.length_nil, List.length_replicate, List.length_take, List.length_drop, List.length_map, List.length_range, true_and, and_true]; (try omega); done) | fail)) only [go_sem, Int.reduceEq, Int.reduceToNat, Nat.reduceAdd, Nat.reduceMul, Nat.reduceEqDiff, ↓reduceIte]
  exact endW [] hQ
end Go.Proofs.Ytfemchdaoihogaa
