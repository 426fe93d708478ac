import Derived.Test.YtfemchdaoihogaaDk
/-! Package nat: quotient and rest; the greatest common divisor. -/
namespace Go.Proofs.Ytfemchdaoihogaa
open Go.Eng Go.Vx
set_option linter.unusedSimpArgs false
set_option linter.unusedVariables false
set_option maxRecDepth 100000
theorem ndiv0_fn {a : Nat} (ha : (wg a).length ≤ 1000000) : Fn1 Try.prog 80 [NV a, NV 0] [] (.tup [NV 0, NV 0, .lit (.int .i64 7)]) [] := by
  rw [NV_zero]
  refine fn1_of pl80 (by kernel_rfl) Try.call80 Try.func80 rfl (by kernel_rfl) rfl [.cell 4 39, .cell 5 39, .tmp 6] (by kernel_rfl) fun Q hQ => ?_
  have hz := zero_fn (n := 0) (by rw [wg_zero]; decide)
  rw [NV_zero] at hz
  simp (maxSteps := 1000000) (disch := (first | omega | (simp only [List.length_append, List.length_set, List.length_cons, List.length_nil, List.length_replicate, List.length_take, List.length_drop, List.length_map, List.length_range, true_and, and_true]; (try omega); done) | fail)) only [go_sem, Int.reduceEq, Int.reduceToNat, Nat.reduceAdd, Nat.reduceMul, Nat.reduceEqDiff, ↓reduceIte]
  refine callV0 (hz) rfl rfl ?_
  rw [decide_eq_true rfl]
  simp (maxSteps := 1000000) (disch := (first | omega | (simp only [List.length_append, List.length_set, List.length_cons, List.length_nil, List.length_replicate, List.length_take, List.length_drop, List.length_map, List.length_range, true_and, and_true]; (try omega); done) | fail)) only [go_sem, Int.reduceEq, Int.reduceToNat, Nat.reduceAdd, Nat.reduceMul, Nat.reduceEqDiff, ↓reduceIte]
  exact endW [] hQ
theorem wg_of_one {b : Nat} (h : (wg b).length = 1) : wg b = [b] := by
  have hv := wg_val b
  match hw : wg b, h with
  | [d], _ =>
    rw [hw] at hv
    simp [valB] at hv
    rw [hv]
theorem wg_of_pos {b : Nat} (h : b ≠ 0) : 0 < (wg b).length := by
  rcases Nat.eq_zero_or_pos (wg b).length with e | e
  · exact absurd (wg_nil.1 (List.length_eq_zero_iff.1 e)) h
  · exact e
theorem ndiv_fn {a b : Nat} (hb : b ≠ 0) (ha : (wg a).length ≤ 1000000) (hbl : (wg b).length ≤ 1000000) : Fn1 Try.prog 80 [NV a, NV b] [] (.tup [NV (a / b), NV (a % b), .lit (.int .i64 0)]) [] := by
  refine fn1_of pl80 (by kernel_rfl) Try.call80 Try.func80 rfl (by kernel_rfl) rfl [.cell 4 39, .cell 5 39, .tmp 6] (by kernel_rfl) fun Q hQ => ?_
  have hnA := nl_len (wg a)
  have hnB := nl_len (wg b)
  have hb1 := wg_of_pos hb
  simp (maxSteps := 1000000) (disch := (first | omega | (simp only [List.length_append, List.length_set, List.length_cons, List.length_nil, List.length_replicate, List.length_take, List.length_drop, List.length_map, List.length_range, true_and, and_true]; (try omega); done) | fail)) only [go_sem, Int.reduceEq, Int.reduceToNat, Nat.reduceAdd, Nat.reduceMul, Nat.reduceEqDiff, ↓reduceIte]
  refine callV0 (zero_fn (n := b) (by omega)) rfl rfl ?_
  rw [decide_eq_false hb]
  simp (maxSteps := 1000000) (disch := (first | omega | (simp only [List.length_append, List.length_set, List.length_cons, List.length_nil, List.length_replicate, List.length_take, List.length_drop, List.length_map, List.length_range, true_and, and_true]; (try omega); done) | fail)) only [go_sem, Int.reduceEq, Int.reduceToNat, Nat.reduceAdd, Nat.reduceMul, Nat.reduceEqDiff, ↓reduceIte]
  refine callV0 (ncmp_fn (a := a) (b := b) (by omega) (by omega)) rfl rfl ?_
  by_cases h : a < b
  · have hc := cmpI_neg.2 h
    rw [Nat.div_eq_of_lt h, Nat.mod_eq_of_lt h, NV_zero] at hQ
    have ho := of_fn (l := wg a) (wg_lt a) (by omega)
    rw [wg_val] at ho
    simp (maxSteps := 1000000) (disch := (first | omega | (simp only [List.length_append, List.length_set, List.length_cons, List.length_nil, List.length_replicate, List.length_take, List.length_drop, List.length_map, List.length_range, true_and, and_true]; (try omega); done) | fail)) only [go_sem, decide_eq_true hc, Int.reduceEq, Int.reduceToNat, Nat.reduceAdd, Nat.reduceMul, Nat.reduceEqDiff, ↓reduceIte]
    refine callV0 (ho) rfl rfl ?_
    simp (maxSteps := 1000000) (disch := (first | omega | (simp only [List.length_append, List.length_set, List.length_cons, List.length_nil, List.length_replicate, List.length_take, List.length_drop, List.length_map, List.length_range, true_and, and_true]; (try omega); done) | fail)) only [go_sem, Int.reduceEq, Int.reduceToNat, Nat.reduceAdd, Nat.reduceMul, Nat.reduceEqDiff, ↓reduceIte]
    exact endW [] hQ
  · have hc : ¬ cmpI a b < 0 := fun e => h (cmpI_neg.1 e)
    by_cases h1 : (wg b).length = 1
    · have hw := wg_of_one h1
      have hblt : b < 18446744073709551616 := by
        have := wg_lt b b (by rw [hw]; simp)
        exact this
      have hg : (nl (wg b)).getD 0 0 = (b : Int) := by rw [hw]; rfl
      have hsp := split_fn (W := wg a) (y := b) (wg_lt a) (by omega) (by omega) hblt
      rw [wg_val] at hsp
      have hqv : valB 18446744073709551616 (fw 18446744073709551616 (wg a).length (a / b)) = a / b := by
        have hlt : a < 18446744073709551616 ^ (wg a).length := dgB_lt_pow (B := 18446744073709551616) (by decide) a
        rw [fw_val (by decide), Nat.mod_eq_of_lt (Nat.lt_of_le_of_lt (Nat.div_le_self a b) hlt)]
      have hrl : a % b < 18446744073709551616 := Nat.lt_trans (Nat.mod_lt _ (by omega)) hblt
      have hn1 : (nl (wg b)).length = 1 := by omega
      have hF := fw_len (B := 18446744073709551616) (wg a).length (a / b)
      have hFl := fw_lt (B := 18446744073709551616) (by decide) (wg a).length (a / b)
      generalize fw 18446744073709551616 (wg a).length (a / b) = F at *
      rw [← hF] at hsp
      have hnF := nl_len F
      simp (maxSteps := 1000000) (disch := (first | omega | (simp only [List.length_append, List.length_set, List.length_cons, List.length_nil, List.length_replicate, List.length_take, List.length_drop, List.length_map, List.length_range, true_and, and_true]; (try omega); done) | fail)) only [go_sem, decide_eq_false hc, hn1, hg, Int.reduceEq, Int.reduceToNat, Nat.reduceAdd, Nat.reduceMul, Nat.reduceEqDiff, ↓reduceIte]
      refine callF (hsp) ?_
      simp (maxSteps := 1000000) (disch := (first | omega | (simp only [List.length_append, List.length_set, List.length_cons, List.length_nil, List.length_replicate, List.length_take, List.length_drop, List.length_map, List.length_range, true_and, and_true]; (try omega); done) | fail)) only [go_sem, Int.reduceEq, Int.reduceToNat, Nat.reduceAdd, Nat.reduceMul, Nat.reduceEqDiff, ↓reduceIte]
      refine callW [] [4] (trimmed_fn (l := F) hFl (by omega)) ?_
      rw [hqv]
      simp (maxSteps := 1000000) (disch := (first | omega | (simp only [List.length_append, List.length_set, List.length_cons, List.length_nil, List.length_replicate, List.length_take, List.length_drop, List.length_map, List.length_range, true_and, and_true]; (try omega); done) | fail)) only [go_sem, Int.reduceEq, Int.reduceToNat, Nat.reduceAdd, Nat.reduceMul, Nat.reduceEqDiff, ↓reduceIte]
      refine callW [] [5] (of1_fn (x := a % b) hrl) ?_
      simp (maxSteps := 1000000) (disch := (first | omega | (simp only [List.length_append, List.length_set, List.length_cons, List.length_nil, List.length_replicate, List.length_take, List.length_drop, List.length_map, List.length_range, true_and, and_true]; (try omega); done) | fail)) only [go_sem, Int.reduceEq, Int.reduceToNat, Nat.reduceAdd, Nat.reduceMul, Nat.reduceEqDiff, ↓reduceIte]
      exact endW [] hQ
    · have hl := long_fn (a := a) (b := b) (by omega) (by omega) ha
      have hn1 : decide (((nl (wg b)).length : Int) = 1) = false := decide_eq_false (by omega)
      simp (maxSteps := 1000000) (disch := (first | omega | (simp only [List.length_append, List.length_set, List.length_cons, List.length_nil, List.length_replicate, List.length_take, List.length_drop, List.length_map, List.length_range, true_and, and_true]; (try omega); done) | fail)) only [go_sem, decide_eq_false hc, hn1, Int.reduceEq, Int.reduceToNat, Nat.reduceAdd, Nat.reduceMul, Nat.reduceEqDiff, ↓reduceIte]
      refine callV0 (hl) rfl rfl ?_
      simp (maxSteps := 1000000) (disch := (first | omega | (simp only [List.length_append, List.length_set, List.length_cons, List.length_nil, List.length_replicate, List.length_take, List.length_drop, List.length_map, List.length_range, true_and, and_true]; (try omega); done) | fail)) only [go_sem, Int.reduceEq, Int.reduceToNat, Nat.reduceAdd, Nat.reduceMul, Nat.reduceEqDiff, ↓reduceIte]
      exact endW [] hQ
theorem ngcd_fn {a b : Nat} (ha : (wg a).length ≤ 1000000) (hb : (wg b).length ≤ 1000000) : Fn1 Try.prog 79 [NV a, NV b] [] (NV (Nat.gcd a b)) [] := by
  refine fn1_of pl79 (by kernel_rfl) Try.call79 Try.func79 rfl (by kernel_rfl) rfl [.cell 4 39] (by kernel_rfl) fun Q hQ => ?_
  simp (maxSteps := 1000000) (disch := (first | omega | (simp only [List.length_append, List.length_set, List.length_cons, List.length_nil, List.length_replicate, List.length_take, List.length_drop, List.length_map, List.length_range, true_and, and_true]; (try omega); done) | fail)) only [go_sem, Int.reduceEq, Int.reduceToNat, Nat.reduceAdd, Nat.reduceMul, Nat.reduceEqDiff, ↓reduceIte]
  refine LoopV_of (X := Nat × Nat) (st := fun z => ([(2, .ref 0 0 0 0), (3, .ref 1 0 0 0), (4, .ref 2 0 0 0)], [some (.cells [.row 1 ((nl (wg z.1)).map (ie .u64))]), some (.cells [.row 1 ((nl (wg z.2)).map (ie .u64))]), some (.cells [.lit (.slice none 0 0)])]))
    (inv := fun z => (wg z.1).length ≤ 1000000 ∧ (wg z.2).length ≤ 1000000 ∧ Nat.gcd z.1 z.2 = Nat.gcd a b) (m := fun z => z.2) (a, b) [some 0, some 1, some 2] rfl (by simp (disch := (first | omega | (simp only [List.length_append, List.length_set, List.length_cons, List.length_nil, List.length_replicate, List.length_take, List.length_drop, List.length_map, List.length_range, true_and, and_true]; (try omega); done) | fail)) only [go_sem, Int.reduceEq, Int.reduceToNat, Nat.reduceAdd, Nat.reduceMul, Nat.reduceEqDiff, ↓reduceIte, true_and, and_true, and_self, List.drop_zero, List.take_length, Nat.le_refl, V.lit.injEq, Value.int.injEq, Value.bool.injEq]; try (first | omega | (simp; done) | (simp; omega))) (by simp (disch := (first | omega | (simp only [List.length_append, List.length_set, List.length_cons, List.length_nil, List.length_replicate, List.length_take, List.length_drop, List.length_map, List.length_range, true_and, and_true]; (try omega); done) | fail)) only [go_sem, Int.reduceEq, Int.reduceToNat, Nat.reduceAdd, Nat.reduceMul, Nat.reduceEqDiff, ↓reduceIte, true_and, and_true, and_self, List.drop_zero, List.take_length, Nat.le_refl, V.lit.injEq, Value.int.injEq, Value.bool.injEq]; try (first | omega | (simp; done) | (simp; omega))) ⟨ha, hb, rfl⟩ ?_
  rintro ⟨x, y⟩ ⟨hx, hy, hv⟩
  simp only at hx hy hv ⊢
  rw [← hv] at hQ
  simp (maxSteps := 1000000) (disch := (first | omega | (simp only [List.length_append, List.length_set, List.length_cons, List.length_nil, List.length_replicate, List.length_take, List.length_drop, List.length_map, List.length_range, true_and, and_true]; (try omega); done) | fail)) only [go_sem, Int.reduceEq, Int.reduceToNat, Nat.reduceAdd, Nat.reduceMul, Nat.reduceEqDiff, ↓reduceIte]
  refine callV0 (zero_fn (n := y) (by omega)) rfl rfl ?_
  by_cases h : y = 0
  · subst h
    rw [Nat.gcd_zero_right] at hQ
    have ho := of_fn (l := wg x) (wg_lt x) (by omega)
    rw [wg_val] at ho
    simp (maxSteps := 1000000) (disch := (first | omega | (simp only [List.length_append, List.length_set, List.length_cons, List.length_nil, List.length_replicate, List.length_take, List.length_drop, List.length_map, List.length_range, true_and, and_true]; (try omega); done) | fail)) only [go_sem, decide_true, Int.reduceEq, Int.reduceToNat, Nat.reduceAdd, Nat.reduceMul, Nat.reduceEqDiff, ↓reduceIte]
    refine callV0 (ho) rfl rfl ?_
    simp (maxSteps := 1000000) (disch := (first | omega | (simp only [List.length_append, List.length_set, List.length_cons, List.length_nil, List.length_replicate, List.length_take, List.length_drop, List.length_map, List.length_range, true_and, and_true]; (try omega); done) | fail)) only [go_sem, Int.reduceEq, Int.reduceToNat, Nat.reduceAdd, Nat.reduceMul, Nat.reduceEqDiff, ↓reduceIte]
    exact endW [] hQ
  · rw [decide_eq_false h]
    simp (maxSteps := 1000000) (disch := (first | omega | (simp only [List.length_append, List.length_set, List.length_cons, List.length_nil, List.length_replicate, List.length_take, List.length_drop, List.length_map, List.length_range, true_and, and_true]; (try omega); done) | fail)) only [go_sem, Int.reduceEq, Int.reduceToNat, Nat.reduceAdd, Nat.reduceMul, Nat.reduceEqDiff, ↓reduceIte]
    refine callV0 (ndiv_fn (a := x) (b := y) h hx hy) rfl rfl ?_
    simp (maxSteps := 1000000) (disch := (first | omega | (simp only [List.length_append, List.length_set, List.length_cons, List.length_nil, List.length_replicate, List.length_take, List.length_drop, List.length_map, List.length_range, true_and, and_true]; (try omega); done) | fail)) only [go_sem, Int.reduceEq, Int.reduceToNat, Nat.reduceAdd, Nat.reduceMul, Nat.reduceEqDiff, ↓reduceIte]
    refine nextW (y, x % y) [some 0, some 1, some 2] ⟨hy, Nat.le_trans (wg_mono (Nat.mod_le _ _)) hx, ?_⟩ (Nat.mod_lt _ (by omega))
    simp only
    rw [← hv, Nat.gcd_comm x y, Nat.gcd_rec y x, Nat.gcd_comm]
end Go.Proofs.Ytfemchdaoihogaa
