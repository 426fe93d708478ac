import Derived.Test.YtfemchdaoihogaaNb
/-! Package nat: differences, products. -/
namespace Go.Proofs.Ytfemchdaoihogaa
open Go.Eng Go.Vx
set_option linter.unusedSimpArgs false
set_option linter.unusedVariables false
set_option maxRecDepth 100000
theorem cmpI_neg {a b : Nat} : cmpI a b < 0 ↔ a < b := by unfold cmpI; split <;> (try split) <;> omega
theorem sub_digit {u v c : Nat} (hu : u < 18446744073709551616) (hv : v < 18446744073709551616) (hc : c ≤ 1) :
    u + 18446744073709551616 * (if u < v + c then 1 else 0) = (u + 18446744073709551616 - v - c) % 18446744073709551616 + c + v ∧ (if u < v + c then 1 else 0) ≤ 1 ∧ (u + 18446744073709551616 - v - c) % 18446744073709551616 < 18446744073709551616 := by
  split <;> omega
theorem NV_zero : NV 0 = .agg [.row 1 []] := by unfold NV; rw [wg_zero]; rfl
theorem nsubE_fn {a b : Nat} (hba : a < b) (ha : (wg a).length ≤ 2000000) (hb : (wg b).length ≤ 2000000) : Fn1 Try.prog 53 [NV a, NV b] [] (.tup [NV 0, .lit (.int .i64 2)]) [] := by
  refine fn1_of pl53 (by kernel_rfl) Try.call53 Try.func53 rfl (by kernel_rfl) rfl [.cell 4 39, .tmp 5] (by kernel_rfl) fun Q hQ => ?_
  have hc := cmpI_neg.2 hba
  rw [NV_zero] at hQ
  simp (maxSteps := 1000000) (disch := (first | omega | (simp only [List.length_append, List.length_set, List.length_cons, List.length_nil, List.length_replicate, List.length_take, List.length_drop, List.length_map, List.length_range, true_and, and_true]; (try omega); done) | fail)) only [go_sem, Int.reduceEq, Int.reduceToNat, Nat.reduceAdd, Nat.reduceMul, Nat.reduceEqDiff, ↓reduceIte]
  refine callV0 (ncmp_fn (a := a) (b := b) (by omega) (by omega)) rfl rfl ?_
  simp (maxSteps := 1000000) (disch := (first | omega | (simp only [List.length_append, List.length_set, List.length_cons, List.length_nil, List.length_replicate, List.length_take, List.length_drop, List.length_map, List.length_range, true_and, and_true]; (try omega); done) | fail)) only [go_sem, decide_eq_true hc, Int.reduceEq, Int.reduceToNat, Nat.reduceAdd, Nat.reduceMul, Nat.reduceEqDiff, ↓reduceIte]
  exact endW [] hQ
set_option maxHeartbeats 4000000 in
theorem nsub_fn {a b : Nat} (hba : b ≤ a) (ha : (wg a).length ≤ 2000000) : Fn1 Try.prog 53 [NV a, NV b] [] (.tup [NV (a - b), .lit (.int .i64 0)]) [] := by
  refine fn1_of pl53 (by kernel_rfl) Try.call53 Try.func53 rfl (by kernel_rfl) rfl [.cell 4 39, .tmp 5] (by kernel_rfl) fun Q hQ => ?_
  have hc : ¬ cmpI a b < 0 := fun h => by have := cmpI_neg.1 h; omega
  have hal := wg_lt a
  have hbl := wg_lt b
  have hav := wg_val a
  have hbv := wg_val b
  have hnA := nl_len (wg a)
  have hnB := nl_len (wg b)
  have hle : (wg b).length ≤ (wg a).length := wg_mono hba
  simp (maxSteps := 1000000) (disch := (first | omega | (simp only [List.length_append, List.length_set, List.length_cons, List.length_nil, List.length_replicate, List.length_take, List.length_drop, List.length_map, List.length_range, true_and, and_true]; (try omega); done) | fail)) only [go_sem, Int.reduceEq, Int.reduceToNat, Nat.reduceAdd, Nat.reduceMul, Nat.reduceEqDiff, ↓reduceIte]
  refine callV0 (ncmp_fn (a := a) (b := b) (by omega) (by omega)) rfl rfl ?_
  simp (maxSteps := 1000000) (disch := (first | omega | (simp only [List.length_append, List.length_set, List.length_cons, List.length_nil, List.length_replicate, List.length_take, List.length_drop, List.length_map, List.length_range, true_and, and_true]; (try omega); done) | fail)) only [go_sem, decide_eq_false hc, Int.reduceEq, Int.reduceToNat, Nat.reduceAdd, Nat.reduceMul, Nat.reduceEqDiff, ↓reduceIte]
  refine LoopV_of (X := List Nat × Nat) (st := fun z => ([(2, .ref 0 0 0 0), (3, .ref 1 0 0 0), (4, .ref 2 0 0 0), (6, .sl 3 1 0 ((wg a).length)), (7, .lit (.int .u64 (z.2 : Int))), (21, .row 1 ((nl (wg a)).map (ie .u64))), (22, .lit (.int .i64 ((wg a).length : Int))), (23, .lit (.int .i64 (z.1.length : Int)))],
      [some (.cells [.row 1 ((nl (wg a)).map (ie .u64))]), some (.cells [.row 1 ((nl (wg b)).map (ie .u64))]), some (.cells [.lit (.slice none 0 0)]), some (.row 1 ((nl (pad z.1 (wg a).length)).map (ie .u64)))]))
    (inv := fun z => (∀ d ∈ z.1, d < 18446744073709551616) ∧ z.2 ≤ 1 ∧ valB 18446744073709551616 ((wg a).take z.1.length) + 18446744073709551616 ^ z.1.length * z.2 = valB 18446744073709551616 z.1 + valB 18446744073709551616 ((wg b).take z.1.length) ∧ z.1.length ≤ (wg a).length)
    (m := fun z => (wg a).length - z.1.length) ([], 0) [some 0, some 1, some 2, some 3] rfl (by simp only [pad_nil, ← nl_rep]; (simp (disch := (first | omega | (simp only [List.length_append, List.length_set, List.length_cons, List.length_nil, List.length_replicate, List.length_take, List.length_drop, List.length_map, List.length_range, true_and, and_true]; (try omega); done) | fail)) only [go_sem, Int.reduceEq, Int.reduceToNat, Nat.reduceAdd, Nat.reduceMul, Nat.reduceEqDiff, ↓reduceIte, true_and, and_true, and_self, List.drop_zero, List.take_length, Nat.le_refl, V.lit.injEq, Value.int.injEq, Value.bool.injEq]; try (first | omega | (simp; done) | (simp; omega)))) (by simp (disch := (first | omega | (simp only [List.length_append, List.length_set, List.length_cons, List.length_nil, List.length_replicate, List.length_take, List.length_drop, List.length_map, List.length_range, true_and, and_true]; (try omega); done) | fail)) only [go_sem, Int.reduceEq, Int.reduceToNat, Nat.reduceAdd, Nat.reduceMul, Nat.reduceEqDiff, ↓reduceIte, true_and, and_true, and_self, List.drop_zero, List.take_length, Nat.le_refl, V.lit.injEq, Value.int.injEq, Value.bool.injEq]; try (first | omega | (simp; done) | (simp; omega))) ⟨by simp, by simp, by simp [valB], by simp⟩ ?_
  rintro ⟨L, c⟩ ⟨hL, hc, hv, hll⟩
  simp only at hL hc hv hll ⊢
  have hpl := pad_len (L := L) (k := (wg a).length) (by omega)
  have hnp := nl_len (pad L (wg a).length)
  by_cases h1 : L.length < (wg a).length
  · have hga := nl_get (wg a) L.length
    have hgb := nl_get (wg b) L.length
    have hxa := getD_ltB (by decide) hal L.length
    have hxb := getD_ltB (by decide) hbl L.length
    have hzb : (wg b).length ≤ L.length → (wg b).getD L.length 0 = 0 := getD_out
    have hst := fun z c' h => sub_step (x := z) (c' := c') hv h
    generalize (wg a).getD L.length 0 = u at *
    generalize (wg b).getD L.length 0 = v at *
    obtain ⟨hd, hd1, hd2⟩ := sub_digit hxa hxb hc
    have hst := hst _ _ hd
    have hset : ∀ s : Nat, (nl (pad L (wg a).length)).set L.length (s : Int) = nl (pad (L ++ [s]) (wg a).length) := fun s => by rw [nl_set, pad_set (by omega)]
    by_cases h2 : L.length < (wg b).length
    · generalize hs : (u + 18446744073709551616 - v - c) % 18446744073709551616 = s at *
      generalize hcc : (if u < v + c then 1 else 0) = c' at *
      simp (maxSteps := 1000000) (disch := (first | omega | (simp only [List.length_append, List.length_set, List.length_cons, List.length_nil, List.length_replicate, List.length_take, List.length_drop, List.length_map, List.length_range, true_and, and_true]; (try omega); done) | fail)) only [go_sem, hga, hgb, Int.reduceEq, Int.reduceToNat, Nat.reduceAdd, Nat.reduceMul, Nat.reduceEqDiff, ↓reduceIte]
      refine call_sub64 Try.func78 (by kernel_rfl) (by kernel_rfl) (by kernel_rfl) (by kernel_rfl) (by omega) ?_
      rw [hs, hcc]
      simp (maxSteps := 1000000) (disch := (first | omega | (simp only [List.length_append, List.length_set, List.length_cons, List.length_nil, List.length_replicate, List.length_take, List.length_drop, List.length_map, List.length_range, true_and, and_true]; (try omega); done) | fail)) only [go_sem, hset, Int.reduceEq, Int.reduceToNat, Nat.reduceAdd, Nat.reduceMul, Nat.reduceEqDiff, ↓reduceIte]
      refine NextV_of (L ++ [s], c') [some 0, some 1, some 2, some 3] rfl (by simp only [List.length_append, List.length_cons, List.length_nil]; (simp (disch := (first | omega | (simp only [List.length_append, List.length_set, List.length_cons, List.length_nil, List.length_replicate, List.length_take, List.length_drop, List.length_map, List.length_range, true_and, and_true]; (try omega); done) | fail)) only [go_sem, Int.reduceEq, Int.reduceToNat, Nat.reduceAdd, Nat.reduceMul, Nat.reduceEqDiff, ↓reduceIte, true_and, and_true, and_self, List.drop_zero, List.take_length, Nat.le_refl, V.lit.injEq, Value.int.injEq, Value.bool.injEq]; try (first | omega | (simp; done) | (simp; omega)))) (by (simp (disch := (first | omega | (simp only [List.length_append, List.length_set, List.length_cons, List.length_nil, List.length_replicate, List.length_take, List.length_drop, List.length_map, List.length_range, true_and, and_true]; (try omega); done) | fail)) only [go_sem, Int.reduceEq, Int.reduceToNat, Nat.reduceAdd, Nat.reduceMul, Nat.reduceEqDiff, ↓reduceIte, true_and, and_true, and_self, List.drop_zero, List.take_length, Nat.le_refl, V.lit.injEq, Value.int.injEq, Value.bool.injEq]; try (first | omega | (simp; done) | (simp; omega)))) ⟨snocB hL hd2, hd1, by simp only [List.length_append, List.length_cons, List.length_nil]; exact hst, by simp only [List.length_append, List.length_cons, List.length_nil]; omega⟩ (by simp only [List.length_append, List.length_cons, List.length_nil]; omega)
    · obtain rfl : v = 0 := hzb (by omega)
      generalize hs : (u + 18446744073709551616 - 0 - c) % 18446744073709551616 = s at *
      generalize hcc : (if u < 0 + c then 1 else 0) = c' at *
      simp (maxSteps := 1000000) (disch := (first | omega | (simp only [List.length_append, List.length_set, List.length_cons, List.length_nil, List.length_replicate, List.length_take, List.length_drop, List.length_map, List.length_range, true_and, and_true]; (try omega); done) | fail)) only [go_sem, hga, Int.reduceEq, Int.reduceToNat, Nat.reduceAdd, Nat.reduceMul, Nat.reduceEqDiff, ↓reduceIte]
      refine call_sub64 (y := 0) Try.func78 (by kernel_rfl) (by kernel_rfl) (by kernel_rfl) (by kernel_rfl) (by omega) ?_
      rw [hs, hcc]
      simp (maxSteps := 1000000) (disch := (first | omega | (simp only [List.length_append, List.length_set, List.length_cons, List.length_nil, List.length_replicate, List.length_take, List.length_drop, List.length_map, List.length_range, true_and, and_true]; (try omega); done) | fail)) only [go_sem, hset, Int.reduceEq, Int.reduceToNat, Nat.reduceAdd, Nat.reduceMul, Nat.reduceEqDiff, ↓reduceIte]
      refine NextV_of (L ++ [s], c') [some 0, some 1, some 2, some 3] rfl (by simp only [List.length_append, List.length_cons, List.length_nil]; (simp (disch := (first | omega | (simp only [List.length_append, List.length_set, List.length_cons, List.length_nil, List.length_replicate, List.length_take, List.length_drop, List.length_map, List.length_range, true_and, and_true]; (try omega); done) | fail)) only [go_sem, Int.reduceEq, Int.reduceToNat, Nat.reduceAdd, Nat.reduceMul, Nat.reduceEqDiff, ↓reduceIte, true_and, and_true, and_self, List.drop_zero, List.take_length, Nat.le_refl, V.lit.injEq, Value.int.injEq, Value.bool.injEq]; try (first | omega | (simp; done) | (simp; omega)))) (by (simp (disch := (first | omega | (simp only [List.length_append, List.length_set, List.length_cons, List.length_nil, List.length_replicate, List.length_take, List.length_drop, List.length_map, List.length_range, true_and, and_true]; (try omega); done) | fail)) only [go_sem, Int.reduceEq, Int.reduceToNat, Nat.reduceAdd, Nat.reduceMul, Nat.reduceEqDiff, ↓reduceIte, true_and, and_true, and_self, List.drop_zero, List.take_length, Nat.le_refl, V.lit.injEq, Value.int.injEq, Value.bool.injEq]; try (first | omega | (simp; done) | (simp; omega)))) ⟨snocB hL hd2, hd1, by simp only [List.length_append, List.length_cons, List.length_nil]; exact hst, by simp only [List.length_append, List.length_cons, List.length_nil]; omega⟩ (by simp only [List.length_append, List.length_cons, List.length_nil]; omega)
  · have hLe : L.length = (wg a).length := by omega
    have e1 : (wg a).take L.length = wg a := List.take_of_length_le (by omega)
    have e2 : (wg b).take L.length = wg b := List.take_of_length_le (by omega)
    rw [e1, e2, hav, hbv] at hv
    have hvl := valB_lt hL
    have hc0 : c = 0 := by
      rcases Nat.eq_zero_or_pos c with h | h
      · exact h
      · have := Nat.mul_le_mul_left (18446744073709551616 ^ L.length) h
        generalize 18446744073709551616 ^ L.length = P at *
        generalize P * c = Pc at *
        omega
    have hval : valB 18446744073709551616 L = a - b := by rw [hc0] at hv; omega
    have hpf := pad_full hLe
    rw [hpf] at *
    have hls := nl_len L
    simp (maxSteps := 1000000) (disch := (first | omega | (simp only [List.length_append, List.length_set, List.length_cons, List.length_nil, List.length_replicate, List.length_take, List.length_drop, List.length_map, List.length_range, true_and, and_true]; (try omega); done) | fail)) only [go_sem, Int.reduceEq, Int.reduceToNat, Nat.reduceAdd, Nat.reduceMul, Nat.reduceEqDiff, ↓reduceIte]
    refine callW [] [3] (trimmed_fn (l := L) hL (by omega)) ?_
    rw [hval]
    simp (maxSteps := 1000000) (disch := (first | omega | (simp only [List.length_append, List.length_set, List.length_cons, List.length_nil, List.length_replicate, List.length_take, List.length_drop, List.length_map, List.length_range, true_and, and_true]; (try omega); done) | fail)) only [go_sem, Int.reduceEq, Int.reduceToNat, Nat.reduceAdd, Nat.reduceMul, Nat.reduceEqDiff, ↓reduceIte]
    exact endW [] hQ
end Go.Proofs.Ytfemchdaoihogaa
