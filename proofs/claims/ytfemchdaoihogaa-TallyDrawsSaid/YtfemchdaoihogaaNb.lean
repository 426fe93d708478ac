import Derived.Test.YtfemchdaoihogaaNa
/-! Package nat: sums. -/
namespace Go.Proofs.Ytfemchdaoihogaa
open Go.Eng Go.Vx
set_option linter.unusedSimpArgs false
set_option linter.unusedVariables false
set_option maxRecDepth 100000
/-- Words written so far, the others 0. -/
def pad (L : List Nat) (k : Nat) : List Nat := L ++ List.replicate (k - L.length) 0
theorem pad_len {L : List Nat} {k : Nat} (h : L.length ≤ k) : (pad L k).length = k := by unfold pad; simp; omega
theorem pad_set {L : List Nat} {k x : Nat} (h : L.length < k) : (pad L k).set L.length x = pad (L ++ [x]) k := by
  unfold pad
  obtain ⟨m, hm⟩ : ∃ m, k - L.length = m + 1 := ⟨k - L.length - 1, by omega⟩
  rw [hm, List.replicate_succ, List.set_append_right (h := Nat.le_refl _), Nat.sub_self, List.set_cons_zero, List.length_append, List.length_singleton, show k - (L.length + 1) = m by omega, List.append_assoc]
  rfl
theorem pad_full {L : List Nat} {k : Nat} (h : L.length = k) : pad L k = L := by unfold pad; rw [h, Nat.sub_self]; simp
theorem pad_nil (k : Nat) : pad [] k = List.replicate k 0 := rfl
set_option maxHeartbeats 4000000 in
theorem nadd_fn {a b : Nat} (ha : (wg a).length ≤ 2000000) (hb : (wg b).length ≤ 2000000) : Fn1 Try.prog 52 [NV a, NV b] [] (NV (a + b)) [] := by
  refine fn1_of pl52 (by kernel_rfl) Try.call52 Try.func52 rfl (by kernel_rfl) rfl [.cell 4 39] (by kernel_rfl) fun Q hQ => ?_
  by_cases h : (wg a).length < (wg b).length
  case' pos =>
    have hnA := nl_len (wg a)
    have hnB := nl_len (wg b)
    simp (maxSteps := 1000000) (disch := (first | omega | (simp only [List.length_append, List.length_set, List.length_cons, List.length_nil, List.length_replicate, List.length_take, List.length_drop, List.length_map, List.length_range, true_and, and_true]; (try omega); done) | fail)) only [go_sem, Int.reduceEq, Int.reduceToNat, Nat.reduceAdd, Nat.reduceMul, Nat.reduceEqDiff, ↓reduceIte]
    rw [Nat.add_comm a b] at hQ
    have hle : (wg a).length ≤ (wg b).length := by omega
    clear h hnA hnB
    generalize b = x at *
    generalize a = y at *
  case' neg =>
    have hnA := nl_len (wg a)
    have hnB := nl_len (wg b)
    simp (maxSteps := 1000000) (disch := (first | omega | (simp only [List.length_append, List.length_set, List.length_cons, List.length_nil, List.length_replicate, List.length_take, List.length_drop, List.length_map, List.length_range, true_and, and_true]; (try omega); done) | fail)) only [go_sem, Int.reduceEq, Int.reduceToNat, Nat.reduceAdd, Nat.reduceMul, Nat.reduceEqDiff, ↓reduceIte]
    have hle : (wg b).length ≤ (wg a).length := by omega
    clear h hnA hnB
    generalize a = x at *
    generalize b = y at *
  all_goals
    have hal := wg_lt x
    have hbl := wg_lt y
    have hav := wg_val x
    have hbv := wg_val y
    have hnA := nl_len (wg x)
    have hnB := nl_len (wg y)
    refine LoopV_of (X := List Nat × Nat) (st := fun z => ([(2, .ref 0 0 0 0), (3, .ref 1 0 0 0), (4, .ref 2 0 0 0), (5, .sl 3 1 0 ((wg x).length + 1)), (6, .lit (.int .u64 (z.2 : Int))), (25, .row 1 ((nl (wg x)).map (ie .u64))), (26, .lit (.int .i64 ((wg x).length : Int))), (27, .lit (.int .i64 (z.1.length : Int)))],
        [some (.cells [.row 1 ((nl (wg x)).map (ie .u64))]), some (.cells [.row 1 ((nl (wg y)).map (ie .u64))]), some (.cells [.lit (.slice none 0 0)]), some (.row 1 ((nl (pad z.1 ((wg x).length + 1))).map (ie .u64)))]))
      (inv := fun z => (∀ d ∈ z.1, d < 18446744073709551616) ∧ z.2 ≤ 1 ∧ valB 18446744073709551616 z.1 + 18446744073709551616 ^ z.1.length * z.2 = valB 18446744073709551616 ((wg x).take z.1.length) + valB 18446744073709551616 ((wg y).take z.1.length) ∧ z.1.length ≤ (wg x).length)
      (m := fun z => (wg x).length - z.1.length) ([], 0) [some 0, some 1, some 2, some 3] rfl (by simp only [pad_nil, ← nl_rep]; (simp (disch := (first | omega | (simp only [List.length_append, List.length_set, List.length_cons, List.length_nil, List.length_replicate, List.length_take, List.length_drop, List.length_map, List.length_range, true_and, and_true]; (try omega); done) | fail)) only [go_sem, Int.reduceEq, Int.reduceToNat, Nat.reduceAdd, Nat.reduceMul, Nat.reduceEqDiff, ↓reduceIte, true_and, and_true, and_self, List.drop_zero, List.take_length, Nat.le_refl, V.lit.injEq, Value.int.injEq, Value.bool.injEq]; try (first | omega | (simp; done) | (simp; omega)))) (by simp (disch := (first | omega | (simp only [List.length_append, List.length_set, List.length_cons, List.length_nil, List.length_replicate, List.length_take, List.length_drop, List.length_map, List.length_range, true_and, and_true]; (try omega); done) | fail)) only [go_sem, Int.reduceEq, Int.reduceToNat, Nat.reduceAdd, Nat.reduceMul, Nat.reduceEqDiff, ↓reduceIte, true_and, and_true, and_self, List.drop_zero, List.take_length, Nat.le_refl, V.lit.injEq, Value.int.injEq, Value.bool.injEq]; try (first | omega | (simp; done) | (simp; omega))) ⟨by simp, by simp, by simp [valB], by simp⟩ ?_
    rintro ⟨L, c⟩ ⟨hL, hc, hv, hll⟩
    simp only at hL hc hv hll ⊢
    have hpl := pad_len (L := L) (k := (wg x).length + 1) (by omega)
    have hnp := nl_len (pad L ((wg x).length + 1))
    by_cases h1 : L.length < (wg x).length
    · have hga := nl_get (wg x) L.length
      have hgb := nl_get (wg y) L.length
      have hxa := getD_ltB (by decide) hal L.length
      have hxb := getD_ltB (by decide) hbl L.length
      have hzb : (wg y).length ≤ L.length → (wg y).getD L.length 0 = 0 := getD_out
      have hst := add_step hv
      generalize (wg x).getD L.length 0 = u at *
      generalize (wg y).getD L.length 0 = v at *
      have hcs : u + v + c = c + u + v := by omega
      have hset := nl_set (pad L ((wg x).length + 1)) L.length ((c + u + v) % 18446744073709551616)
      rw [pad_set (by omega)] at hset
      have hinv : (∀ d ∈ L ++ [(c + u + v) % 18446744073709551616], d < 18446744073709551616) ∧ (c + u + v) / 18446744073709551616 ≤ 1 := ⟨snocB hL (Nat.mod_lt _ (by decide)), by omega⟩
      by_cases h2 : L.length < (wg y).length
      · simp (maxSteps := 1000000) (disch := (first | omega | (simp only [List.length_append, List.length_set, List.length_cons, List.length_nil, List.length_replicate, List.length_take, List.length_drop, List.length_map, List.length_range, true_and, and_true]; (try omega); done) | fail)) only [go_sem, hga, hgb, Int.reduceEq, Int.reduceToNat, Nat.reduceAdd, Nat.reduceMul, Nat.reduceEqDiff, ↓reduceIte]
        refine call_add64 Try.func77 (by kernel_rfl) (by kernel_rfl) (by kernel_rfl) (by kernel_rfl) (by omega) ?_
        rw [hcs]
        simp (maxSteps := 1000000) (disch := (first | omega | (simp only [List.length_append, List.length_set, List.length_cons, List.length_nil, List.length_replicate, List.length_take, List.length_drop, List.length_map, List.length_range, true_and, and_true]; (try omega); done) | fail)) only [go_sem, hset, Int.reduceEq, Int.reduceToNat, Nat.reduceAdd, Nat.reduceMul, Nat.reduceEqDiff, ↓reduceIte]
        refine NextV_of (L ++ [(c + u + v) % 18446744073709551616], (c + u + v) / 18446744073709551616) [some 0, some 1, some 2, some 3] rfl (by simp only [List.length_append, List.length_cons, List.length_nil]; (simp (disch := (first | omega | (simp only [List.length_append, List.length_set, List.length_cons, List.length_nil, List.length_replicate, List.length_take, List.length_drop, List.length_map, List.length_range, true_and, and_true]; (try omega); done) | fail)) only [go_sem, Int.reduceEq, Int.reduceToNat, Nat.reduceAdd, Nat.reduceMul, Nat.reduceEqDiff, ↓reduceIte, true_and, and_true, and_self, List.drop_zero, List.take_length, Nat.le_refl, V.lit.injEq, Value.int.injEq, Value.bool.injEq]; try (first | omega | (simp; done) | (simp; omega)))) (by (simp (disch := (first | omega | (simp only [List.length_append, List.length_set, List.length_cons, List.length_nil, List.length_replicate, List.length_take, List.length_drop, List.length_map, List.length_range, true_and, and_true]; (try omega); done) | fail)) only [go_sem, Int.reduceEq, Int.reduceToNat, Nat.reduceAdd, Nat.reduceMul, Nat.reduceEqDiff, ↓reduceIte, true_and, and_true, and_self, List.drop_zero, List.take_length, Nat.le_refl, V.lit.injEq, Value.int.injEq, Value.bool.injEq]; try (first | omega | (simp; done) | (simp; omega)))) ⟨hinv.1, hinv.2, by simp only [List.length_append, List.length_cons, List.length_nil]; exact hst, by simp only [List.length_append, List.length_cons, List.length_nil]; omega⟩ (by simp only [List.length_append, List.length_cons, List.length_nil]; omega)
      · obtain rfl : v = 0 := hzb (by omega)
        simp only [Nat.add_zero] at hst hset hinv
        rw [Nat.add_zero, Nat.add_zero] at hcs
        simp (maxSteps := 1000000) (disch := (first | omega | (simp only [List.length_append, List.length_set, List.length_cons, List.length_nil, List.length_replicate, List.length_take, List.length_drop, List.length_map, List.length_range, true_and, and_true]; (try omega); done) | fail)) only [go_sem, hga, Int.reduceEq, Int.reduceToNat, Nat.reduceAdd, Nat.reduceMul, Nat.reduceEqDiff, ↓reduceIte]
        refine call_add64 (y := 0) Try.func77 (by kernel_rfl) (by kernel_rfl) (by kernel_rfl) (by kernel_rfl) (by omega) ?_
        rw [Nat.add_zero, hcs]
        simp (maxSteps := 1000000) (disch := (first | omega | (simp only [List.length_append, List.length_set, List.length_cons, List.length_nil, List.length_replicate, List.length_take, List.length_drop, List.length_map, List.length_range, true_and, and_true]; (try omega); done) | fail)) only [go_sem, hset, Int.reduceEq, Int.reduceToNat, Nat.reduceAdd, Nat.reduceMul, Nat.reduceEqDiff, ↓reduceIte]
        refine NextV_of (L ++ [(c + u) % 18446744073709551616], (c + u) / 18446744073709551616) [some 0, some 1, some 2, some 3] rfl (by simp only [List.length_append, List.length_cons, List.length_nil]; (simp (disch := (first | omega | (simp only [List.length_append, List.length_set, List.length_cons, List.length_nil, List.length_replicate, List.length_take, List.length_drop, List.length_map, List.length_range, true_and, and_true]; (try omega); done) | fail)) only [go_sem, Int.reduceEq, Int.reduceToNat, Nat.reduceAdd, Nat.reduceMul, Nat.reduceEqDiff, ↓reduceIte, true_and, and_true, and_self, List.drop_zero, List.take_length, Nat.le_refl, V.lit.injEq, Value.int.injEq, Value.bool.injEq]; try (first | omega | (simp; done) | (simp; omega)))) (by (simp (disch := (first | omega | (simp only [List.length_append, List.length_set, List.length_cons, List.length_nil, List.length_replicate, List.length_take, List.length_drop, List.length_map, List.length_range, true_and, and_true]; (try omega); done) | fail)) only [go_sem, Int.reduceEq, Int.reduceToNat, Nat.reduceAdd, Nat.reduceMul, Nat.reduceEqDiff, ↓reduceIte, true_and, and_true, and_self, List.drop_zero, List.take_length, Nat.le_refl, V.lit.injEq, Value.int.injEq, Value.bool.injEq]; try (first | omega | (simp; done) | (simp; omega)))) ⟨hinv.1, hinv.2, by simp only [List.length_append, List.length_cons, List.length_nil]; exact hst, by simp only [List.length_append, List.length_cons, List.length_nil]; omega⟩ (by simp only [List.length_append, List.length_cons, List.length_nil]; omega)
    · have hLe : L.length = (wg x).length := by omega
      have e1 : (wg x).take L.length = wg x := List.take_of_length_le (by omega)
      have e2 : (wg y).take L.length = wg y := List.take_of_length_le (by omega)
      rw [e1, e2, hav, hbv] at hv
      have hset := nl_set (pad L ((wg x).length + 1)) L.length c
      rw [pad_set (by omega), pad_full (L := L ++ [c]) (by simp only [List.length_append, List.length_cons, List.length_nil]; omega), hLe] at hset
      have hval : valB 18446744073709551616 (L ++ [c]) = x + y := by rw [valB_snoc]; exact hv
      have hlc : (L ++ [c]).length = (wg x).length + 1 := by simp only [List.length_append, List.length_cons, List.length_nil]; omega
      have hls := nl_len (L ++ [c])
      have hset2 : (nl (pad L ((wg x).length + 1))).set (nl (wg x)).length (c : Int) = nl (L ++ [c]) := by rw [hnA]; exact hset
      simp (maxSteps := 1000000) (disch := (first | omega | (simp only [List.length_append, List.length_set, List.length_cons, List.length_nil, List.length_replicate, List.length_take, List.length_drop, List.length_map, List.length_range, true_and, and_true]; (try omega); done) | fail)) only [go_sem, hset2, Int.reduceEq, Int.reduceToNat, Nat.reduceAdd, Nat.reduceMul, Nat.reduceEqDiff, ↓reduceIte]
      refine callW [] [3] (trimmed_fn (l := L ++ [c]) (snocB hL (by omega)) (by omega)) ?_
      rw [hval]
      simp (maxSteps := 1000000) (disch := (first | omega | (simp only [List.length_append, List.length_set, List.length_cons, List.length_nil, List.length_replicate, List.length_take, List.length_drop, List.length_map, List.length_range, true_and, and_true]; (try omega); done) | fail)) only [go_sem, Int.reduceEq, Int.reduceToNat, Nat.reduceAdd, Nat.reduceMul, Nat.reduceEqDiff, ↓reduceIte]
      exact endW [] hQ
end Go.Proofs.Ytfemchdaoihogaa
