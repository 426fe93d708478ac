import Derived.Test.YthlndppcjcjmlaaDoorYl
/-! Law 5: the document's Bits and Gcd. -/
namespace Go.Proofs.YthlndppcjcjmlaaDoor
open Go.Eng Go.Vx
set_option linter.unusedSimpArgs false
set_option linter.unusedVariables false
set_option maxRecDepth 100000
theorem dg_pos {b : Nat} (hb : b ≠ 0) : 0 < (dg b).length := by
  rcases Nat.eq_zero_or_pos (dg b).length with h | h
  · exfalso
    have h' : dg b = [] := List.length_eq_zero_iff.1 h
    have : valB 10000 (dg b) = b := dgB_val (by decide) b
    rw [h'] at this
    exact hb this.symm
  · exact h
theorem lgcd_fn {a b : Nat} (ha : (dg a).length ≤ 200000) (hb : (dg b).length ≤ 200000) : Fn1 Tryd.prog 67 [DV a, DV b] [] (DV (Nat.gcd a b)) [] := by
  refine fn1N_of pl67 (by kernel_rfl) Tryd.call67 Tryd.func67 rfl (by kernel_rfl) rfl [.tmp 4] (by kernel_rfl) fun Q hQ => ?_
  simp (maxSteps := 1000000) (disch := (first | omega | (simp only [lnA, List.length_map, List.length_range, true_and, and_true]; (try omega); done) | fail)) only [go_sem, Int.reduceEq, Int.reduceToNat, Nat.reduceAdd, Nat.reduceMul, Nat.reduceEqDiff, ↓reduceIte]
  refine LoopV_of (X := Nat × Nat) (st := fun z => ([(0, DV z.1), (1, DV z.2)], []))
    (inv := fun z => (dg z.1).length ≤ 200000 ∧ (dg z.2).length ≤ 200000 ∧ Nat.gcd z.1 z.2 = Nat.gcd a b) (m := fun z => z.2) (a, b) [] rfl (by simp (disch := (first | omega | (simp only [lnA, List.length_map, List.length_range, true_and, and_true]; (try omega); done) | fail)) only [go_sem, Int.reduceEq, Int.reduceToNat, Nat.reduceAdd, Nat.reduceMul, Nat.reduceEqDiff, ↓reduceIte, true_and, and_true, and_self, List.drop_zero, List.take_length, Nat.le_refl, V.lit.injEq, Value.int.injEq, Value.bool.injEq]; try (first | omega | (simp; done) | (simp; omega))) (by simp (disch := (first | omega | (simp only [lnA, List.length_map, List.length_range, true_and, and_true]; (try omega); done) | fail)) only [go_sem, Int.reduceEq, Int.reduceToNat, Nat.reduceAdd, Nat.reduceMul, Nat.reduceEqDiff, ↓reduceIte, true_and, and_true, and_self, List.drop_zero, List.take_length, Nat.le_refl, V.lit.injEq, Value.int.injEq, Value.bool.injEq]; try (first | omega | (simp; done) | (simp; omega))) ⟨ha, hb, rfl⟩ ?_
  rintro ⟨x, y⟩ ⟨hx, hy, hv⟩
  simp only at hx hy hv ⊢
  have hny := nl_len (dg y)
  by_cases h : y = 0
  · subst h
    rw [Nat.gcd_zero_right] at hv
    rw [← hv] at hQ
    have e : dg 0 = [] := dg_zero
    simp (maxSteps := 1000000) (disch := (first | omega | (simp only [lnA, List.length_map, List.length_range, true_and, and_true]; (try omega); done) | fail)) only [go_sem, e, Int.reduceEq, Int.reduceToNat, Nat.reduceAdd, Nat.reduceMul, Nat.reduceEqDiff, ↓reduceIte]
    exact endW [] hQ
  · have hp := dg_pos h
    simp (maxSteps := 1000000) (disch := (first | omega | (simp only [lnA, List.length_map, List.length_range, true_and, and_true]; (try omega); done) | fail)) only [go_sem, Int.reduceEq, Int.reduceToNat, Nat.reduceAdd, Nat.reduceMul, Nat.reduceEqDiff, ↓reduceIte]
    refine callV0 (ldiv_fn (a := x) (b := y) (by omega) hx hy) rfl rfl ?_
    simp (maxSteps := 1000000) (disch := (first | omega | (simp only [lnA, List.length_map, List.length_range, true_and, and_true]; (try omega); done) | fail)) only [go_sem, Int.reduceEq, Int.reduceToNat, Nat.reduceAdd, Nat.reduceMul, Nat.reduceEqDiff, ↓reduceIte]
    refine nextW (y, x % y) [] ⟨hy, Nat.le_trans (dg_mono (Nat.mod_le _ _)) hx, ?_⟩ (Nat.mod_lt _ (by omega))
    simp only
    rw [← hv, Nat.gcd_comm x y, Nat.gcd_rec y x, Nat.gcd_comm]
end Go.Proofs.YthlndppcjcjmlaaDoor
