import Derived.Test.YtfkpfhjfjnnbbaaDoorYl
/-! Law 5: the document's Bits and Gcd. -/
namespace Go.Proofs.YtfkpfhjfjnnbbaaDoor
open Go.Eng Go.Vx
set_option linter.unusedSimpArgs false
set_option linter.unusedVariables false
set_option maxRecDepth 100000
theorem pow_le_bl {a k : Nat} : 2 ^ k ≤ a ↔ k < bl a := by
  constructor
  · intro h
    refine Classical.byContradiction fun hn => ?_
    have h1 := bl_lt a
    have h2 : 2 ^ bl a ≤ 2 ^ k := Nat.pow_le_pow_right (by decide) (by omega)
    omega
  · intro h
    refine Classical.byContradiction fun hn => ?_
    have := bl_le_of (n := a) (k := k) (by omega)
    omega
theorem dg_pos {b : Nat} (hb : b ≠ 0) : 0 < (dg b).length := by
  rcases Nat.eq_zero_or_pos (dg b).length with h | h
  · exfalso
    have h' : dg b = [] := List.length_eq_zero_iff.1 h
    have : valB 10000 (dg b) = b := dgB_val (by decide) b
    rw [h'] at this
    exact hb this.symm
  · exact h
theorem lgcd_fn {a b : Nat} (ha : (dg a).length ≤ 200000) (hb : (dg b).length ≤ 200000) : Fn1 Tryd.prog 26 [DV a, DV b] [] (DV (Nat.gcd a b)) [] := by
  refine fn1N_of pl26 (by kernel_rfl) Tryd.call26 Tryd.func26 rfl (by kernel_rfl) rfl [.tmp 4] (by kernel_rfl) fun Q hQ => ?_
  simp (maxSteps := 1000000) (disch := (first | omega | (simp only [lnA, List.length_map, List.length_range, true_and, and_true]; (try omega); done) | fail)) only [go_sem, Int.reduceEq, Int.reduceToNat, Nat.reduceAdd, Nat.reduceMul, Nat.reduceEqDiff, ↓reduceIte]
  refine LoopV_of (X := Nat × Nat) (st := fun z => ([(0, DV z.1), (1, DV z.2)], []))
    (inv := fun z => (dg z.1).length ≤ 200000 ∧ (dg z.2).length ≤ 200000 ∧ Nat.gcd z.1 z.2 = Nat.gcd a b) (m := fun z => z.2) (a, b) [] rfl (by simp (disch := (first | omega | (simp only [lnA, List.length_map, List.length_range, true_and, and_true]; (try omega); done) | fail)) only [go_sem, Int.reduceEq, Int.reduceToNat, Nat.reduceAdd, Nat.reduceMul, Nat.reduceEqDiff, ↓reduceIte, true_and, and_true, and_self, List.drop_zero, List.take_length, Nat.le_refl, V.lit.injEq, Value.int.injEq, Value.bool.injEq]; try (first | omega | (simp; done) | (simp; omega))) (by simp (disch := (first | omega | (simp only [lnA, List.length_map, List.length_range, true_and, and_true]; (try omega); done) | fail)) only [go_sem, Int.reduceEq, Int.reduceToNat, Nat.reduceAdd, Nat.reduceMul, Nat.reduceEqDiff, ↓reduceIte, true_and, and_true, and_self, List.drop_zero, List.take_length, Nat.le_refl, V.lit.injEq, Value.int.injEq, Value.bool.injEq]; try (first | omega | (simp; done) | (simp; omega))) ⟨ha, hb, rfl⟩ ?_
  rintro ⟨x, y⟩ ⟨hx, hy, hv⟩
  simp only at hx hy hv ⊢
  have hny := nl_len (dg y)
  by_cases h : y = 0
  · subst h
    rw [Nat.gcd_zero_right] at hv
    rw [← hv] at hQ
    have e : dg 0 = [] := dg_zero
    simp (maxSteps := 1000000) (disch := (first | omega | (simp only [lnA, List.length_map, List.length_range, true_and, and_true]; (try omega); done) | fail)) only [go_sem, e, Int.reduceEq, Int.reduceToNat, Nat.reduceAdd, Nat.reduceMul, Nat.reduceEqDiff, ↓reduceIte]
    exact endW [] hQ
  · have hp := dg_pos h
    simp (maxSteps := 1000000) (disch := (first | omega | (simp only [lnA, List.length_map, List.length_range, true_and, and_true]; (try omega); done) | fail)) only [go_sem, Int.reduceEq, Int.reduceToNat, Nat.reduceAdd, Nat.reduceMul, Nat.reduceEqDiff, ↓reduceIte]
    refine callV0 (ldiv_fn (a := x) (b := y) (by omega) hx hy) rfl rfl ?_
    simp (maxSteps := 1000000) (disch := (first | omega | (simp only [lnA, List.length_map, List.length_range, true_and, and_true]; (try omega); done) | fail)) only [go_sem, Int.reduceEq, Int.reduceToNat, Nat.reduceAdd, Nat.reduceMul, Nat.reduceEqDiff, ↓reduceIte]
    refine nextW (y, x % y) [] ⟨hy, Nat.le_trans (dg_mono (Nat.mod_le _ _)) hx, ?_⟩ (Nat.mod_lt _ (by omega))
    simp only
    rw [← hv, Nat.gcd_comm x y, Nat.gcd_rec y x, Nat.gcd_comm]
theorem lbits_fn {a : Nat} (ha : (dg a).length ≤ 200000) (hb : bl a ≤ 4611686018427387904) : Fn1 Tryd.prog 18 [DV a] [] (.lit (.int .i64 (bl a : Int))) [] := by
  refine fn1N_of pl18 (by kernel_rfl) Tryd.call18 Tryd.func18 rfl (by kernel_rfl) rfl [.tmp 2] (by kernel_rfl) fun Q hQ => ?_
  simp (maxSteps := 1000000) (disch := (first | omega | (simp only [lnA, List.length_map, List.length_range, true_and, and_true]; (try omega); done) | fail)) only [go_sem, Int.reduceEq, Int.reduceToNat, Nat.reduceAdd, Nat.reduceMul, Nat.reduceEqDiff, ↓reduceIte]
  refine callV0 (small_fn (n := 1) (by decide)) rfl rfl ?_
  simp (maxSteps := 1000000) (disch := (first | omega | (simp only [lnA, List.length_map, List.length_range, true_and, and_true]; (try omega); done) | fail)) only [go_sem, Int.reduceEq, Int.reduceToNat, Nat.reduceAdd, Nat.reduceMul, Nat.reduceEqDiff, ↓reduceIte]
  have h1 : (dg (2 ^ 0)).length ≤ (dg a).length + 1 := by
    have : (dg 1).length ≤ 1 := dg_len (by decide)
    rw [Nat.pow_zero]; omega
  refine LoopV_of (X := Nat) (st := fun k => ([(0, DV a), (3, .lit (.int .i64 (k : Int))), (4, DV (2 ^ k))], []))
    (inv := fun k => k ≤ bl a ∧ (dg (2 ^ k)).length ≤ (dg a).length + 1) (m := fun k => bl a - k) 0 [] rfl (by simp (disch := (first | omega | (simp only [lnA, List.length_map, List.length_range, true_and, and_true]; (try omega); done) | fail)) only [go_sem, Int.reduceEq, Int.reduceToNat, Nat.reduceAdd, Nat.reduceMul, Nat.reduceEqDiff, ↓reduceIte, true_and, and_true, and_self, List.drop_zero, List.take_length, Nat.le_refl, V.lit.injEq, Value.int.injEq, Value.bool.injEq]; try (first | omega | (simp; done) | (simp; omega))) (by rw [Nat.pow_zero]; (simp (disch := (first | omega | (simp only [lnA, List.length_map, List.length_range, true_and, and_true]; (try omega); done) | fail)) only [go_sem, Int.reduceEq, Int.reduceToNat, Nat.reduceAdd, Nat.reduceMul, Nat.reduceEqDiff, ↓reduceIte, true_and, and_true, and_self, List.drop_zero, List.take_length, Nat.le_refl, V.lit.injEq, Value.int.injEq, Value.bool.injEq]; try (first | omega | (simp; done) | (simp; omega)))) ⟨Nat.zero_le _, h1⟩ ?_
  rintro k ⟨hk, hl⟩
  have hiff := pow_le_bl (a := a) (k := k)
  simp (maxSteps := 1000000) (disch := (first | omega | (simp only [lnA, List.length_map, List.length_range, true_and, and_true]; (try omega); done) | fail)) only [go_sem, Int.reduceEq, Int.reduceToNat, Nat.reduceAdd, Nat.reduceMul, Nat.reduceEqDiff, ↓reduceIte]
  refine callV0 (lcmp_fn (a := 2 ^ k) (b := a) (by omega) (by omega)) rfl rfl ?_
  by_cases h : k < bl a
  · have hle := hiff.2 h
    have hc : cmpI (2 ^ k) a ≤ 0 := by unfold cmpI; split <;> (try split) <;> omega
    have hd := dadd_len (a := 2 ^ k) (b := 2 ^ k) (k := (dg a).length) (dg_mono hle) (dg_mono hle)
    have e2 : 2 ^ k + 2 ^ k = 2 ^ (k + 1) := by rw [Nat.pow_succ]; omega
    rw [e2] at hd
    simp (maxSteps := 1000000) (disch := (first | omega | (simp only [lnA, List.length_map, List.length_range, true_and, and_true]; (try omega); done) | fail)) only [go_sem, decide_eq_true hc, Int.reduceEq, Int.reduceToNat, Nat.reduceAdd, Nat.reduceMul, Nat.reduceEqDiff, ↓reduceIte]
    refine callV0 (ladd_fn (a := 2 ^ k) (b := 2 ^ k) (by omega) (by omega)) rfl rfl ?_
    rw [e2]
    simp (maxSteps := 1000000) (disch := (first | omega | (simp only [lnA, List.length_map, List.length_range, true_and, and_true]; (try omega); done) | fail)) only [go_sem, Int.reduceEq, Int.reduceToNat, Nat.reduceAdd, Nat.reduceMul, Nat.reduceEqDiff, ↓reduceIte]
    refine nextW (k + 1) [] ⟨by omega, hd⟩ (by omega)
  · have hlt : ¬ 2 ^ k ≤ a := fun e => h (hiff.1 e)
    have hc : ¬ cmpI (2 ^ k) a ≤ 0 := by unfold cmpI; rw [if_neg (by omega), if_pos (by omega)]; decide
    obtain rfl : k = bl a := by omega
    simp (maxSteps := 1000000) (disch := (first | omega | (simp only [lnA, List.length_map, List.length_range, true_and, and_true]; (try omega); done) | fail)) only [go_sem, decide_eq_false hc, Int.reduceEq, Int.reduceToNat, Nat.reduceAdd, Nat.reduceMul, Nat.reduceEqDiff, ↓reduceIte]
    exact endW [] hQ
end Go.Proofs.YtfkpfhjfjnnbbaaDoor
