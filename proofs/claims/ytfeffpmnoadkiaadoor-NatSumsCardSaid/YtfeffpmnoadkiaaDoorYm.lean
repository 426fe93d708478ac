import Derived.Test.YtfeffpmnoadkiaaDoorYl
/-! NatSums. -/
namespace Go.Proofs.YtfeffpmnoadkiaaDoor
open Go.Eng Go.Vx
set_option linter.unusedSimpArgs false
set_option linter.unusedVariables false
set_option maxRecDepth 100000
set_option maxHeartbeats 4000000 in
theorem natSums_fn {P0 Q0 : List Nat} (hP0 : ∀ d ∈ P0, d < 18446744073709551616) (hQ0 : ∀ d ∈ Q0, d < 18446744073709551616) (lP : P0.length ≤ 9223372036854775807) (lQ : Q0.length ≤ 9223372036854775807) :
    Fn1 Tryd.prog 8 [.row 1 ((nl P0).map (ie .u64)), .row 1 ((nl Q0).map (ie .u64))] [] (.lit (.bool true)) [] := by
  obtain ⟨fp, hP, hPl⟩ := few_of (k := 6) hP0 lP (by decide)
  obtain ⟨fq, hQ', hQl⟩ := few_of (k := 6) hQ0 lQ (by decide)
  generalize P0.take 6 = W1 at *
  generalize Q0.take 6 = W2 at *
  obtain ⟨a, oa, va, la, da, -⟩ := both_of hP hPl (by decide)
  obtain ⟨b, ob, vb, lb, db, -⟩ := both_of hQ' hQl (by decide)
  have lab := wadd_len la lb
  have dab := dadd_len da db
  have lm := wmul_len a b
  have dm := dg_mul a b
  have c1 := nadd_fn (a := a) (b := b) (by omega) (by omega)
  have c2 := ladd_fn (a := a) (b := b) (by omega) (by omega)
  have c3 := nmul_fn (a := a) (b := b) (by omega) (by omega)
  have c4 := lmul_fn (a := a) (b := b) (by omega) (by omega)
  have c5 := ncmp_fn (a := a) (b := b) (by omega) (by omega)
  have c6 := lcmp_fn (a := a) (b := b) (by omega) (by omega)
  have i1 := is5_fn (n := a + b) (by omega) (by omega)
  have i2 := is5_fn (n := a * b) (by omega) (by omega)
  have i3 := is5_fn (n := a) (by omega) (by omega)
  have i4 := is5_fn (n := b) (by omega) (by omega)
  have z := zero_fn (n := 0) (by rw [show wg 0 = [] from dgB_zero _]; decide)
  refine fn1_of pl8 (by kernel_rfl) Tryd.call8 Tryd.func8 rfl (by kernel_rfl) rfl [.tmp 4] (by kernel_rfl) fun Q hQ => ?_
  by_cases hab : a < b
  · have s := nsubE_fn hab (by omega) (by omega)
    rw [cmpI_lt hab] at c5 c6
    repeat (first | (refine callV0 (awake5_fn) rfl rfl ?_) | (refine callV0 (fp) rfl rfl ?_) | (refine callV0 (fq) rfl rfl ?_) | (refine callV0 (oa) rfl rfl ?_) | (refine callV0 (ob) rfl rfl ?_) | (refine callV0 (va) rfl rfl ?_) | (refine callV0 (vb) rfl rfl ?_) | (refine callV0 (c1) rfl rfl ?_) | (refine callV0 (c2) rfl rfl ?_) | (refine callV0 (c3) rfl rfl ?_) | (refine callV0 (c4) rfl rfl ?_) | (refine callV0 (c5) rfl rfl ?_) | (refine callV0 (c6) rfl rfl ?_) | (refine callV0 (i1) rfl rfl ?_) | (refine callV0 (i2) rfl rfl ?_) | (refine callV0 (i3) rfl rfl ?_) | (refine callV0 (i4) rfl rfl ?_) | (refine callV0 (z) rfl rfl ?_) | (refine callV0 (s) rfl rfl ?_) | (simp (maxSteps := 1000000) (disch := (first | omega | (simp only [lnA, List.length_map, List.length_range, true_and, and_true]; (try omega); done) | fail)) only [go_sem, eq_self, decide_true, decide_false, List.append_eq, List.cons_append, List.nil_append, Int.reduceEq, Int.reduceToNat, Nat.reduceAdd, Nat.reduceMul, Nat.reduceEqDiff, ↓reduceIte]))
    exact endW [] hQ
  · have s := nsub_fn (a := a) (b := b) (by omega) (by omega)
    have t := lsub_fn (a := a) (b := b) (by omega) (by omega)
    have i5 := is5_fn (n := a - b) (Nat.le_trans (wmono_len (Nat.sub_le a b)) (by omega)) (Nat.le_trans (dg_mono (Nat.sub_le a b)) (by omega))
    have hc : ∃ c : Int, cmpI a b = c ∧ 0 ≤ c ∧ c ≤ 1 := by
      refine ⟨_, rfl, ?_⟩
      unfold cmpI
      rw [if_neg hab]
      split <;> decide
    obtain ⟨c, hc, h0, h1⟩ := hc
    rw [hc] at c5 c6
    repeat (first | (refine callV0 (awake5_fn) rfl rfl ?_) | (refine callV0 (fp) rfl rfl ?_) | (refine callV0 (fq) rfl rfl ?_) | (refine callV0 (oa) rfl rfl ?_) | (refine callV0 (ob) rfl rfl ?_) | (refine callV0 (va) rfl rfl ?_) | (refine callV0 (vb) rfl rfl ?_) | (refine callV0 (c1) rfl rfl ?_) | (refine callV0 (c2) rfl rfl ?_) | (refine callV0 (c3) rfl rfl ?_) | (refine callV0 (c4) rfl rfl ?_) | (refine callV0 (c5) rfl rfl ?_) | (refine callV0 (c6) rfl rfl ?_) | (refine callV0 (i1) rfl rfl ?_) | (refine callV0 (i2) rfl rfl ?_) | (refine callV0 (i3) rfl rfl ?_) | (refine callV0 (i4) rfl rfl ?_) | (refine callV0 (i5) rfl rfl ?_) | (refine callV0 (z) rfl rfl ?_) | (refine callV0 (s) rfl rfl ?_) | (refine callV0 (t) rfl rfl ?_) | (simp (maxSteps := 1000000) (disch := (first | omega | (simp only [lnA, List.length_map, List.length_range, true_and, and_true]; (try omega); done) | fail)) only [go_sem, eq_self, decide_true, decide_false, List.append_eq, List.cons_append, List.nil_append, Int.reduceEq, Int.reduceToNat, Nat.reduceAdd, Nat.reduceMul, Nat.reduceEqDiff, ↓reduceIte]))
    exact endW [] hQ
end Go.Proofs.YtfeffpmnoadkiaaDoor
