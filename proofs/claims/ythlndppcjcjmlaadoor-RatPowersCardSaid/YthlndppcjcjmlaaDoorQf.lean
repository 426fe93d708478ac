import Derived.Test.YthlndppcjcjmlaaDoorQd
/-! RatPowers. -/
namespace Go.Proofs.YthlndppcjcjmlaaDoor
open Go.Eng Go.Vx
set_option linter.unusedSimpArgs false
set_option linter.unusedVariables false
set_option maxRecDepth 100000
theorem zsmall1_fn : Fn1 Tryd.prog 45 [.lit (.int .i64 1)] [] (ZD 1 0) [] := by
  have o := lof_fn (W := [1]) (by decide) (by decide)
  rw [show wv [1] = 1 from rfl, show (nl [1]).map (ie .u64) = [[PV.lit (.int .u64 1)]] from rfl] at o
  rw [ZD0]
  refine fn1N_of pl45 (by kernel_rfl) Tryd.call45 Tryd.func45 rfl (by kernel_rfl) rfl [.cell 2 35] (by kernel_rfl) fun Q hQ => ?_
  simp (maxSteps := 1000000) (disch := (first | omega | (simp only [lnA, List.length_map, List.length_range, true_and, and_true]; (try omega); done) | fail)) only [go_sem, Int.reduceEq, Int.reduceToNat, Nat.reduceAdd, Nat.reduceMul, Nat.reduceEqDiff, ↓reduceIte]
  refine callW [] [1] (o) ?_
  simp (maxSteps := 1000000) (disch := (first | omega | (simp only [lnA, List.length_map, List.length_range, true_and, and_true]; (try omega); done) | fail)) only [go_sem, Int.reduceEq, Int.reduceToNat, Nat.reduceAdd, Nat.reduceMul, Nat.reduceEqDiff, ↓reduceIte]
  exact endW [] hQ
theorem qsmall1_fn : Fn1 Tryd.prog 16 [.lit (.int .i64 1)] [] (QD 1 0 1) [] := by
  have h := zsmall1_fn
  have s := small_fn (n := 1) (by decide)
  refine fn1N_of pl16 (by kernel_rfl) Tryd.call16 Tryd.func16 rfl (by kernel_rfl) rfl [.cell 2 37] (by kernel_rfl) fun Q hQ => ?_
  repeat (first | (refine callV0 (h) rfl rfl ?_) | (refine callV0 (s) rfl rfl ?_) | (simp (maxSteps := 1000000) (disch := (first | omega | (simp only [lnA, List.length_map, List.length_range, true_and, and_true]; (try omega); done) | fail)) only [go_sem, Int.reduceEq, Int.reduceToNat, Nat.reduceAdd, Nat.reduceMul, Nat.reduceEqDiff, ↓reduceIte]))
  exact endW [] hQ
theorem half_mul (N : Nat) : mkRat 1 (2 ^ N) * (((2 ^ N : Nat) : Int) : Rat) = 1 := by
  have h0 : ((2 ^ N : Nat) : Int) ≠ 0 := by
    have := Nat.pow_pos (n := N) (show 0 < 2 by decide)
    omega
  have h1 : (((2 ^ N : Nat) : Int) : Rat) ≠ 0 := fun e => h0 (by exact_mod_cast e)
  rw [← div_mk (z := 1) (d := 2 ^ N)]
  rw [Rat.div_mul_cancel h1]
  rfl
def qdC (p m d : Nat) : List V := [.row 1 ((nl (dg p)).map (ie .i64)), .row 1 ((nl (dg m)).map (ie .i64)), .row 1 ((nl (dg d)).map (ie .i64))]
def rvC (x : Rat) : List V := [.row 1 ((nl (wg x.num.natAbs)).map (ie .u64)), .lit (.bool (decide (x.num < 0))), .row 1 ((nl (wg (x.den - 1))).map (ie .u64))]
attribute [go_sem] qdC rvC
set_option maxHeartbeats 8000000 in
theorem ratPowers_fn {P0 Q0 : List Nat} {b : Bool} {n : Int} (hP0 : ∀ d ∈ P0, d < 18446744073709551616) (lP : P0.length ≤ 9223372036854775807) (hQ0 : ∀ d ∈ Q0, d < 18446744073709551616) (lQ : Q0.length ≤ 9223372036854775807) (n0 : -9223372036854775808 ≤ n) (n1 : n ≤ 9223372036854775807) :
    Fn1 Tryd.prog 3 [.agg [.row 1 ((nl P0).map (ie .u64)), .row 1 ((nl Q0).map (ie .u64)), .lit (.bool b)], .lit (.int .i64 n)] [] (.lit (.bool true)) [] := by
  obtain ⟨x, p, m, d, hd, hx, sx, lp, lm, ld, fx⟩ := both7_of (b := b) hP0 lP hQ0 lQ
  obtain ⟨r, e, pw, k1, k2, sr⟩ := rpow_ex sx n0 n1
  have t0 := rtxt_fn (x := 0) ((RS_small (z := 0) (by decide)).mono (by decide))
  rw [qS_48.2 rfl] at t0
  by_cases hneg : n < 0
  · obtain ⟨rfl, rfl⟩ := k1 hneg
    have hf := rhalfE_fn (n := n) (.inl hneg)
    generalize (0 : Rat) = r0 at *
    refine fn1N_of pl3 (by kernel_rfl) Tryd.call3 Tryd.func3 rfl (by kernel_rfl) rfl [.tmp 4] (by kernel_rfl) fun Q hQ => ?_
    repeat (first | (refine callV0 (awake7_fn) rfl rfl ?_) | (refine callV0 (fx) rfl rfl ?_) | (refine callV0 (pw) rfl rfl ?_) | (refine callV0 (hf) rfl rfl ?_) | (refine callV0 (t0) rfl rfl ?_) | (simp (maxSteps := 1000000) (disch := (first | omega | (simp only [lnA, List.length_map, List.length_range, true_and, and_true]; (try omega); done) | fail)) only [go_sem, eq_self, decide_true, decide_false, List.append_eq, List.cons_append, List.nil_append, Int.reduceEq, Int.reduceToNat, Nat.reduceAdd, Nat.reduceMul, Nat.reduceEqDiff, ↓reduceIte]))
    exact endW [] hQ
  obtain ⟨N, rfl⟩ := Int.eq_ofNat_of_zero_le (show 0 ≤ n by omega)
  by_cases h8192 : 8192 < N
  · have hf := rhalfE_fn (n := (N : Int)) (.inr (by omega))
    generalize (0 : Rat) = r0 at *
    refine fn1N_of pl3 (by kernel_rfl) Tryd.call3 Tryd.func3 rfl (by kernel_rfl) rfl [.tmp 4] (by kernel_rfl) fun Q hQ => ?_
    repeat (first | (refine callV0 (awake7_fn) rfl rfl ?_) | (refine callV0 (fx) rfl rfl ?_) | (refine callV0 (pw) rfl rfl ?_) | (refine callV0 (hf) rfl rfl ?_) | (refine callV0 (t0) rfl rfl ?_) | (simp (maxSteps := 1000000) (disch := (first | omega | (simp only [lnA, List.length_map, List.length_range, true_and, and_true]; (try omega); done) | fail)) only [go_sem, eq_self, decide_true, decide_false, List.append_eq, List.cons_append, List.nil_append, Int.reduceEq, Int.reduceToNat, Nat.reduceAdd, Nat.reduceMul, Nat.reduceEqDiff, ↓reduceIte]))
    exact endW [] hQ
  have hf := rhalf_fn (N := N) (by omega)
  have hp0 : 2 ^ N ≠ 0 := Nat.ne_of_gt (Nat.pow_pos (by decide))
  by_cases h8 : 8 < N
  · have l1 : (wg 1).length ≤ 1 := wg_one (by decide)
    have s := shl_fn (v := 1) (N := N) (by omega) (by omega)
    rw [Nat.one_mul] at s
    have hb := bl_two (N := N) (K := 8193) (by omega)
    have l2 : (wg (2 ^ N)).length ≤ 129 := wg_bl (by omega)
    have hnum : (mkRat 1 (2 ^ N)).num = 1 := by
      rw [mkRat_numG hp0, show (1 : Int).natAbs = 1 from rfl, Nat.gcd_one_left]
      rfl
    have hden : (mkRat 1 (2 ^ N)).den = 2 ^ N := by
      rw [mkRat_denG hp0, show (1 : Int).natAbs = 1 from rfl, Nat.gcd_one_left, Nat.div_one]
    have g1 := rnum_fn (x := mkRat 1 (2 ^ N))
    have g2 := rden_fn (x := mkRat 1 (2 ^ N)) (by rw [hden]; omega)
    rw [hnum] at g1
    rw [hden] at g2
    have g3 := wtext_fn (x := 1) (show (wg 1).length ≤ 100000 by omega)
    rw [show zS 1 = [49] by unfold zS; rw [if_neg (by decide), show (1 : Int).natAbs = 1 from rfl, zS_lit 1 (by decide)]; decide] at g3
    have g4 := ncmp_fn (a := 2 ^ N) (b := 2 ^ N) (by omega) (by omega)
    rw [cmpI_eq] at g4
    clear hnum hden
    generalize mkRat 1 (2 ^ N) = h at *
    generalize 2 ^ N = two at *
    generalize (1 : Int) = w1 at *
    have o1 := of1_fn (x := 1) (by decide)
    rw [show ((1 : Nat) : Int) = 1 from rfl] at o1
    refine fn1N_of pl3 (by kernel_rfl) Tryd.call3 Tryd.func3 rfl (by kernel_rfl) rfl [.tmp 4] (by kernel_rfl) fun Q hQ => ?_
    repeat (first | (refine callV0 (awake7_fn) rfl rfl ?_) | (refine callV0 (fx) rfl rfl ?_) | (refine callV0 (pw) rfl rfl ?_) | (refine callV0 (hf) rfl rfl ?_) | (refine callV0 (s) rfl rfl ?_) | (refine callV0 (g1) rfl rfl ?_) | (refine callV0 (g2) rfl rfl ?_) | (refine callV0 (g3) rfl rfl ?_) | (refine callV0 (g4) rfl rfl ?_) | (simp (maxSteps := 1000000) (disch := (first | omega | (simp only [lnA, List.length_map, List.length_range, true_and, and_true]; (try omega); done) | fail)) only [go_sem, eq_self, decide_true, decide_false, List.append_eq, List.cons_append, List.nil_append, Int.reduceEq, Int.reduceToNat, Nat.reduceAdd, Nat.reduceMul, Nat.reduceEqDiff, ↓reduceIte]))
    refine callW [] [5] (o1) ?_
    repeat (first | (refine callV0 (awake7_fn) rfl rfl ?_) | (refine callV0 (fx) rfl rfl ?_) | (refine callV0 (pw) rfl rfl ?_) | (refine callV0 (hf) rfl rfl ?_) | (refine callV0 (s) rfl rfl ?_) | (refine callV0 (g1) rfl rfl ?_) | (refine callV0 (g2) rfl rfl ?_) | (refine callV0 (g3) rfl rfl ?_) | (refine callV0 (g4) rfl rfl ?_) | (simp (maxSteps := 1000000) (disch := (first | omega | (simp only [lnA, List.length_map, List.length_range, true_and, and_true]; (try omega); done) | fail)) only [go_sem, eq_self, decide_true, decide_false, List.append_eq, List.cons_append, List.nil_append, Int.reduceEq, Int.reduceToNat, Nat.reduceAdd, Nat.reduceMul, Nat.reduceEqDiff, ↓reduceIte]))
    exact endW [] hQ
  · obtain ⟨rfl, rfl⟩ := k2 N rfl (by omega)
    refine fn1N_of pl3 (by kernel_rfl) Tryd.call3 Tryd.func3 rfl (by kernel_rfl) rfl [.tmp 4] (by kernel_rfl) fun Q hQ => ?_
    repeat (first | (refine callV0 (awake7_fn) rfl rfl ?_) | (refine callV0 (fx) rfl rfl ?_) | (refine callV0 (pw) rfl rfl ?_) | (refine callV0 (hf) rfl rfl ?_) | (refine callV0 (qsmall1_fn) rfl rfl ?_) | (simp (maxSteps := 1000000) (disch := (first | omega | (simp only [lnA, List.length_map, List.length_range, true_and, and_true]; (try omega); done) | fail)) only [go_sem, eq_self, decide_true, decide_false, List.append_eq, List.cons_append, List.nil_append, Int.reduceEq, Int.reduceToNat, Nat.reduceAdd, Nat.reduceMul, Nat.reduceEqDiff, ↓reduceIte]))
    refine LoopV_of (X := Nat × Nat × Nat × Nat) (st := fun z => ([(1, .lit (.int .i64 (N : Int))), (6, .ref 0 0 0 0), (7, .ref 1 0 0 0), (8, .lit (.int .i64 0)), (9, .ref 2 0 0 0), (10, .lit (.int .i64 0)), (13, .ref 3 0 0 0), (83, .lit (.int .i64 (N : Int))), (84, .lit (.int .i64 (z.1 : Int)))], [some (.cells (qdC p m d)), some (.cells (rvC (x ^ N))), some (.cells (rvC (mkRat 1 (2 ^ N)))), some (.cells (qdC z.2.1 z.2.2.1 z.2.2.2))]))
      (inv := fun z => z.1 ≤ N ∧ z.2.2.2 ≠ 0 ∧ x ^ z.1 = mkRat ((z.2.1 : Int) - z.2.2.1) z.2.2.2 ∧ (dg z.2.1).length ≤ 11 * z.1 + 1 ∧ (dg z.2.2.1).length ≤ 11 * z.1 + 1 ∧ (dg z.2.2.2).length ≤ 11 * z.1 + 1) (m := fun z => N - z.1) (0, 1, 0, 1) [some 2, some 3, some 4, some 5] rfl (by simp (disch := (first | omega | (simp only [lnA, List.length_map, List.length_range, true_and, and_true]; (try omega); done) | fail)) only [go_sem, Int.reduceEq, Int.reduceToNat, Nat.reduceAdd, Nat.reduceMul, Nat.reduceEqDiff, ↓reduceIte, true_and, and_true, and_self, List.drop_zero, List.take_length, Nat.le_refl, V.lit.injEq, Value.int.injEq, Value.bool.injEq]; try (first | omega | (simp; done) | (simp; omega))) (by simp (disch := (first | omega | (simp only [lnA, List.length_map, List.length_range, true_and, and_true]; (try omega); done) | fail)) only [go_sem, Int.reduceEq, Int.reduceToNat, Nat.reduceAdd, Nat.reduceMul, Nat.reduceEqDiff, ↓reduceIte, true_and, and_true, and_self, List.drop_zero, List.take_length, Nat.le_refl, V.lit.injEq, Value.int.injEq, Value.bool.injEq]; try (first | omega | (simp; done) | (simp; omega))) ⟨Nat.zero_le _, by decide, by rw [Rat.pow_zero]; decide +kernel, dg_len (by decide), by rw [dg_zero]; decide, dg_len (by decide)⟩ ?_
    rintro ⟨i, P, M, D⟩ ⟨hi, hD, hxi, l1, l2, l3⟩
    simp only [] at hi hD hxi l1 l2 l3
    by_cases h : i < N
    · have qm := qmul_fn (p := P) (m := M) (d := D) (p' := p) (m' := m) (d' := d) (by omega) (by omega) (by omega) (by omega) (by omega) (by omega)
      have e1 : x ^ (i + 1) = mkRat (((P * p + M * m : Nat) : Int) - ((P * m + M * p : Nat) : Int)) (D * d) := by
        rw [Rat.pow_succ, hxi]
        conv => lhs; rw [hx]
        exact mk_mul
      have k1 : (dg (P * p + M * m)).length ≤ 11 * (i + 1) + 1 := Nat.le_trans (dadd_len (dmul_len l1 lp rfl) (dmul_len l2 lm rfl)) (by omega)
      have k2 : (dg (P * m + M * p)).length ≤ 11 * (i + 1) + 1 := Nat.le_trans (dadd_len (dmul_len l1 lm rfl) (dmul_len l2 lp rfl)) (by omega)
      have k3 : (dg (D * d)).length ≤ 11 * (i + 1) + 1 := Nat.le_trans (dmul_len l3 ld rfl) (by omega)
      have k4 : D * d ≠ 0 := Nat.mul_ne_zero hD hd
      generalize P * p + M * m = P' at *
      generalize P * m + M * p = M' at *
      generalize D * d = D' at *
      repeat (first | (refine callV0 (qm) rfl rfl ?_) | (simp (maxSteps := 1000000) (disch := (first | omega | (simp only [lnA, List.length_map, List.length_range, true_and, and_true]; (try omega); done) | fail)) only [go_sem, Int.reduceEq, Int.reduceToNat, Nat.reduceAdd, Nat.reduceMul, Nat.reduceEqDiff, ↓reduceIte]))
      refine nextW (i + 1, P', M', D') [some 0, some 1, some 2, some 3] ⟨by omega, k4, e1, k1, k2, k3⟩ (by simp only []; omega)
    · obtain rfl : i = N := by omega
      have i1 := is7_fn hD hxi (sr.mono (by decide)) (by omega) (by omega) (by omega)
      have hv : 2 ^ i ≤ 2 ^ 8 := Nat.pow_le_pow_right (by decide) (by omega)
      have o1 := of1_fn (x := 2 ^ i) (Nat.lt_of_le_of_lt hv (by decide))
      have l4 : (wg (2 ^ i)).length ≤ 1 := wg_one (Nat.lt_of_le_of_lt hv (by decide))
      have rn := rnat_fn (n := 2 ^ i) (by omega)
      have l5 : (wg 1).length ≤ 1 := wg_one (by decide)
      have rh : RS 1 (mkRat 1 (2 ^ i)) := RS_mk hp0 l5 l4
      have rt : RS 1 (((2 ^ i : Nat) : Int) : Rat) := RS_int (by rw [Int.natAbs_natCast]; exact l4) (by decide)
      have rm := rmul_fn (rh.mono (show 1 ≤ 400000 by decide)) (rt.mono (show 1 ≤ 400000 by decide))
      rw [half_mul] at rm
      have i2 := is7_fn (p := 1) (m := 0) (d := 1) (x := 1) (by decide) (by decide +kernel) ((RS_small (z := 1) (by decide)).mono (by decide)) (Nat.le_trans (dg_len (k := 1) (by decide)) (by decide)) (by rw [dg_zero]; decide) (Nat.le_trans (dg_len (k := 1) (by decide)) (by decide))
      have hsh : IntKind.u64.wrap (1 * 2 ^ i) = ((2 ^ i : Nat) : Int) := by
        rw [show (1 * 2 ^ i : Int) = ((2 ^ i : Nat) : Int) by simp]
        generalize 2 ^ i = y at *
        simp (maxSteps := 1000000) (disch := (first | omega | (simp only [lnA, List.length_map, List.length_range, true_and, and_true]; (try omega); done) | fail)) only [go_sem, Int.reduceEq, Int.reduceToNat, Nat.reduceAdd, Nat.reduceMul, Nat.reduceEqDiff, ↓reduceIte]
      clear hf pw hxi k2
      generalize hy : ((2 ^ i : Nat) : Int) = y at *
      generalize mkRat 1 (2 ^ i) = hh at *
      generalize x ^ i = xi at *
      generalize 2 ^ i = two at *
      generalize (1 : Rat) = one at *
      repeat (first | (refine callV0 (i1) rfl rfl ?_) | (refine callV0 (rn) rfl rfl ?_) | (refine callV0 (rm) rfl rfl ?_) | (refine callV0 (qsmall1_fn) rfl rfl ?_) | (refine callV0 (i2) rfl rfl ?_) | (simp (maxSteps := 1000000) (disch := (first | omega | (simp only [lnA, List.length_map, List.length_range, true_and, and_true]; (try omega); done) | fail)) only [go_sem, hsh, Int.reduceEq, Int.reduceToNat, Nat.reduceAdd, Nat.reduceMul, Nat.reduceEqDiff, ↓reduceIte]))
      refine callW [] [4] (o1) ?_
      repeat (first | (refine callV0 (i1) rfl rfl ?_) | (refine callV0 (rn) rfl rfl ?_) | (refine callV0 (rm) rfl rfl ?_) | (refine callV0 (qsmall1_fn) rfl rfl ?_) | (refine callV0 (i2) rfl rfl ?_) | (simp (maxSteps := 1000000) (disch := (first | omega | (simp only [lnA, List.length_map, List.length_range, true_and, and_true]; (try omega); done) | fail)) only [go_sem, hsh, Int.reduceEq, Int.reduceToNat, Nat.reduceAdd, Nat.reduceMul, Nat.reduceEqDiff, ↓reduceIte]))
      exact endW [] hQ
end Go.Proofs.YthlndppcjcjmlaaDoor
