import Derived.Test.YthlndppcjcjmlaaDoorQd
/-! RatField. -/
namespace Go.Proofs.YthlndppcjcjmlaaDoor
open Go.Eng Go.Vx
set_option linter.unusedSimpArgs false
set_option linter.unusedVariables false
set_option maxRecDepth 100000
theorem samer_fn {x : Rat} (hx : RS 5000 x) : Fn1 Tryd.prog 21 [RV x, RV x] [] (.lit (.bool true)) [] := by
  have c := rcmp_fn (hx.mono (show 5000 ≤ 400000 by decide)) (hx.mono (show 5000 ≤ 400000 by decide))
  rw [cmpQ_eq0] at c
  have t := rtxt_fn hx
  refine fn1N_of pl21 (by kernel_rfl) Tryd.call21 Tryd.func21 rfl (by kernel_rfl) rfl [.tmp 4] (by kernel_rfl) fun Q hQ => ?_
  repeat (first | (refine callV0 (c) rfl rfl ?_) | (refine callV0 (t) rfl rfl ?_) | (simp (maxSteps := 1000000) (disch := (first | omega | (simp only [lnA, List.length_map, List.length_range, true_and, and_true]; (try omega); done) | fail)) only [go_sem, eq_self, decide_true, Int.reduceEq, Int.reduceToNat, Nat.reduceAdd, Nat.reduceMul, Nat.reduceEqDiff, ↓reduceIte]))
  exact endW [] hQ
theorem cmpQ_add (x y z : Rat) : cmpQ (x + z) (y + z) = cmpQ x y := by
  unfold cmpQ
  simp only [Rat.add_lt_add_right]
theorem qS_1 : qS 1 = [49] := by
  unfold qS zS
  rw [show (1 : Rat).num = 1 from rfl, show (1 : Rat).den = 1 from rfl, if_neg (by decide), if_pos rfl, show (1 : Int).natAbs = 1 from rfl, zS_lit 1 (by decide)]
  decide
set_option maxHeartbeats 16000000 in
theorem ratField_fn {P0 Q0 R0 S0 T0 U0 : List Nat} {b c d : Bool} (hP0 : ∀ d ∈ P0, d < 18446744073709551616) (lP : P0.length ≤ 9223372036854775807) (hQ0 : ∀ d ∈ Q0, d < 18446744073709551616) (lQ : Q0.length ≤ 9223372036854775807)
    (hR0 : ∀ d ∈ R0, d < 18446744073709551616) (lR : R0.length ≤ 9223372036854775807) (hS0 : ∀ d ∈ S0, d < 18446744073709551616) (lS : S0.length ≤ 9223372036854775807)
    (hT0 : ∀ d ∈ T0, d < 18446744073709551616) (lT : T0.length ≤ 9223372036854775807) (hU0 : ∀ d ∈ U0, d < 18446744073709551616) (lU : U0.length ≤ 9223372036854775807) :
    Fn1 Tryd.prog 4 [.agg [.row 1 ((nl P0).map (ie .u64)), .row 1 ((nl Q0).map (ie .u64)), .lit (.bool b)], .agg [.row 1 ((nl R0).map (ie .u64)), .row 1 ((nl S0).map (ie .u64)), .lit (.bool c)], .agg [.row 1 ((nl T0).map (ie .u64)), .row 1 ((nl U0).map (ie .u64)), .lit (.bool d)]] [] (.lit (.bool true)) [] := by
  obtain ⟨x, P1, M1, D1, -, -, sx, -, -, -, fx⟩ := both7_of (b := b) hP0 lP hQ0 lQ
  obtain ⟨y, P2, M2, D2, -, -, sy, -, -, -, fy⟩ := both7_of (b := c) hR0 lR hS0 lS
  obtain ⟨z, P3, M3, D3, -, -, sz, -, -, -, fz⟩ := both7_of (b := d) hT0 lT hU0 lU
  have mx := sx.mono (show 2 ≤ 400000 by decide)
  have my := sy.mono (show 2 ≤ 400000 by decide)
  have mz := sz.mono (show 2 ≤ 400000 by decide)
  have s1 := (RS_add sx sy).mono (show 2 + 2 + 1 ≤ 400000 by decide)
  have s2 := (RS_mul sx sz).mono (show 2 + 2 ≤ 400000 by decide)
  have s3 := (RS_mul sy sz).mono (show 2 + 2 ≤ 400000 by decide)
  have s4 := (RS_mul (RS_add sx sy) sz).mono (show 2 + 2 + 1 + 2 ≤ 5000 by decide)
  have s5 := (RS_add sx sz).mono (show 2 + 2 + 1 ≤ 400000 by decide)
  have s6 := (RS_add sy sz).mono (show 2 + 2 + 1 ≤ 400000 by decide)
  have s7 := (RS_mul sx sy).mono (show 2 + 2 ≤ 400000 by decide)
  have a1 := radd_fn mx my
  have a2 := rsub_fn s1 my
  rw [Rat.add_sub_cancel] at a2
  have a3 := samer_fn (sx.mono (show 2 ≤ 5000 by decide))
  have b1 := rmul_fn s1 mz
  have b2 := rmul_fn mx mz
  have b3 := rmul_fn my mz
  have b4 := radd_fn s2 s3
  rw [← Rat.add_mul] at b4
  have b5 := samer_fn s4
  have c1 := radd_fn mx mz
  have c2 := radd_fn my mz
  have c3 := rcmp_fn s5 s6
  rw [cmpQ_add] at c3
  have c4 := rcmp_fn mx my
  have d1 := rmul_fn mx my
  have ty := rtxt_fn (sy.mono (show 2 ≤ 5000 by decide))
  by_cases h : y = 0
  · subst h
    have dv := rdiv0_fn s7
    rw [qS_48.2 rfl] at ty
    generalize (0 : Rat) = y at *
    generalize (x + y) * z = v1 at *
    generalize x + y = v2 at *
    generalize x * z = v3 at *
    generalize y * z = v4 at *
    generalize x + z = v5 at *
    generalize y + z = v6 at *
    generalize x * y = v7 at *
    refine fn1N_of pl4 (by kernel_rfl) Tryd.call4 Tryd.func4 rfl (by kernel_rfl) rfl [.tmp 6] (by kernel_rfl) fun Q hQ => ?_
    repeat (first | (refine callV0 (awake7_fn) rfl rfl ?_) | (refine callV0 (fx) rfl rfl ?_) | (refine callV0 (fy) rfl rfl ?_) | (refine callV0 (fz) rfl rfl ?_) | (refine callV0 (a1) rfl rfl ?_) | (refine callV0 (a2) rfl rfl ?_) | (refine callV0 (a3) rfl rfl ?_) | (refine callV0 (b1) rfl rfl ?_) | (refine callV0 (b2) rfl rfl ?_) | (refine callV0 (b3) rfl rfl ?_) | (refine callV0 (b4) rfl rfl ?_) | (refine callV0 (b5) rfl rfl ?_) | (refine callV0 (c1) rfl rfl ?_) | (refine callV0 (c2) rfl rfl ?_) | (refine callV0 (c3) rfl rfl ?_) | (refine callV0 (c4) rfl rfl ?_) | (refine callV0 (d1) rfl rfl ?_) | (refine callV0 (dv) rfl rfl ?_) | (refine callV0 (ty) rfl rfl ?_) | (simp (maxSteps := 1000000) (disch := (first | omega | (simp only [lnA, List.length_map, List.length_range, true_and, and_true]; (try omega); done) | fail)) only [go_sem, eq_self, decide_true, decide_false, List.append_eq, List.cons_append, List.nil_append, Int.reduceEq, Int.reduceToNat, Nat.reduceAdd, Nat.reduceMul, Nat.reduceEqDiff, ↓reduceIte]))
    exact endW [] hQ
  · have dv := rdiv_fn h s7 my
    rw [Rat.mul_div_cancel h] at dv
    have one := rdiv_fn h my my
    have h1 : y / y = 1 := by
      have := Rat.mul_div_cancel (a := 1) h
      rw [Rat.one_mul] at this
      exact this
    rw [h1] at one
    have t1 := rtxt_fn (x := 1) ((RS_small (z := 1) (by decide)).mono (by decide))
    rw [qS_1] at t1
    obtain ⟨q2, e2, p2, -, k2, r2⟩ := rpow_ex sy (n := 2) (by decide) (by decide)
    obtain ⟨rfl, rfl⟩ := k2 2 rfl (by decide)
    obtain ⟨q3, e3, p3, -, k3, r3⟩ := rpow_ex sy (n := 3) (by decide) (by decide)
    obtain ⟨rfl, rfl⟩ := k3 3 rfl (by decide)
    have m3 := rmul_fn (r2.mono (show 129 ≤ 400000 by decide)) my
    rw [← Rat.pow_succ] at m3
    have b6 := samer_fn (r3.mono (show 129 ≤ 5000 by decide))
    have hty : decide (qS y = [48]) = false := decide_eq_false fun e => h (qS_48.1 e)
    generalize qS y = sy' at *
    generalize (1 : Rat) = w1 at *
    generalize y ^ 2 = w2 at *
    generalize y ^ (2 + 1) = w3 at *
    generalize (x + y) * z = v1 at *
    generalize x + y = v2 at *
    generalize x * z = v3 at *
    generalize y * z = v4 at *
    generalize x + z = v5 at *
    generalize y + z = v6 at *
    generalize x * y = v7 at *
    refine fn1N_of pl4 (by kernel_rfl) Tryd.call4 Tryd.func4 rfl (by kernel_rfl) rfl [.tmp 6] (by kernel_rfl) fun Q hQ => ?_
    repeat (first | (refine callV0 (awake7_fn) rfl rfl ?_) | (refine callV0 (fx) rfl rfl ?_) | (refine callV0 (fy) rfl rfl ?_) | (refine callV0 (fz) rfl rfl ?_) | (refine callV0 (a1) rfl rfl ?_) | (refine callV0 (a2) rfl rfl ?_) | (refine callV0 (a3) rfl rfl ?_) | (refine callV0 (b1) rfl rfl ?_) | (refine callV0 (b2) rfl rfl ?_) | (refine callV0 (b3) rfl rfl ?_) | (refine callV0 (b4) rfl rfl ?_) | (refine callV0 (b5) rfl rfl ?_) | (refine callV0 (c1) rfl rfl ?_) | (refine callV0 (c2) rfl rfl ?_) | (refine callV0 (c3) rfl rfl ?_) | (refine callV0 (c4) rfl rfl ?_) | (refine callV0 (d1) rfl rfl ?_) | (refine callV0 (dv) rfl rfl ?_) | (refine callV0 (ty) rfl rfl ?_) | (refine callV0 (one) rfl rfl ?_) | (refine callV0 (t1) rfl rfl ?_) | (refine callV0 (p2) rfl rfl ?_) | (refine callV0 (p3) rfl rfl ?_) | (refine callV0 (m3) rfl rfl ?_) | (refine callV0 (b6) rfl rfl ?_) | (simp (maxSteps := 1000000) (disch := (first | omega | (simp only [lnA, List.length_map, List.length_range, true_and, and_true]; (try omega); done) | fail)) only [go_sem, eq_self, decide_true, decide_false, List.append_eq, List.cons_append, List.nil_append, hty, Int.reduceEq, Int.reduceToNat, Nat.reduceAdd, Nat.reduceMul, Nat.reduceEqDiff, ↓reduceIte]))
    exact endW [] hQ
end Go.Proofs.YthlndppcjcjmlaaDoor
