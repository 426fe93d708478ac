import Derived.Test.YthlndppcjcjmlaaGreatDoorQb
/-! Law 7: a fixed fact; RatSums, RatField. -/
namespace Go.Proofs.YthlndppcjcjmlaaGreatDoor
open Go.Eng Go.Vx
set_option linter.unusedSimpArgs false
set_option linter.unusedVariables false
set_option maxRecDepth 100000
theorem RS_small {z : Int} (h : z.natAbs < 18446744073709551616) : RS 1 (z : Rat) := RS_int (wg_one h) (by decide)
theorem awake7_fn : Fn1 Tryz.prog 7 [] [] (.lit (.bool true)) [] := by
  have m1 := rmake_fn (p := 1) (q := 2) (by decide) (by decide) (by decide) (by decide) (by decide)
  have m2 := rmake_fn (p := -1) (q := -3) (by decide) (by decide) (by decide) (by decide) (by decide)
  have s1 : RS 2 (((1 : Int) : Rat) / ((2 : Int) : Rat)) := RS_div (by decide) (RS_small (by decide)) (RS_small (by decide))
  have s2 : RS 2 (((-1 : Int) : Rat) / ((-3 : Int) : Rat)) := RS_div (by decide) (RS_small (by decide)) (RS_small (by decide))
  have hx : ((1 : Int) : Rat) / ((2 : Int) : Rat) + ((-1 : Int) : Rat) / ((-3 : Int) : Rat) = mkRat 5 6 := by decide +kernel
  have a := radd_fn (s1.mono (by decide)) (s2.mono (by decide))
  have sa := RS_add s1 s2
  rw [hx] at a sa
  have t := rtxt_fn (sa.mono (by decide))
  rw [show qS (mkRat 5 6) = [53, 47, 54] by
    unfold qS zS
    rw [show (mkRat 5 6).num = 5 by decide +kernel, show (mkRat 5 6).den = 6 by decide +kernel, if_neg (by decide), if_neg (by decide), show (5 : Int).natAbs = 5 from rfl, zS_lit 5 (by decide), zS_lit 6 (by decide)]
    decide] at t
  generalize ((1 : Int) : Rat) / ((2 : Int) : Rat) = x at *
  generalize ((-1 : Int) : Rat) / ((-3 : Int) : Rat) = y at *
  refine fn1N_of pl7 (by kernel_rfl) Tryz.call7 Tryz.func7 rfl (by kernel_rfl) rfl [.tmp 0] (by kernel_rfl) fun Q hQ => ?_
  repeat (first | (refine callV0 (m1) rfl rfl ?_) | (refine callV0 (m2) rfl rfl ?_) | (refine callV0 (a) rfl rfl ?_) | (refine callV0 (t) rfl rfl ?_) | (simp (maxSteps := 1000000) (disch := (first | omega | (simp only [lnA, List.length_map, List.length_range, true_and, and_true]; (try omega); done) | fail)) only [go_sem, eq_self, decide_true, Int.reduceEq, Int.reduceToNat, Nat.reduceAdd, Nat.reduceMul, Nat.reduceEqDiff, ↓reduceIte]))
  exact endW [] hQ
theorem cmpQ_eq0 (x : Rat) : cmpQ x x = 0 := by
  unfold cmpQ
  rw [if_neg (Rat.lt_irrefl), if_neg (Rat.lt_irrefl)]
set_option maxHeartbeats 8000000 in
theorem ratSums_fn {P0 Q0 R0 S0 : List Nat} {b c : Bool} (hP0 : ∀ d ∈ P0, d < 18446744073709551616) (lP : P0.length ≤ 9223372036854775807) (hQ0 : ∀ d ∈ Q0, d < 18446744073709551616) (lQ : Q0.length ≤ 9223372036854775807)
    (hR0 : ∀ d ∈ R0, d < 18446744073709551616) (lR : R0.length ≤ 9223372036854775807) (hS0 : ∀ d ∈ S0, d < 18446744073709551616) (lS : S0.length ≤ 9223372036854775807) :
    Fn1 Tryz.prog 3 [.agg [.row 1 ((nl P0).map (ie .u64)), .row 1 ((nl Q0).map (ie .u64)), .lit (.bool b)], .agg [.row 1 ((nl R0).map (ie .u64)), .row 1 ((nl S0).map (ie .u64)), .lit (.bool c)]] [] (.lit (.bool true)) [] := by
  obtain ⟨x, p, m, d, hd, hx, sx, lp, lm, ld, fx⟩ := both7_of (b := b) hP0 lP hQ0 lQ
  obtain ⟨y, p', m', d', he, hy, sy, lp', lm', ld', fy⟩ := both7_of (b := c) hR0 lR hS0 lS
  have hde := Nat.mul_ne_zero hd he
  have ldd : (dg (d * d')).length ≤ 3000 := Nat.le_trans (dmul_len ld ld' rfl) (by decide)
  have dims : ∀ {a b c e : Nat}, (dg a).length ≤ 10 → (dg b).length ≤ 10 → (dg c).length ≤ 10 → (dg e).length ≤ 10 → (dg (a * b + c * e)).length ≤ 3000 := fun h1 h2 h3 h4 => Nat.le_trans (dadd_len (dmul_len h1 h2 rfl) (dmul_len h3 h4 rfl)) (by decide)
  have a1 := radd_fn (sx.mono (show 2 ≤ 400000 by decide)) (sy.mono (show 2 ≤ 400000 by decide))
  have a2 := qadd_fn (p := p) (m := m) (d := d) (p' := p') (m' := m') (d' := d') (by omega) (by omega) (by omega) (by omega) (by omega) (by omega)
  have a3 := is7_fn (x := x + y) hde (by rw [hx, hy, mk_add hd he]) ((RS_add sx sy).mono (by decide)) (dims lp ld' lp' ld) (dims lm ld' lm' ld) ldd
  have b1 := rsub_fn (sx.mono (show 2 ≤ 400000 by decide)) (sy.mono (show 2 ≤ 400000 by decide))
  have b2 := qturn_fn (p := p') (m := m') (d := d')
  have b3 := qadd_fn (p := p) (m := m) (d := d) (p' := m') (m' := p') (d' := d') (by omega) (by omega) (by omega) (by omega) (by omega) (by omega)
  have b4 := is7_fn (x := x - y) hde (by rw [hx, hy, mk_sub hd he]) ((RS_sub sx sy).mono (by decide)) (dims lp ld' lm' ld) (dims lm ld' lp' ld) ldd
  have c1 := rmul_fn (sx.mono (show 2 ≤ 400000 by decide)) (sy.mono (show 2 ≤ 400000 by decide))
  have c2 := qmul_fn (p := p) (m := m) (d := d) (p' := p') (m' := m') (d' := d') (by omega) (by omega) (by omega) (by omega) (by omega) (by omega)
  have c3 := is7_fn (x := x * y) hde (by rw [hx, hy, mk_mul]) ((RS_mul sx sy).mono (by decide)) (dims lp lp' lm lm') (dims lp lm' lm lp') ldd
  have e1 := rcmp_fn (sx.mono (show 2 ≤ 400000 by decide)) (sy.mono (show 2 ≤ 400000 by decide))
  have e2 := qcmp_fn hd he hx hy (by omega) (by omega) (by omega) (by omega) (by omega) (by omega)
  have ty := rtxt_fn (sy.mono (show 2 ≤ 5000 by decide))
  generalize p * d' + p' * d = u1 at *
  generalize m * d' + m' * d = u2 at *
  generalize p * d' + m' * d = u3 at *
  generalize m * d' + p' * d = u4 at *
  generalize p * p' + m * m' = u5 at *
  generalize p * m' + m * p' = u6 at *
  generalize d * d' = u7 at *
  clear dims hx hy
  by_cases h : y = 0
  · subst h
    have dv := rdiv0_fn (sx.mono (show 2 ≤ 400000 by decide))
    rw [qS_48.2 rfl] at ty
    generalize (0 : Rat) = y at *
    generalize x + y = v2 at *
    generalize x - y = v3 at *
    generalize x * y = v4 at *
    refine fn1N_of pl3 (by kernel_rfl) Tryz.call3 Tryz.func3 rfl (by kernel_rfl) rfl [.tmp 4] (by kernel_rfl) fun Q hQ => ?_
    repeat (first | (refine callV0 (awake7_fn) rfl rfl ?_) | (refine callV0 (fx) rfl rfl ?_) | (refine callV0 (fy) rfl rfl ?_) | (refine callV0 (dv) rfl rfl ?_) | (refine callV0 (a1) rfl rfl ?_) | (refine callV0 (a2) rfl rfl ?_) | (refine callV0 (a3) rfl rfl ?_) | (refine callV0 (b1) rfl rfl ?_) | (refine callV0 (b2) rfl rfl ?_) | (refine callV0 (b3) rfl rfl ?_) | (refine callV0 (b4) rfl rfl ?_) | (refine callV0 (c1) rfl rfl ?_) | (refine callV0 (c2) rfl rfl ?_) | (refine callV0 (c3) rfl rfl ?_) | (refine callV0 (e1) rfl rfl ?_) | (refine callV0 (e2) rfl rfl ?_) | (refine callV0 (ty) rfl rfl ?_) | (simp (maxSteps := 1000000) (disch := (first | omega | (simp only [lnA, List.length_map, List.length_range, true_and, and_true]; (try omega); done) | fail)) only [go_sem, eq_self, decide_true, decide_false, List.append_eq, List.cons_append, List.nil_append, Int.reduceEq, Int.reduceToNat, Nat.reduceAdd, Nat.reduceMul, Nat.reduceEqDiff, ↓reduceIte]))
    exact endW [] hQ
  · have dv := rdiv_fn h (sx.mono (show 2 ≤ 400000 by decide)) (sy.mono (show 2 ≤ 400000 by decide))
    have sq : RS 4 (x / y) := RS_div (by decide) sx sy
    have mq := rmul_fn (sq.mono (show 4 ≤ 400000 by decide)) (sy.mono (show 2 ≤ 400000 by decide))
    rw [Rat.div_mul_cancel h] at mq
    have cq := rcmp_fn (sx.mono (show 2 ≤ 400000 by decide)) (sx.mono (show 2 ≤ 400000 by decide))
    rw [cmpQ_eq0] at cq
    have hty : decide (qS y = [48]) = false := decide_eq_false fun e => h (qS_48.1 e)
    generalize qS y = sy' at *
    generalize x / y = q at *
    generalize x + y = v2 at *
    generalize x - y = v3 at *
    generalize x * y = v4 at *
    refine fn1N_of pl3 (by kernel_rfl) Tryz.call3 Tryz.func3 rfl (by kernel_rfl) rfl [.tmp 4] (by kernel_rfl) fun Q hQ => ?_
    repeat (first | (refine callV0 (awake7_fn) rfl rfl ?_) | (refine callV0 (fx) rfl rfl ?_) | (refine callV0 (fy) rfl rfl ?_) | (refine callV0 (dv) rfl rfl ?_) | (refine callV0 (a1) rfl rfl ?_) | (refine callV0 (a2) rfl rfl ?_) | (refine callV0 (a3) rfl rfl ?_) | (refine callV0 (b1) rfl rfl ?_) | (refine callV0 (b2) rfl rfl ?_) | (refine callV0 (b3) rfl rfl ?_) | (refine callV0 (b4) rfl rfl ?_) | (refine callV0 (c1) rfl rfl ?_) | (refine callV0 (c2) rfl rfl ?_) | (refine callV0 (c3) rfl rfl ?_) | (refine callV0 (e1) rfl rfl ?_) | (refine callV0 (e2) rfl rfl ?_) | (refine callV0 (ty) rfl rfl ?_) | (refine callV0 (mq) rfl rfl ?_) | (refine callV0 (cq) rfl rfl ?_) | (simp (maxSteps := 1000000) (disch := (first | omega | (simp only [lnA, List.length_map, List.length_range, true_and, and_true]; (try omega); done) | fail)) only [go_sem, eq_self, decide_true, decide_false, List.append_eq, List.cons_append, List.nil_append, hty, Int.reduceEq, Int.reduceToNat, Nat.reduceAdd, Nat.reduceMul, Nat.reduceEqDiff, ↓reduceIte]))
    exact endW [] hQ
end Go.Proofs.YthlndppcjcjmlaaGreatDoor
