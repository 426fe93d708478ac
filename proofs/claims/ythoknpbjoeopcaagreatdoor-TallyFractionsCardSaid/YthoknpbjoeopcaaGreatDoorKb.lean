import Derived.Test.YthoknpbjoeopcaaGreatDoorQh
import Derived.Test.YthoknpbjoeopcaaGreatDoorRi
/-! TallyFractions. -/
namespace Go.Proofs.YthoknpbjoeopcaaGreatDoor
open Go.Eng Go.Vx
set_option linter.unusedSimpArgs false
set_option linter.unusedVariables false
set_option maxRecDepth 100000
theorem mean_lt (x y : Rat) : (x < (x + y) / 2 ↔ x < y) ∧ ((x + y) / 2 < x ↔ y < x) ∧ ((x + y) / 2 < y ↔ x < y) ∧ (y < (x + y) / 2 ↔ y < x) := by
  refine ⟨⟨?_, ?_⟩, ⟨?_, ?_⟩, ⟨?_, ?_⟩, ⟨?_, ?_⟩⟩ <;> grind
theorem mean_sub (x y : Rat) : (x + y) / 2 - x = y - (x + y) / 2 := by grind
theorem mean_cmp (x y : Rat) : cmpQ x ((x + y) / 2) = cmpQ x y ∧ cmpQ ((x + y) / 2) y = cmpQ x y := by
  obtain ⟨h1, h2, h3, h4⟩ := mean_lt x y
  unfold cmpQ
  simp only [h1, h2, h3, h4]
  exact ⟨trivial, trivial⟩
theorem xl_div {N : Nat} (h : 1 ≤ N) : ((xl N : Int) : Rat) / (((N : Nat) : Int) : Rat) = (((lgN N : Nat) : Int) : Rat) := by
  have e : max 1 N = N := by omega
  have h0 : (((N : Nat) : Int) : Rat) ≠ 0 := fun e => by
    have : ((N : Nat) : Int) = 0 := by exact_mod_cast e
    omega
  unfold xl
  rw [e]
  rw [show ((N * lgN N : Nat) : Int) = ((lgN N : Nat) : Int) * ((N : Nat) : Int) by rw [Nat.mul_comm]; simp]
  rw [Rat.intCast_mul, Rat.mul_div_cancel h0]
theorem diffs_fn {i N : Nat} (h : i < N) (hN : N ≤ 256) : Fn1 Tryz.prog 33 [.lit (.int .i64 ((i + 1 : Nat) : Int))] [] (.lit (.int .i64 (xl (i + 1) - xl i))) [] := by
  have hs := diffx_fn (N := i + 1) (n := ((i + 1 : Nat) : Int)) (by omega)
  rw [Nat.add_sub_cancel] at hs
  exact hs
theorem xl_le2 {i N : Nat} (h : i ≤ N) (hN : N ≤ 256) : 0 ≤ xl i ∧ xl i ≤ 11542724608000000 ∧ 0 ≤ xl (i + 1) ∧ xl (i + 1) ≤ 11542724608000000 ∧ xl i + (xl (i + 1) - xl i) = xl (i + 1) := by
  have b1 := xl_le (N := i) (by omega)
  have b2 := xl_le (N := i + 1) (by omega)
  omega
set_option maxHeartbeats 16000000 in
theorem tallyFractions_fn {P0 Q0 R0 S0 : List Nat} {b c : Bool} {n : Int} (hP0 : ∀ d ∈ P0, d < 18446744073709551616) (lP : P0.length ≤ 9223372036854775807) (hQ0 : ∀ d ∈ Q0, d < 18446744073709551616) (lQ : Q0.length ≤ 9223372036854775807)
    (hR0 : ∀ d ∈ R0, d < 18446744073709551616) (lR : R0.length ≤ 9223372036854775807) (hS0 : ∀ d ∈ S0, d < 18446744073709551616) (lS : S0.length ≤ 9223372036854775807) (n0 : -9223372036854775808 ≤ n) (n1 : n ≤ 9223372036854775807) :
    Fn1 Tryz.prog 4 [.agg [.row 1 ((nl P0).map (ie .u64)), .row 1 ((nl Q0).map (ie .u64)), .lit (.bool b)], .agg [.row 1 ((nl R0).map (ie .u64)), .row 1 ((nl S0).map (ie .u64)), .lit (.bool c)], .lit (.int .i64 n)] [] (.lit (.bool true)) [] := by
  obtain ⟨x, p, m, d, -, -, sx, -, -, -, fx⟩ := both7_of (b := b) hP0 lP hQ0 lQ
  obtain ⟨y, p', m', d', -, -, sy, -, -, -, fy⟩ := both7_of (b := c) hR0 lR hS0 lS
  obtain ⟨N, hN, hN1, hN2⟩ : ∃ N : Nat, 1 + n % 256 = (N : Int) ∧ 1 ≤ N ∧ N ≤ 256 := ⟨(1 + n % 256).toNat, by omega, by omega, by omega⟩
  have hNs : n % 256 + 1 = (N : Int) := by omega
  have s2 : RS 1 (((2 : Int) : Rat)) := RS_small (by decide)
  have sm := RS_div (by decide) (RS_add sx sy) s2
  have a1 := radd_fn (sx.mono (show 2 ≤ 400000 by decide)) (sy.mono (show 2 ≤ 400000 by decide))
  have a2 := rof_fn (n := 2) (by decide) (by decide)
  have a3 := rdiv_fn (x := x + y) (y := ((2 : Int) : Rat)) (by decide +kernel) ((RS_add sx sy).mono (by decide)) (s2.mono (by decide))
  have hm := mean_cmp x y
  have hs := mean_sub x y
  rw [show (2 : Rat) = ((2 : Int) : Rat) from rfl] at hm hs
  have a4 := rtxt_fn (sm.mono (by decide))
  have a5 := rparse_qS (sm.mono (by decide))
  have a6 := rcmp_fn (sm.mono (by decide)) (sm.mono (by decide))
  rw [cmpQ_eq0] at a6
  have a7 := rsub_fn (sm.mono (by decide)) (sx.mono (show 2 ≤ 400000 by decide))
  have a8 := rsub_fn (sy.mono (show 2 ≤ 400000 by decide)) (sm.mono (by decide))
  rw [← hs] at a8
  have sd := (RS_sub sm sx).mono (show _ ≤ 400000 by decide)
  have a9 := rcmp_fn sd sd
  rw [cmpQ_eq0] at a9
  have c1 := rcmp_fn (sx.mono (show 2 ≤ 400000 by decide)) (sy.mono (show 2 ≤ 400000 by decide))
  have c2 := rcmp_fn (sx.mono (show 2 ≤ 400000 by decide)) (sm.mono (by decide))
  rw [hm.1] at c2
  have c3 := rcmp_fn (sm.mono (by decide)) (sy.mono (show 2 ≤ 400000 by decide))
  rw [hm.2] at c3
  have ll := lgN_le (n := N) (by omega) (by omega)
  have z1 := rmake_fn (p := xl N) (q := (N : Int)) (by omega) (by have := xl_le (N := N) (by omega); omega) (by have := xl_le (N := N) (by omega); omega) (by omega) (by omega)
  rw [xl_div hN1] at z1
  have z2 := rof_fn (n := ((lgN N : Nat) : Int)) (by omega) (by omega)
  have z3 := log2n_fn (N := N) hN1 (by omega)
  have sz : RS 1 ((((lgN N : Nat) : Int) : Rat)) := RS_small (by omega)
  have z4 := rcmp_fn (sz.mono (show 1 ≤ 400000 by decide)) (sz.mono (show 1 ≤ 400000 by decide))
  rw [cmpQ_eq0] at z4
  have z5 := rwhole_fn (sz.mono (show 1 ≤ 1000000 by decide))
  rw [show ((((lgN N : Nat) : Int) : Rat)).den = 1 from rfl, decide_eq_true rfl] at z5
  clear hm hs sd sm sz s2
  generalize hlg : lgN N = L at *
  generalize ((L : Int) : Rat) = z at *
  generalize ((2 : Int) : Rat) = t at *
  generalize (x + y) / t - x = df at *
  generalize (x + y) / t = mn at *
  generalize x + y = su at *
  generalize hcc : cmpQ x y = cc at *
  have cb : cc = -1 ∨ cc = 0 ∨ cc = 1 := by
    rw [← hcc]; unfold cmpQ; split
    · exact .inl rfl
    · split
      · exact .inr (.inr rfl)
      · exact .inr (.inl rfl)
  refine fn1N_of pl4 (by kernel_rfl) Tryz.call4 Tryz.func4 rfl (by kernel_rfl) rfl [.tmp 6] (by kernel_rfl) fun Q hQ => ?_
  repeat (first | (refine callV0 (fx) rfl rfl ?_) | (refine callV0 (fy) rfl rfl ?_) | (refine callV0 (a1) rfl rfl ?_) | (refine callV0 (a2) rfl rfl ?_) | (refine callV0 (a3) rfl rfl ?_) | (refine callV0 (a4) rfl rfl ?_) | (refine callV0 (a5) rfl rfl ?_) | (refine callV0 (a6) rfl rfl ?_) | (refine callV0 (a7) rfl rfl ?_) | (refine callV0 (a8) rfl rfl ?_) | (refine callV0 (a9) rfl rfl ?_) | (refine callV0 (c1) rfl rfl ?_) | (refine callV0 (c2) rfl rfl ?_) | (refine callV0 (c3) rfl rfl ?_) | (simp (maxSteps := 1000000) (disch := (first | omega | (simp only [lnA, List.length_map, List.length_range, true_and, and_true]; (try omega); done) | fail)) only [go_sem, hN, hNs, eq_self, decide_true, decide_false, List.append_eq, List.cons_append, List.nil_append, Int.reduceEq, Int.reduceToNat, Nat.reduceAdd, Nat.reduceMul, Nat.reduceEqDiff, ↓reduceIte]))
  refine LoopV_of (X := Nat) (st := fun i => ([(2, .lit (.int .i64 (N : Int))), (17, .lit (.int .i64 (xl i))), (18, .lit (.int .i64 ((i + 1 : Nat) : Int)))], []))
    (inv := fun i => i ≤ N) (m := fun i => N - i) 0 [] rfl (by simp (disch := (first | omega | (simp only [lnA, List.length_map, List.length_range, true_and, and_true]; (try omega); done) | fail)) only [go_sem, Int.reduceEq, Int.reduceToNat, Nat.reduceAdd, Nat.reduceMul, Nat.reduceEqDiff, ↓reduceIte, true_and, and_true, and_self, List.drop_zero, List.take_length, Nat.le_refl, V.lit.injEq, Value.int.injEq, Value.bool.injEq]; try (first | omega | (simp; done) | (simp; omega))) (by rw [xl_zero]; (simp (disch := (first | omega | (simp only [lnA, List.length_map, List.length_range, true_and, and_true]; (try omega); done) | fail)) only [go_sem, Int.reduceEq, Int.reduceToNat, Nat.reduceAdd, Nat.reduceMul, Nat.reduceEqDiff, ↓reduceIte, true_and, and_true, and_self, List.drop_zero, List.take_length, Nat.le_refl, V.lit.injEq, Value.int.injEq, Value.bool.injEq]; try (first | omega | (simp; done) | (simp; omega)))) (by omega) ?_
  intro i hi
  obtain ⟨b1, b2, b3, b4, e⟩ := xl_le2 hi hN2
  by_cases h : i < N
  · have hs := diffs_fn h hN2
    clear z1 z2 z3 z4 z5 ll hlg
    generalize xl (i + 1) - xl i = df1 at *
    generalize hx2 : xl (i + 1) = x2 at *
    generalize hx1 : xl i = x1 at *
    simp (maxSteps := 1000000) (disch := (first | omega | (simp only [lnA, List.length_map, List.length_range, true_and, and_true]; (try omega); done) | fail)) only [go_sem, Int.reduceEq, Int.reduceToNat, Nat.reduceAdd, Nat.reduceMul, Nat.reduceEqDiff, ↓reduceIte]
    refine callV0 (hs) rfl rfl ?_
    simp (maxSteps := 1000000) (disch := (first | omega | (simp only [lnA, List.length_map, List.length_range, true_and, and_true]; (try omega); done) | fail)) only [go_sem, e, Int.reduceEq, Int.reduceToNat, Nat.reduceAdd, Nat.reduceMul, Nat.reduceEqDiff, ↓reduceIte]
    refine NextV_of (i + 1) [] rfl (by simp (disch := (first | omega | (simp only [lnA, List.length_map, List.length_range, true_and, and_true]; (try omega); done) | fail)) only [go_sem, Int.reduceEq, Int.reduceToNat, Nat.reduceAdd, Nat.reduceMul, Nat.reduceEqDiff, ↓reduceIte, true_and, and_true, and_self, List.drop_zero, List.take_length, Nat.le_refl, V.lit.injEq, Value.int.injEq, Value.bool.injEq]; try (first | omega | (simp; done) | (simp; omega))) (by rw [hx2]; (simp (disch := (first | omega | (simp only [lnA, List.length_map, List.length_range, true_and, and_true]; (try omega); done) | fail)) only [go_sem, Int.reduceEq, Int.reduceToNat, Nat.reduceAdd, Nat.reduceMul, Nat.reduceEqDiff, ↓reduceIte, true_and, and_true, and_self, List.drop_zero, List.take_length, Nat.le_refl, V.lit.injEq, Value.int.injEq, Value.bool.injEq]; try (first | omega | (simp; done) | (simp; omega)))) (by omega) (by omega)
  · obtain rfl : i = N := by omega
    repeat (first | (refine callV0 (z1) rfl rfl ?_) | (refine callV0 (z2) rfl rfl ?_) | (refine callV0 (z3) rfl rfl ?_) | (refine callV0 (z4) rfl rfl ?_) | (refine callV0 (z5) rfl rfl ?_) | (simp (maxSteps := 1000000) (disch := (first | omega | (simp only [lnA, List.length_map, List.length_range, true_and, and_true]; (try omega); done) | fail)) only [go_sem, eq_self, decide_true, decide_false, List.append_eq, List.cons_append, List.nil_append, Int.reduceEq, Int.reduceToNat, Nat.reduceAdd, Nat.reduceMul, Nat.reduceEqDiff, ↓reduceIte]))
    exact endW [] hQ
end Go.Proofs.YthoknpbjoeopcaaGreatDoor
