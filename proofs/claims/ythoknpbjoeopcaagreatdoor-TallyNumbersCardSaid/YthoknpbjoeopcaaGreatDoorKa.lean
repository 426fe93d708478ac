import Derived.Test.YthoknpbjoeopcaaGreatDoorQg
import Derived.Test.YthoknpbjoeopcaaGreatDoorNp
import Derived.Test.YthoknpbjoeopcaaGreatDoorQd
/-! TallyNumbers. -/
namespace Go.Proofs.YthoknpbjoeopcaaGreatDoor
open Go.Eng Go.Vx
set_option linter.unusedSimpArgs false
set_option linter.unusedVariables false
set_option maxRecDepth 100000
theorem decS_1 : decS 1 = [49] := by rw [zS_lit 1 (by decide)]; decide
theorem wv_id (x y : Int) : (x + y) * (x - y) = x * x - y * y := by
  rw [Int.mul_sub, Int.add_mul, Int.add_mul, Int.mul_comm y x]
  omega
theorem sgl {b : Bool} {v k : Nat} (h : (wg v).length ≤ k) : (wg (sg b v).natAbs).length ≤ k := by rw [sg_abs]; exact h
set_option maxHeartbeats 16000000 in
theorem tallyNumbers_fn {P0 Q0 : List Nat} {b0 b1 : Bool} {n : Int} (hP0 : ∀ d ∈ P0, d < 18446744073709551616) (lP : P0.length ≤ 9223372036854775807) (hQ0 : ∀ d ∈ Q0, d < 18446744073709551616) (lQ : Q0.length ≤ 9223372036854775807)
    (n0 : -9223372036854775808 ≤ n) (n1 : n ≤ 9223372036854775807) :
    Fn1 Tryz.prog 3 [.agg [.row 1 ((nl P0).map (ie .u64)), .row 1 ((nl Q0).map (ie .u64)), .lit (.bool b0), .lit (.bool b1), .lit (.int .i64 n)]] [] (.lit (.bool true)) [] := by
  obtain ⟨fp, hP, hPl⟩ := few_of (k := 5) hP0 lP (by decide)
  obtain ⟨fq, hQ, hQl⟩ := few_of (k := 4) hQ0 lQ (by decide)
  obtain ⟨a, oa, -, la, -, -⟩ := both_of hP hPl (by decide)
  obtain ⟨b, ob, -, lb, -, -⟩ := both_of hQ hQl (by decide)
  obtain ⟨K, hK, hK2⟩ : ∃ K : Nat, n % 128 = (K : Int) ∧ K < 128 := ⟨(n % 128).toNat, by omega, by omega⟩
  have hadr : adr 1 1 2 = 3 := rfl
  have ma := wmake_fn (b := b0) (n := a) (by omega)
  have mb := wmake_fn (b := b1) (n := b) (by omega)
  have lx : (wg (sg b0 a).natAbs).length ≤ 5 := sgl la
  have ly : (wg (sg b1 b).natAbs).length ≤ 5 := sgl (by omega)
  have t1 := shl_fn (v := a) (N := K) (by omega) (by omega)
  have o2 := of1_fn (x := 2) (by decide)
  rw [show ((2 : Nat) : Int) = 2 from rfl] at o2
  have t2 := npow_fn (a := 2) (n := K) (by omega) (show bl 2 ≤ 8192 by decide +kernel) (fun _ => by rw [show bl 2 = 2 by decide +kernel]; omega)
  have lp : (wg (2 ^ K)).length ≤ 3 := by
    have h1 := bl_two (N := K) (K := 128) hK2
    exact wg_bl (by omega)
  have lm := wmul_len a (2 ^ K)
  have t3 := nmul_fn (a := a) (b := 2 ^ K) (by omega) (by omega)
  have t4 := ncmp_fn (a := a * 2 ^ K) (b := a * 2 ^ K) (by omega) (by omega)
  rw [cmpI_eq] at t4
  generalize a * 2 ^ K = ak at *
  generalize 2 ^ K = two at *
  generalize hx : sg b0 a = x at *
  generalize hy : sg b1 b = y at *
  have l1 := zadd_len lx ly (l := 6) rfl
  have l2 := zsub_len lx ly (l := 6) rfl
  have l3 := zmul_len l1 l2 (l := 12) rfl
  have l4 := zmul_len lx lx (l := 10) rfl
  have l5 := zmul_len ly ly (l := 10) rfl
  have u1 := wadd_fn (x := x) (y := y) (by omega) (by omega)
  have u2 := wsub_fn (x := x) (y := y) (by omega) (by omega)
  have u3 := wmul_fn (x := x + y) (y := x - y) (by omega) (by omega)
  have u4 := wmul_fn (x := x) (y := x) (by omega) (by omega)
  have u5 := wmul_fn (x := y) (y := y) (by omega) (by omega)
  have u6 := wsub_fn (x := x * x) (y := y * y) (by omega) (by omega)
  rw [← wv_id] at u6
  have u7 := wtext_fn (x := (x + y) * (x - y)) (by omega)
  have u8 := wparse_zS (z := (x + y) * (x - y)) (by omega)
  have u9 := wcmp_fn (x := (x + y) * (x - y)) (y := (x + y) * (x - y)) (by omega) (by omega)
  rw [cmpZ_eq] at u9
  generalize (x + y) * (x - y) = lf at *
  generalize x * x = xx at *
  generalize y * y = yy at *
  generalize x + y = xs at *
  generalize x - y = xd at *
  have g1 := ngcd_fn (a := a) (b := b) (by omega) (by omega)
  have lg : (wg (Nat.gcd a b)).length ≤ 5 := by
    by_cases h : a = 0
    · subst h; rw [Nat.gcd_zero_left]; omega
    · exact Nat.le_trans (wg_mono (Nat.gcd_le_left _ (by omega))) la
  have g2 := zero_fn (n := Nat.gcd a b) (by omega)
  by_cases hg : Nat.gcd a b = 0
  · obtain ⟨rfl, rfl⟩ := Nat.gcd_eq_zero_iff.1 hg
    rw [hg] at g1 g2
    have d1 := ndiv0_fn (a := 0) (by omega)
    have d2 := zero_fn (n := 0) (by omega)
    rw [decide_eq_true rfl] at d2
    clear g2 hx hy
    refine fn1N_of pl3 (by kernel_rfl) Tryz.call3 Tryz.func3 rfl (by kernel_rfl) rfl [.tmp 2] (by kernel_rfl) fun Q hQ => ?_
    repeat (first | (refine callV0 (fp) rfl rfl ?_) | (refine callV0 (fq) rfl rfl ?_) | (refine callV0 (oa) rfl rfl ?_) | (refine callV0 (ob) rfl rfl ?_) | (refine callV0 (ma) rfl rfl ?_) | (refine callV0 (mb) rfl rfl ?_) | (refine callV0 (t1) rfl rfl ?_) | (refine callV0 (t2) rfl rfl ?_) | (refine callV0 (t3) rfl rfl ?_) | (refine callV0 (t4) rfl rfl ?_) | (refine callV0 (u1) rfl rfl ?_) | (refine callV0 (u2) rfl rfl ?_) | (refine callV0 (u3) rfl rfl ?_) | (refine callV0 (u4) rfl rfl ?_) | (refine callV0 (u5) rfl rfl ?_) | (refine callV0 (u6) rfl rfl ?_) | (refine callV0 (u7) rfl rfl ?_) | (refine callV0 (u8) rfl rfl ?_) | (refine callV0 (u9) rfl rfl ?_) | (refine callV0 (g1) rfl rfl ?_) | (refine callV0 (d1) rfl rfl ?_) | (refine callV0 (d2) rfl rfl ?_) | (simp (maxSteps := 1000000) (disch := (first | omega | (simp only [lnA, List.length_map, List.length_range, true_and, and_true]; (try omega); done) | fail)) only [go_sem, hadr, hK, eq_self, decide_true, decide_false, List.append_eq, List.cons_append, List.nil_append, Int.reduceEq, Int.reduceToNat, Nat.reduceAdd, Nat.reduceMul, Nat.reduceEqDiff, ↓reduceIte]))
    refine callW [] [6] (o2) ?_
    repeat (first | (refine callV0 (fp) rfl rfl ?_) | (refine callV0 (fq) rfl rfl ?_) | (refine callV0 (oa) rfl rfl ?_) | (refine callV0 (ob) rfl rfl ?_) | (refine callV0 (ma) rfl rfl ?_) | (refine callV0 (mb) rfl rfl ?_) | (refine callV0 (t1) rfl rfl ?_) | (refine callV0 (t2) rfl rfl ?_) | (refine callV0 (t3) rfl rfl ?_) | (refine callV0 (t4) rfl rfl ?_) | (refine callV0 (u1) rfl rfl ?_) | (refine callV0 (u2) rfl rfl ?_) | (refine callV0 (u3) rfl rfl ?_) | (refine callV0 (u4) rfl rfl ?_) | (refine callV0 (u5) rfl rfl ?_) | (refine callV0 (u6) rfl rfl ?_) | (refine callV0 (u7) rfl rfl ?_) | (refine callV0 (u8) rfl rfl ?_) | (refine callV0 (u9) rfl rfl ?_) | (refine callV0 (g1) rfl rfl ?_) | (refine callV0 (d1) rfl rfl ?_) | (refine callV0 (d2) rfl rfl ?_) | (simp (maxSteps := 1000000) (disch := (first | omega | (simp only [lnA, List.length_map, List.length_range, true_and, and_true]; (try omega); done) | fail)) only [go_sem, hadr, hK, eq_self, decide_true, decide_false, List.append_eq, List.cons_append, List.nil_append, Int.reduceEq, Int.reduceToNat, Nat.reduceAdd, Nat.reduceMul, Nat.reduceEqDiff, ↓reduceIte]))
    exact endW [] hQ
  · rw [decide_eq_false hg] at g2
    have e1 : a % Nat.gcd a b = 0 := Nat.mod_eq_zero_of_dvd (Nat.gcd_dvd_left a b)
    have e2 : b % Nat.gcd a b = 0 := Nat.mod_eq_zero_of_dvd (Nat.gcd_dvd_right a b)
    have d1 := ndiv_fn (a := a) (b := Nat.gcd a b) hg (by omega) (by omega)
    have d2 := ndiv_fn (a := b) (b := Nat.gcd a b) hg (by omega) (by omega)
    rw [e1] at d1
    rw [e2] at d2
    have lu : (wg (a / Nat.gcd a b)).length ≤ 5 := Nat.le_trans (wg_mono (Nat.div_le_self _ _)) la
    have lv : (wg (b / Nat.gcd a b)).length ≤ 5 := Nat.le_trans (wg_mono (Nat.div_le_self _ _)) (by omega)
    have d3 := ngcd_fn (a := a / Nat.gcd a b) (b := b / Nat.gcd a b) (by omega) (by omega)
    rw [show Nat.gcd (a / Nat.gcd a b) (b / Nat.gcd a b) = 1 from Nat.coprime_div_gcd_div_gcd (Nat.pos_of_ne_zero hg)] at d3
    have z0 : (wg 0).length ≤ 0 := by rw [wg_zero]; decide
    have d4 := zero_fn (n := 0) (by omega)
    rw [decide_eq_true rfl] at d4
    have w1 : (wg 1).length ≤ 1 := wg_one (by decide)
    have d5 := ntext_fn (n := 1) (by omega)
    rw [decS_1] at d5
    generalize a / Nat.gcd a b = u at *
    generalize b / Nat.gcd a b = v at *
    generalize Nat.gcd a b = g at *
    clear e1 e2 hx hy
    refine fn1N_of pl3 (by kernel_rfl) Tryz.call3 Tryz.func3 rfl (by kernel_rfl) rfl [.tmp 2] (by kernel_rfl) fun Q hQ => ?_
    repeat (first | (refine callV0 (fp) rfl rfl ?_) | (refine callV0 (fq) rfl rfl ?_) | (refine callV0 (oa) rfl rfl ?_) | (refine callV0 (ob) rfl rfl ?_) | (refine callV0 (ma) rfl rfl ?_) | (refine callV0 (mb) rfl rfl ?_) | (refine callV0 (t1) rfl rfl ?_) | (refine callV0 (t2) rfl rfl ?_) | (refine callV0 (t3) rfl rfl ?_) | (refine callV0 (t4) rfl rfl ?_) | (refine callV0 (u1) rfl rfl ?_) | (refine callV0 (u2) rfl rfl ?_) | (refine callV0 (u3) rfl rfl ?_) | (refine callV0 (u4) rfl rfl ?_) | (refine callV0 (u5) rfl rfl ?_) | (refine callV0 (u6) rfl rfl ?_) | (refine callV0 (u7) rfl rfl ?_) | (refine callV0 (u8) rfl rfl ?_) | (refine callV0 (u9) rfl rfl ?_) | (refine callV0 (g1) rfl rfl ?_) | (refine callV0 (g2) rfl rfl ?_) | (refine callV0 (d1) rfl rfl ?_) | (refine callV0 (d2) rfl rfl ?_) | (refine callV0 (d3) rfl rfl ?_) | (refine callV0 (d4) rfl rfl ?_) | (refine callV0 (d5) rfl rfl ?_) | (simp (maxSteps := 1000000) (disch := (first | omega | (simp only [lnA, List.length_map, List.length_range, true_and, and_true]; (try omega); done) | fail)) only [go_sem, hadr, hK, eq_self, decide_true, decide_false, List.append_eq, List.cons_append, List.nil_append, Int.reduceEq, Int.reduceToNat, Nat.reduceAdd, Nat.reduceMul, Nat.reduceEqDiff, ↓reduceIte]))
    refine callW [] [6] (o2) ?_
    repeat (first | (refine callV0 (fp) rfl rfl ?_) | (refine callV0 (fq) rfl rfl ?_) | (refine callV0 (oa) rfl rfl ?_) | (refine callV0 (ob) rfl rfl ?_) | (refine callV0 (ma) rfl rfl ?_) | (refine callV0 (mb) rfl rfl ?_) | (refine callV0 (t1) rfl rfl ?_) | (refine callV0 (t2) rfl rfl ?_) | (refine callV0 (t3) rfl rfl ?_) | (refine callV0 (t4) rfl rfl ?_) | (refine callV0 (u1) rfl rfl ?_) | (refine callV0 (u2) rfl rfl ?_) | (refine callV0 (u3) rfl rfl ?_) | (refine callV0 (u4) rfl rfl ?_) | (refine callV0 (u5) rfl rfl ?_) | (refine callV0 (u6) rfl rfl ?_) | (refine callV0 (u7) rfl rfl ?_) | (refine callV0 (u8) rfl rfl ?_) | (refine callV0 (u9) rfl rfl ?_) | (refine callV0 (g1) rfl rfl ?_) | (refine callV0 (g2) rfl rfl ?_) | (refine callV0 (d1) rfl rfl ?_) | (refine callV0 (d2) rfl rfl ?_) | (refine callV0 (d3) rfl rfl ?_) | (refine callV0 (d4) rfl rfl ?_) | (refine callV0 (d5) rfl rfl ?_) | (simp (maxSteps := 1000000) (disch := (first | omega | (simp only [lnA, List.length_map, List.length_range, true_and, and_true]; (try omega); done) | fail)) only [go_sem, hadr, hK, eq_self, decide_true, decide_false, List.append_eq, List.cons_append, List.nil_append, Int.reduceEq, Int.reduceToNat, Nat.reduceAdd, Nat.reduceMul, Nat.reduceEqDiff, ↓reduceIte]))
    exact endW [] hQ
end Go.Proofs.YthoknpbjoeopcaaGreatDoor
