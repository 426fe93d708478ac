import Derived.Test.YtdohmppildfjhaaGreatDoorD3
namespace Go.Proofs.YtdohmppildfjhaaGreatDoor
open Go.Eng Go.Vx
set_option linter.unusedSimpArgs false
set_option linter.unusedVariables false
set_option maxRecDepth 100000
def sg (b : Bool) (n : Nat) : Int := if b then -(n : Int) else n
theorem sg_abs (b : Bool) (n : Nat) : (sg b n).natAbs = n := by cases b <;> simp [sg]
theorem sg_neg (b : Bool) (n : Nat) : decide (sg b n < 0) = (b && !decide (n = 0)) := by
 by_cases h : n = 0
 ·
  subst h; cases b <;> simp [sg]
 ·
  cases b <;> simp [sg, h] <;> omega
theorem sg_self (z : Int) : sg (decide (z < 0)) z.natAbs = z := by
 by_cases h : z < 0
 ·
  rw [decide_eq_true h]; simp only [sg, if_true]; omega
 ·
  rw [decide_eq_false h]; simp only [sg, Bool.false_eq_true, if_false]; omega
def WV (z : Int) : V := .agg [.row 1 ((nl (wg z.natAbs)).map (ie .u64)), .lit (.bool (decide (z < 0)))]
attribute [go_sem] WV
theorem WV_sg (b : Bool) (n : Nat) : WV (sg b n) = .agg [.row 1 ((nl (wg n)).map (ie .u64)), .lit (.bool (b && !decide (n = 0)))] := by
 unfold WV
 rw [sg_abs, sg_neg]
theorem wmake_fn {b : Bool} {n : Nat} (hn : (wg n).length ≤ 4000000) : Fn1 Tryz.prog 75 [.lit (.bool b), NV n] [] (WV (sg b n)) [] := by
 rw [WV_sg]
 refine fn1N_of pl75 (by kernel_rfl) Tryz.call75 Tryz.func75 rfl (by kernel_rfl) rfl [.cell 4 33] (by kernel_rfl) fun Q hQ => ?_
 cases b with
 | false =>
  rw [Bool.false_and] at hQ
  refine runW ?_
  exact endW [] hQ
 | true =>
  rw [Bool.true_and] at hQ
  refine runW ?_
  refine callV0 (zero_fn (n := n) hn) rfl rfl ?_
  refine runW ?_
  exact endW [] hQ
theorem wneg_fn {z : Int} : Fn1 Tryz.prog 46 [WV z] [] (.lit (.bool (decide (z < 0)))) [] := by
 refine fn1N_of pl46 (by kernel_rfl) Tryz.call46 Tryz.func46 rfl (by kernel_rfl) rfl [.tmp 2] (by kernel_rfl) fun Q hQ => ?_
 refine runW ?_
 exact endW [] hQ
theorem wabs_fn {z : Int} : Fn1 Tryz.prog 78 [WV z] [] (NV z.natAbs) [] := by
 refine fn1N_of pl78 (by kernel_rfl) Tryz.call78 Tryz.func78 rfl (by kernel_rfl) rfl [.cell 2 31] (by kernel_rfl) fun Q hQ => ?_
 refine runW ?_
 exact endW [] hQ
theorem wminus_fn {z : Int} (hz : (wg z.natAbs).length ≤ 4000000) : Fn1 Tryz.prog 60 [WV z] [] (WV (-z)) [] := by
 refine fn1N_of pl60 (by kernel_rfl) Tryz.call60 Tryz.func60 rfl (by kernel_rfl) rfl [.cell 2 33] (by kernel_rfl) fun Q hQ => ?_
 have hm := wmake_fn (b := !decide (z < 0)) (n := z.natAbs) hz
 have e : sg (!decide (z < 0)) z.natAbs = -z := by
  by_cases h : z < 0
  ·
   rw [decide_eq_true h]; simp only [sg, Bool.not_true, Bool.false_eq_true, if_false]; omega
  ·
   rw [decide_eq_false h]; simp only [sg, Bool.not_false, if_true]; omega
 rw [e] at hm
 refine runW ?_
 refine callV0 (hm) rfl rfl ?_
 refine runW ?_
 exact endW [] hQ
theorem wof_fn {n : Int} (h0 : -9223372036854775808 ≤ n) (h1 : n ≤ 9223372036854775807) : Fn1 Tryz.prog 39 [.lit (.int .i64 n)] [] (WV n) [] := by
 refine fn1N_of pl39 (by kernel_rfl) Tryz.call39 Tryz.func39 rfl (by kernel_rfl) rfl [.cell 2 33] (by kernel_rfl) fun Q hQ => ?_
 by_cases h : n < 0
 ·
  obtain ⟨m, rfl⟩ : ∃ m : Nat, n = -(m : Int) := ⟨n.natAbs, by omega⟩
  have k1 : IntKind.u64.wrap (-(m : Int)) = 18446744073709551616 - (m : Int) := by simp [IntKind.wrap, IntKind.bits, IntKind.signed]; omega
  have k2 : IntKind.u64.wrap (0 - (18446744073709551616 - (m : Int))) = (m : Int) := by simp [IntKind.wrap, IntKind.bits, IntKind.signed]; omega
  have ho := of1_fn (x := m) (by omega)
  have hm := wmake_fn (b := true) (n := m) (Nat.le_trans (wg_one (by omega)) (by decide))
  rw [show sg true m = -(m : Int) from rfl] at hm
  simp (maxSteps := 1000000) (disch := (first | omega | (simp only [lnA, List.length_map, List.length_range, true_and, and_true]; (try omega); done) | fail)) only [go_sem, k1, k2, Int.reduceEq, Int.reduceToNat, Nat.reduceAdd, Nat.reduceMul, Nat.reduceEqDiff, ↓reduceIte]
  refine callW [] [1] (ho) ?_
  refine runW ?_
  refine callV0 (hm) rfl rfl ?_
  refine runW ?_
  exact endW [] hQ
 ·
  obtain ⟨m, rfl⟩ : ∃ m : Nat, n = (m : Int) := ⟨n.natAbs, by omega⟩
  have ho := of1_fn (x := m) (by omega)
  have hm := wmake_fn (b := false) (n := m) (Nat.le_trans (wg_one (by omega)) (by decide))
  rw [show sg false m = (m : Int) from rfl] at hm
  refine runW ?_
  refine callW [] [1] (ho) ?_
  refine runW ?_
  refine callV0 (hm) rfl rfl ?_
  refine runW ?_
  exact endW [] hQ
def cmpZ (x y : Int) : Int := if x < y then -1 else if y < x then 1 else 0
theorem wcmp_fn {x y : Int} (hx : (wg x.natAbs).length ≤ 4000000) (hy : (wg y.natAbs).length ≤ 4000000) : Fn1 Tryz.prog 36 [WV x, WV y] [] (.lit (.int .i64 (cmpZ x y))) [] := by
 refine fn1N_of pl36 (by kernel_rfl) Tryz.call36 Tryz.func36 rfl (by kernel_rfl) rfl [.tmp 4] (by kernel_rfl) fun Q hQ => ?_
 by_cases h1 : x < 0
 ·
  by_cases h2 : y < 0
  ·
   have hc := ncmp_fn (a := y.natAbs) (b := x.natAbs) hy hx
   have e : cmpI y.natAbs x.natAbs = cmpZ x y := by unfold cmpI cmpZ; repeat' split <;> omega
   rw [e] at hc
   simp (maxSteps := 1000000) (disch := (first | omega | (simp only [lnA, List.length_map, List.length_range, true_and, and_true]; (try omega); done) | fail)) only [go_sem, decide_eq_true h1, decide_eq_true h2, Int.reduceEq, Int.reduceToNat, Nat.reduceAdd, Nat.reduceMul, Nat.reduceEqDiff, ↓reduceIte]
   refine callV0 (hc) rfl rfl ?_
   refine runW ?_
   exact endW [] hQ
  ·
   have e : cmpZ x y = -1 := by unfold cmpZ; rw [if_pos (by omega)]
   rw [e] at hQ
   simp (maxSteps := 1000000) (disch := (first | omega | (simp only [lnA, List.length_map, List.length_range, true_and, and_true]; (try omega); done) | fail)) only [go_sem, decide_eq_true h1, decide_eq_false h2, Int.reduceEq, Int.reduceToNat, Nat.reduceAdd, Nat.reduceMul, Nat.reduceEqDiff, ↓reduceIte]
   exact endW [] hQ
 ·
  by_cases h2 : y < 0
  ·
   have e : cmpZ x y = 1 := by unfold cmpZ; rw [if_neg (by omega), if_pos (by omega)]
   rw [e] at hQ
   simp (maxSteps := 1000000) (disch := (first | omega | (simp only [lnA, List.length_map, List.length_range, true_and, and_true]; (try omega); done) | fail)) only [go_sem, decide_eq_false h1, decide_eq_true h2, Int.reduceEq, Int.reduceToNat, Nat.reduceAdd, Nat.reduceMul, Nat.reduceEqDiff, ↓reduceIte]
   exact endW [] hQ
  ·
   have hc := ncmp_fn (a := x.natAbs) (b := y.natAbs) hx hy
   have e : cmpI x.natAbs y.natAbs = cmpZ x y := by unfold cmpI cmpZ; repeat' split <;> omega
   rw [e] at hc
   simp (maxSteps := 1000000) (disch := (first | omega | (simp only [lnA, List.length_map, List.length_range, true_and, and_true]; (try omega); done) | fail)) only [go_sem, decide_eq_false h1, decide_eq_false h2, Int.reduceEq, Int.reduceToNat, Nat.reduceAdd, Nat.reduceMul, Nat.reduceEqDiff, ↓reduceIte]
   refine callV0 (hc) rfl rfl ?_
   refine runW ?_
   exact endW [] hQ
theorem wadd_fn {x y : Int} (hx : (wg x.natAbs).length ≤ 1000000) (hy : (wg y.natAbs).length ≤ 1000000) : Fn1 Tryz.prog 41 [WV x, WV y] [] (WV (x + y)) [] := by
 have hla : (wg (x.natAbs + y.natAbs)).length ≤ 1000001 := dgB_len_add (B := 18446744073709551616) (by decide) hx hy
 have hm := fun b n (h : n ≤ x.natAbs + y.natAbs) => wmake_fn (b := b) (n := n) (Nat.le_trans (wg_mono h) (Nat.le_trans hla (by decide)))
 refine fn1N_of pl41 (by kernel_rfl) Tryz.call41 Tryz.func41 rfl (by kernel_rfl) rfl [.cell 4 33] (by kernel_rfl) fun Q hQ => ?_
 by_cases h1 : x < 0
 ·
  by_cases h2 : y < 0
  ·
   have hb : sg true (x.natAbs + y.natAbs) = x + y := by simp only [sg, if_true]; omega
   have hm := hm true _ (Nat.le_refl _)
   rw [hb] at hm
   simp (maxSteps := 1000000) (disch := (first | omega | (simp only [lnA, List.length_map, List.length_range, true_and, and_true]; (try omega); done) | fail)) only [go_sem, decide_eq_true h1, decide_eq_true h2, Int.reduceEq, Int.reduceToNat, Nat.reduceAdd, Nat.reduceMul, Nat.reduceEqDiff, ↓reduceIte]
   refine callV0 (nadd_fn (a := x.natAbs) (b := y.natAbs) (by omega) (by omega)) rfl rfl ?_
   refine runW ?_
   refine callV0 (hm) rfl rfl ?_
   refine runW ?_
   exact endW [] hQ
  ·
   by_cases h3 : y.natAbs ≤ x.natAbs
   ·
    have hb : sg true (x.natAbs - y.natAbs) = x + y := by simp only [sg, if_true]; omega
    have hm := hm true (x.natAbs - y.natAbs) (by omega)
    rw [hb] at hm
    simp (maxSteps := 1000000) (disch := (first | omega | (simp only [lnA, List.length_map, List.length_range, true_and, and_true]; (try omega); done) | fail)) only [go_sem, decide_eq_true h1, decide_eq_false h2, Int.reduceEq, Int.reduceToNat, Nat.reduceAdd, Nat.reduceMul, Nat.reduceEqDiff, ↓reduceIte]
    refine callV0 (nsub_fn (a := x.natAbs) (b := y.natAbs) h3 (by omega)) rfl rfl ?_
    refine runW ?_
    refine callV0 (hm) rfl rfl ?_
    refine runW ?_
    exact endW [] hQ
   ·
    have hb : sg false (y.natAbs - x.natAbs) = x + y := by simp only [sg, Bool.false_eq_true, if_false]; omega
    have hm := hm false (y.natAbs - x.natAbs) (by omega)
    rw [hb] at hm
    simp (maxSteps := 1000000) (disch := (first | omega | (simp only [lnA, List.length_map, List.length_range, true_and, and_true]; (try omega); done) | fail)) only [go_sem, decide_eq_true h1, decide_eq_false h2, Int.reduceEq, Int.reduceToNat, Nat.reduceAdd, Nat.reduceMul, Nat.reduceEqDiff, ↓reduceIte]
    refine callV0 (nsubE_fn (a := x.natAbs) (b := y.natAbs) (by omega) (by omega) (by omega)) rfl rfl ?_
    refine runW ?_
    refine callV0 (nsub_fn (a := y.natAbs) (b := x.natAbs) (by omega) (by omega)) rfl rfl ?_
    refine runW ?_
    refine callV0 (hm) rfl rfl ?_
    refine runW ?_
    exact endW [] hQ
 ·
  by_cases h2 : y < 0
  ·
   by_cases h3 : y.natAbs ≤ x.natAbs
   ·
    have hb : sg false (x.natAbs - y.natAbs) = x + y := by simp only [sg, Bool.false_eq_true, if_false]; omega
    have hm := hm false (x.natAbs - y.natAbs) (by omega)
    rw [hb] at hm
    simp (maxSteps := 1000000) (disch := (first | omega | (simp only [lnA, List.length_map, List.length_range, true_and, and_true]; (try omega); done) | fail)) only [go_sem, decide_eq_false h1, decide_eq_true h2, Int.reduceEq, Int.reduceToNat, Nat.reduceAdd, Nat.reduceMul, Nat.reduceEqDiff, ↓reduceIte]
    refine callV0 (nsub_fn (a := x.natAbs) (b := y.natAbs) h3 (by omega)) rfl rfl ?_
    refine runW ?_
    refine callV0 (hm) rfl rfl ?_
    refine runW ?_
    exact endW [] hQ
   ·
    have hb : sg true (y.natAbs - x.natAbs) = x + y := by simp only [sg, if_true]; omega
    have hm := hm true (y.natAbs - x.natAbs) (by omega)
    rw [hb] at hm
    simp (maxSteps := 1000000) (disch := (first | omega | (simp only [lnA, List.length_map, List.length_range, true_and, and_true]; (try omega); done) | fail)) only [go_sem, decide_eq_false h1, decide_eq_true h2, Int.reduceEq, Int.reduceToNat, Nat.reduceAdd, Nat.reduceMul, Nat.reduceEqDiff, ↓reduceIte]
    refine callV0 (nsubE_fn (a := x.natAbs) (b := y.natAbs) (by omega) (by omega) (by omega)) rfl rfl ?_
    refine runW ?_
    refine callV0 (nsub_fn (a := y.natAbs) (b := x.natAbs) (by omega) (by omega)) rfl rfl ?_
    refine runW ?_
    refine callV0 (hm) rfl rfl ?_
    refine runW ?_
    exact endW [] hQ
  ·
   have hb : sg false (x.natAbs + y.natAbs) = x + y := by simp only [sg, Bool.false_eq_true, if_false]; omega
   have hm := hm false _ (Nat.le_refl _)
   rw [hb] at hm
   simp (maxSteps := 1000000) (disch := (first | omega | (simp only [lnA, List.length_map, List.length_range, true_and, and_true]; (try omega); done) | fail)) only [go_sem, decide_eq_false h1, decide_eq_false h2, Int.reduceEq, Int.reduceToNat, Nat.reduceAdd, Nat.reduceMul, Nat.reduceEqDiff, ↓reduceIte]
   refine callV0 (nadd_fn (a := x.natAbs) (b := y.natAbs) (by omega) (by omega)) rfl rfl ?_
   refine runW ?_
   refine callV0 (hm) rfl rfl ?_
   refine runW ?_
   exact endW [] hQ
theorem sg_mul (b c : Bool) (m n : Nat) : sg (!(b == c)) (m * n) = sg b m * sg c n := by
 cases b <;> cases c <;> simp [sg, Int.neg_mul, Int.mul_neg]
theorem wmul_fn {x y : Int} (hx : (wg x.natAbs).length ≤ 1000000) (hy : (wg y.natAbs).length ≤ 1000000) : Fn1 Tryz.prog 37 [WV x, WV y] [] (WV (x * y)) [] := by
 have hla : (wg (x.natAbs * y.natAbs)).length ≤ 2000000 := Nat.le_trans (dgB_len_mul (B := 18446744073709551616) (by decide) _ _) (Nat.add_le_add hx hy)
 have hm := wmake_fn (b := !(decide (x < 0) == decide (y < 0))) (n := x.natAbs * y.natAbs) (by omega)
 rw [sg_mul, sg_self, sg_self] at hm
 refine fn1N_of pl37 (by kernel_rfl) Tryz.call37 Tryz.func37 rfl (by kernel_rfl) rfl [.cell 4 33] (by kernel_rfl) fun Q hQ => ?_
 refine runW ?_
 refine callV0 (nmul_fn (a := x.natAbs) (b := y.natAbs) hx hy) rfl rfl ?_
 refine runW ?_
 refine callV0 (hm) rfl rfl ?_
 refine runW ?_
 exact endW [] hQ
theorem ediv_pos {X Y : Nat} (hY : Y ≠ 0) : ((X : Int) / (Y : Int) = ((X / Y : Nat) : Int)) ∧ ((X : Int) % (Y : Int) = ((X % Y : Nat) : Int)) := ⟨by simp, by simp⟩
theorem ediv_neg0 {X Y : Nat} (hY : Y ≠ 0) (h : X % Y = 0) : (-(X : Int) / (Y : Int) = -((X / Y : Nat) : Int)) ∧ (-(X : Int) % (Y : Int) = 0) := by
 have hd := Nat.div_add_mod X Y
 refine (Int.ediv_emod_unique (by omega)).2 ⟨?_, by omega, by omega⟩
 rw [h, Nat.add_zero] at hd
 conv => rhs; rw [← hd]
 rw [Int.mul_neg, Int.natCast_mul]; omega
theorem ediv_neg1 {X Y : Nat} (hY : Y ≠ 0) (h : X % Y ≠ 0) : (-(X : Int) / (Y : Int) = -((X / Y + 1 : Nat) : Int)) ∧ (-(X : Int) % (Y : Int) = ((Y - X % Y : Nat) : Int)) := by
 have hd := Nat.div_add_mod X Y
 have hm := Nat.mod_lt X (Nat.pos_of_ne_zero hY)
 refine (Int.ediv_emod_unique (by omega)).2 ⟨?_, by omega, by omega⟩
 conv => rhs; rw [← hd]
 generalize X % Y = r at *
 generalize X / Y = q at *
 rw [Int.mul_neg, Int.natCast_add, Int.natCast_add, Int.natCast_mul, Int.mul_add]
 generalize (Y : Int) * (q : Int) = u
 omega
theorem ediv_sgn (x : Int) (c : Bool) (Y : Nat) : x / sg c Y = (if c then -(x / (Y : Int)) else x / (Y : Int)) ∧ x % sg c Y = x % (Y : Int) := by
 cases c <;> simp [sg, Int.ediv_neg, Int.emod_neg]
theorem wdiv_fn {x y : Int} (hy0 : y ≠ 0) (hx : (wg x.natAbs).length ≤ 999998) (hy : (wg y.natAbs).length ≤ 999998) : Fn1 Tryz.prog 112 [WV x, WV y] [] (.tup [WV (x / y), WV (x % y), .lit (.int .i64 0)]) [] := by
 have hY : y.natAbs ≠ 0 := by omega
 have hs := ediv_sgn x (decide (y < 0)) y.natAbs
 rw [sg_self] at hs
 have hql : (wg (x.natAbs / y.natAbs)).length ≤ 999998 := Nat.le_trans (wg_mono (Nat.div_le_self _ _)) hx
 have h1l : (wg 1).length ≤ 999998 := Nat.le_trans (wg_one (by decide)) (by decide)
 have hql1 : (wg (x.natAbs / y.natAbs + 1)).length ≤ 999999 := dgB_len_add (B := 18446744073709551616) (by decide) hql h1l
 have hmod := Nat.mod_lt x.natAbs (Nat.pos_of_ne_zero hY)
 have hrl : (wg (x.natAbs % y.natAbs)).length ≤ 999998 := Nat.le_trans (wg_mono (by omega)) hy
 have hrl1 : (wg (y.natAbs - x.natAbs % y.natAbs)).length ≤ 999998 := Nat.le_trans (wg_mono (by omega)) hy
 have ho := of1_fn (x := 1) (by decide)
 have hdv := ndiv_fn (a := x.natAbs) (b := y.natAbs) hY (by omega) (by omega)
 have hp := ediv_pos (X := x.natAbs) hY
 have hn0 := fun h => ediv_neg0 (X := x.natAbs) (Y := y.natAbs) hY h
 have hn1 := fun h => ediv_neg1 (X := x.natAbs) (Y := y.natAbs) hY h
 have hxs := sg_self x
 generalize x.natAbs / y.natAbs = q at *
 generalize x.natAbs % y.natAbs = r at *
 have hmq := fun b => wmake_fn (b := b) (n := q) (by omega)
 have hmq1 := fun b => wmake_fn (b := b) (n := q + 1) (by omega)
 have hmr := wmake_fn (b := false) (n := r) (by omega)
 have hmr1 := wmake_fn (b := false) (n := y.natAbs - r) (by omega)
 rw [show sg false r = (r : Int) from rfl] at hmr
 rw [show sg false (y.natAbs - r) = ((y.natAbs - r : Nat) : Int) from rfl] at hmr1
 refine fn1N_of pl112 (by kernel_rfl) Tryz.call112 Tryz.func112 rfl (by kernel_rfl) rfl [.cell 4 33, .cell 5 33, .tmp 6] (by kernel_rfl) fun Q hQ => ?_
 rw [hs.1, hs.2] at hQ
 refine runW ?_
 refine callV0 (hdv) rfl rfl ?_
 by_cases h : x < 0
 ·
  have hxe : x = -(x.natAbs : Int) := by omega
  rw [← hxe] at hn0 hn1
  by_cases hr : r = 0
  ·
   rw [(hn0 hr).1, (hn0 hr).2] at hQ
   have e : (if decide (y < 0) = true then -(-(q : Int)) else -(q : Int)) = sg (!decide (y < 0)) q := by cases decide (y < 0) <;> simp [sg]
   have e0 : WV 0 = WV ((r : Nat) : Int) := by rw [hr]; rfl
   rw [e, e0] at hQ
   simp (maxSteps := 1000000) (disch := (first | omega | (simp only [lnA, List.length_map, List.length_range, true_and, and_true]; (try omega); done) | fail)) only [go_sem, decide_eq_true h, Int.reduceEq, Int.reduceToNat, Nat.reduceAdd, Nat.reduceMul, Nat.reduceEqDiff, ↓reduceIte]
   refine callV0 (zero_fn (n := r) (by omega)) rfl rfl ?_
   rw [decide_eq_true hr]
   refine runW ?_
   refine callV0 (hmq (!decide (y < 0))) rfl rfl ?_
   refine runW ?_
   refine callV0 (hmr) rfl rfl ?_
   refine runW ?_
   exact endW [] hQ
  ·
   rw [(hn1 hr).1, (hn1 hr).2] at hQ
   have e : (if decide (y < 0) = true then -(-((q + 1 : Nat) : Int)) else -((q + 1 : Nat) : Int)) = sg (!decide (y < 0)) (q + 1) := by cases decide (y < 0) <;> simp [sg] <;> omega
   rw [e] at hQ
   simp (maxSteps := 1000000) (disch := (first | omega | (simp only [lnA, List.length_map, List.length_range, true_and, and_true]; (try omega); done) | fail)) only [go_sem, decide_eq_true h, Int.reduceEq, Int.reduceToNat, Nat.reduceAdd, Nat.reduceMul, Nat.reduceEqDiff, ↓reduceIte]
   refine callV0 (zero_fn (n := r) (by omega)) rfl rfl ?_
   rw [decide_eq_false hr]
   refine runW ?_
   refine callW [] [6] (ho) ?_
   refine runW ?_
   refine callV0 (nadd_fn (a := q) (b := 1) (by omega) (by omega)) rfl rfl ?_
   refine runW ?_
   refine callV0 (nsub_fn (a := y.natAbs) (b := r) (by omega) (by omega)) rfl rfl ?_
   refine runW ?_
   refine callV0 (hmq1 (!decide (y < 0))) rfl rfl ?_
   refine runW ?_
   refine callV0 (hmr1) rfl rfl ?_
   refine runW ?_
   exact endW [] hQ
 ·
  have hxe : x = (x.natAbs : Int) := by omega
  rw [← hxe] at hp
  rw [hp.1, hp.2] at hQ
  have e : (if decide (y < 0) = true then -(q : Int) else (q : Int)) = sg (decide (y < 0)) q := by cases decide (y < 0) <;> simp [sg]
  rw [e] at hQ
  simp (maxSteps := 1000000) (disch := (first | omega | (simp only [lnA, List.length_map, List.length_range, true_and, and_true]; (try omega); done) | fail)) only [go_sem, decide_eq_false h, Int.reduceEq, Int.reduceToNat, Nat.reduceAdd, Nat.reduceMul, Nat.reduceEqDiff, ↓reduceIte]
  refine callV0 (hmq (decide (y < 0))) rfl rfl ?_
  refine runW ?_
  refine callV0 (hmr) rfl rfl ?_
  refine runW ?_
  exact endW [] hQ
end Go.Proofs.YtdohmppildfjhaaGreatDoor
