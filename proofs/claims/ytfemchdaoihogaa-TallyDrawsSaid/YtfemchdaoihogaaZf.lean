import Derived.Test.YtfemchdaoihogaaZe
import Derived.Test.YtfemchdaoihogaaFa
/-! Package rat: quotients, floors; flip.Chance. -/
namespace Go.Proofs.Ytfemchdaoihogaa
open Go.Eng Go.Vx
set_option linter.unusedSimpArgs false
set_option linter.unusedVariables false
set_option maxRecDepth 100000
theorem rat_div_eq {x y : Rat} : ((x.num * (y.den : Int) : Int) : Rat) / ((y.num * (x.den : Int) : Int) : Rat) = x / y := by
  rw [← Rat.divInt_eq_div, Rat.div_def x y, Rat.inv_def]
  conv => rhs; rw [← Rat.num_divInt_den x]
  rw [Rat.divInt_mul_divInt, Int.mul_comm y.num]
theorem rat_num_ne {y : Rat} (h : y ≠ 0) : y.num ≠ 0 := fun e => h (Rat.num_eq_zero.1 e)
theorem WV_zero : WV 0 = .agg [.row 1 [], .lit (.bool false)] := by
  unfold WV
  rw [show (0 : Int).natAbs = 0 from rfl, wg_zero]
  rfl
theorem rdiv0_fn {x : Rat} (hx : RS 400000 x) : Fn1 Try.prog 86 [RV x, RV 0] [] (.tup [RV 0, .lit (.int .i64 7)]) [] := by
  obtain ⟨hx1, hx2⟩ := hx
  have z0 : (wg (0 : Int).natAbs).length ≤ 0 := by rw [show (0 : Int).natAbs = 0 from rfl, wg_zero]; exact Nat.le_refl _
  have d1 : (wg (0 : Rat).den).length ≤ 400000 := Nat.le_trans (wg_one (by decide)) (by decide)
  have hm1 := wmul_fn (x := x.num) (y := ((0 : Rat).den : Int)) (by omega) (by simp only [Int.natAbs_natCast]; omega)
  have hm2 := wmul_fn (x := 0) (y := (x.den : Int)) (by omega) (by simp only [Int.natAbs_natCast]; omega)
  rw [Int.zero_mul] at hm2
  have hr := rfrac0_fn (p := x.num * ((0 : Rat).den : Int))
  have hdw := rdenw_fn (x := 0) (by omega)
  rw [RV_zero] at hr hdw ⊢
  rw [WV_zero] at hr hm2
  refine fn1_of pl86 (by kernel_rfl) Try.call86 Try.func86 rfl (by kernel_rfl) rfl [.cell 4 48, .tmp 5] (by kernel_rfl) fun Q hQ => ?_
  simp (maxSteps := 1000000) (disch := (first | omega | (simp only [List.length_append, List.length_set, List.length_cons, List.length_nil, List.length_replicate, List.length_take, List.length_drop, List.length_map, List.length_range, true_and, and_true]; (try omega); done) | fail)) only [go_sem, Int.reduceEq, Int.reduceToNat, Nat.reduceAdd, Nat.reduceMul, Nat.reduceEqDiff, ↓reduceIte]
  refine callV0 (hdw) rfl rfl ?_
  simp (maxSteps := 1000000) (disch := (first | omega | (simp only [List.length_append, List.length_set, List.length_cons, List.length_nil, List.length_replicate, List.length_take, List.length_drop, List.length_map, List.length_range, true_and, and_true]; (try omega); done) | fail)) only [go_sem, Int.reduceEq, Int.reduceToNat, Nat.reduceAdd, Nat.reduceMul, Nat.reduceEqDiff, ↓reduceIte]
  refine callV0 (hm1) rfl rfl ?_
  simp (maxSteps := 1000000) (disch := (first | omega | (simp only [List.length_append, List.length_set, List.length_cons, List.length_nil, List.length_replicate, List.length_take, List.length_drop, List.length_map, List.length_range, true_and, and_true]; (try omega); done) | fail)) only [go_sem, Int.reduceEq, Int.reduceToNat, Nat.reduceAdd, Nat.reduceMul, Nat.reduceEqDiff, ↓reduceIte]
  refine callV0 (rdenw_fn (x := x) (by omega)) rfl rfl ?_
  simp (maxSteps := 1000000) (disch := (first | omega | (simp only [List.length_append, List.length_set, List.length_cons, List.length_nil, List.length_replicate, List.length_take, List.length_drop, List.length_map, List.length_range, true_and, and_true]; (try omega); done) | fail)) only [go_sem, Int.reduceEq, Int.reduceToNat, Nat.reduceAdd, Nat.reduceMul, Nat.reduceEqDiff, ↓reduceIte]
  refine callW [] [] (hm2) ?_
  simp (maxSteps := 1000000) (disch := (first | omega | (simp only [List.length_append, List.length_set, List.length_cons, List.length_nil, List.length_replicate, List.length_take, List.length_drop, List.length_map, List.length_range, true_and, and_true]; (try omega); done) | fail)) only [go_sem, Int.reduceEq, Int.reduceToNat, Nat.reduceAdd, Nat.reduceMul, Nat.reduceEqDiff, ↓reduceIte]
  refine callV0 (hr) rfl rfl ?_
  simp (maxSteps := 1000000) (disch := (first | omega | (simp only [List.length_append, List.length_set, List.length_cons, List.length_nil, List.length_replicate, List.length_take, List.length_drop, List.length_map, List.length_range, true_and, and_true]; (try omega); done) | fail)) only [go_sem, Int.reduceEq, Int.reduceToNat, Nat.reduceAdd, Nat.reduceMul, Nat.reduceEqDiff, ↓reduceIte]
  exact endW [] hQ
theorem rdiv_fn {x y : Rat} (hy0 : y ≠ 0) (hx : RS 400000 x) (hy : RS 400000 y) : Fn1 Try.prog 86 [RV x, RV y] [] (.tup [RV (x / y), .lit (.int .i64 0)]) [] := by
  obtain ⟨hx1, hx2⟩ := hx
  obtain ⟨hy1, hy2⟩ := hy
  have hm1 := wmul_fn (x := x.num) (y := (y.den : Int)) (by omega) (by simp only [Int.natAbs_natCast]; omega)
  have hm2 := wmul_fn (x := y.num) (y := (x.den : Int)) (by omega) (by simp only [Int.natAbs_natCast]; omega)
  have hl1 := len_mulZ (x := x.num) (y := (y.den : Int)) hx1 (by simp only [Int.natAbs_natCast]; exact hy2)
  have hl2 := len_mulZ (x := y.num) (y := (x.den : Int)) hy1 (by simp only [Int.natAbs_natCast]; exact hx2)
  have hn0 : y.num * (x.den : Int) ≠ 0 := Int.mul_ne_zero (rat_num_ne hy0) (by have := x.den_nz; omega)
  have hr := rfrac_fn (p := x.num * (y.den : Int)) (q := y.num * (x.den : Int)) hn0 (by omega) (by omega)
  rw [rat_div_eq] at hr
  refine fn1_of pl86 (by kernel_rfl) Try.call86 Try.func86 rfl (by kernel_rfl) rfl [.cell 4 48, .tmp 5] (by kernel_rfl) fun Q hQ => ?_
  simp (maxSteps := 1000000) (disch := (first | omega | (simp only [List.length_append, List.length_set, List.length_cons, List.length_nil, List.length_replicate, List.length_take, List.length_drop, List.length_map, List.length_range, true_and, and_true]; (try omega); done) | fail)) only [go_sem, Int.reduceEq, Int.reduceToNat, Nat.reduceAdd, Nat.reduceMul, Nat.reduceEqDiff, ↓reduceIte]
  refine callV0 (rdenw_fn (x := y) (by omega)) rfl rfl ?_
  simp (maxSteps := 1000000) (disch := (first | omega | (simp only [List.length_append, List.length_set, List.length_cons, List.length_nil, List.length_replicate, List.length_take, List.length_drop, List.length_map, List.length_range, true_and, and_true]; (try omega); done) | fail)) only [go_sem, Int.reduceEq, Int.reduceToNat, Nat.reduceAdd, Nat.reduceMul, Nat.reduceEqDiff, ↓reduceIte]
  refine callV0 (hm1) rfl rfl ?_
  simp (maxSteps := 1000000) (disch := (first | omega | (simp only [List.length_append, List.length_set, List.length_cons, List.length_nil, List.length_replicate, List.length_take, List.length_drop, List.length_map, List.length_range, true_and, and_true]; (try omega); done) | fail)) only [go_sem, Int.reduceEq, Int.reduceToNat, Nat.reduceAdd, Nat.reduceMul, Nat.reduceEqDiff, ↓reduceIte]
  refine callV0 (rdenw_fn (x := x) (by omega)) rfl rfl ?_
  simp (maxSteps := 1000000) (disch := (first | omega | (simp only [List.length_append, List.length_set, List.length_cons, List.length_nil, List.length_replicate, List.length_take, List.length_drop, List.length_map, List.length_range, true_and, and_true]; (try omega); done) | fail)) only [go_sem, Int.reduceEq, Int.reduceToNat, Nat.reduceAdd, Nat.reduceMul, Nat.reduceEqDiff, ↓reduceIte]
  refine callV0 (hm2) rfl rfl ?_
  simp (maxSteps := 1000000) (disch := (first | omega | (simp only [List.length_append, List.length_set, List.length_cons, List.length_nil, List.length_replicate, List.length_take, List.length_drop, List.length_map, List.length_range, true_and, and_true]; (try omega); done) | fail)) only [go_sem, Int.reduceEq, Int.reduceToNat, Nat.reduceAdd, Nat.reduceMul, Nat.reduceEqDiff, ↓reduceIte]
  refine callV0 (hr) rfl rfl ?_
  simp (maxSteps := 1000000) (disch := (first | omega | (simp only [List.length_append, List.length_set, List.length_cons, List.length_nil, List.length_replicate, List.length_take, List.length_drop, List.length_map, List.length_range, true_and, and_true]; (try omega); done) | fail)) only [go_sem, Int.reduceEq, Int.reduceToNat, Nat.reduceAdd, Nat.reduceMul, Nat.reduceEqDiff, ↓reduceIte]
  exact endW [] hQ
theorem RS_div {k l : Nat} {x y : Rat} (hk : 1 ≤ k + l) (hx : RS k x) (hy : RS l y) : RS (k + l) (x / y) := by
  by_cases h : y = 0
  · subst h
    have e : x / 0 = 0 := by rw [Rat.div_def, Rat.inv_zero, Rat.mul_zero]
    rw [e]
    exact ⟨by rw [show (0 : Rat).num.natAbs = 0 from rfl, wg_zero]; exact Nat.zero_le _, Nat.le_trans (wg_one (by decide)) hk⟩
  · have hn0 : y.num * (x.den : Int) ≠ 0 := Int.mul_ne_zero (rat_num_ne h) (by have := x.den_nz; omega)
    rw [← rat_div_eq, ← frac_eq hn0]
    refine RS_mk (by omega) ?_ ?_
    · rw [sg_abs]
      exact len_mulZ hx.1 (by simp only [Int.natAbs_natCast]; exact hy.2)
    · have := len_mulZ (x := y.num) (y := (x.den : Int)) hy.1 (by simp only [Int.natAbs_natCast]; exact hx.2)
      omega
theorem rfloor_fn {x : Rat} (hx : RS 400000 x) : Fn1 Try.prog 63 [RV x] [] (WV x.floor) [] := by
  obtain ⟨hx1, hx2⟩ := hx
  have hd := wdiv_fn (x := x.num) (y := (x.den : Int)) (by have := x.den_nz; omega) (by omega) (by simp only [Int.natAbs_natCast]; omega)
  rw [← Rat.floor_def] at hd
  refine fn1_of pl63 (by kernel_rfl) Try.call63 Try.func63 rfl (by kernel_rfl) rfl [.cell 2 46] (by kernel_rfl) fun Q hQ => ?_
  simp (maxSteps := 1000000) (disch := (first | omega | (simp only [List.length_append, List.length_set, List.length_cons, List.length_nil, List.length_replicate, List.length_take, List.length_drop, List.length_map, List.length_range, true_and, and_true]; (try omega); done) | fail)) only [go_sem, Int.reduceEq, Int.reduceToNat, Nat.reduceAdd, Nat.reduceMul, Nat.reduceEqDiff, ↓reduceIte]
  refine callV0 (rdenw_fn (x := x) (by omega)) rfl rfl ?_
  simp (maxSteps := 1000000) (disch := (first | omega | (simp only [List.length_append, List.length_set, List.length_cons, List.length_nil, List.length_replicate, List.length_take, List.length_drop, List.length_map, List.length_range, true_and, and_true]; (try omega); done) | fail)) only [go_sem, Int.reduceEq, Int.reduceToNat, Nat.reduceAdd, Nat.reduceMul, Nat.reduceEqDiff, ↓reduceIte]
  refine callV0 (hd) rfl rfl ?_
  simp (maxSteps := 1000000) (disch := (first | omega | (simp only [List.length_append, List.length_set, List.length_cons, List.length_nil, List.length_replicate, List.length_take, List.length_drop, List.length_map, List.length_range, true_and, and_true]; (try omega); done) | fail)) only [go_sem, Int.reduceEq, Int.reduceToNat, Nat.reduceAdd, Nat.reduceMul, Nat.reduceEqDiff, ↓reduceIte]
  exact endW [] hQ
theorem nint_fn {n M : Nat} {m : Int} (hm : max 0 m = (M : Int)) (hM : M ≤ 9223372036854775807) (hn : (wg n).length ≤ 1000000) : Fn1 Try.prog 65 [NV n, .lit (.int .i64 m)] [] (.lit (.int .i64 ((min n M : Nat) : Int))) [] := by
  refine fn1_of pl65 (by kernel_rfl) Try.call65 Try.func65 rfl (by kernel_rfl) rfl [.tmp 4] (by kernel_rfl) fun Q hQ => ?_
  have hnl := nl_len (wg n)
  by_cases h1 : 1 < (wg n).length
  · have hgt : 18446744073709551616 ≤ n := by
      refine Classical.byContradiction fun h => ?_
      have := wg_one (n := n) (by omega)
      omega
    rw [show min n M = M by omega] at hQ
    have hc : decide ((1 : Int) < ((nl (wg n)).length : Int)) = true := decide_eq_true (by omega)
    simp (maxSteps := 1000000) (disch := (first | omega | (simp only [List.length_append, List.length_set, List.length_cons, List.length_nil, List.length_replicate, List.length_take, List.length_drop, List.length_map, List.length_range, true_and, and_true]; (try omega); done) | fail)) only [go_sem, hm, hc, Int.reduceEq, Int.reduceToNat, Nat.reduceAdd, Nat.reduceMul, Nat.reduceEqDiff, ↓reduceIte]
    exact endW [] hQ
  · have hc : decide ((1 : Int) < ((nl (wg n)).length : Int)) = false := decide_eq_false (by omega)
    by_cases h0 : n = 0
    · subst h0
      rw [wg_zero] at hnl
      rw [show min 0 M = 0 by omega] at hQ
      have hz := zero_fn (n := 0) (by rw [wg_zero]; decide)
      rw [NV_zero] at hz
      simp (maxSteps := 1000000) (disch := (first | omega | (simp only [List.length_append, List.length_set, List.length_cons, List.length_nil, List.length_replicate, List.length_take, List.length_drop, List.length_map, List.length_range, true_and, and_true]; (try omega); done) | fail)) only [go_sem, hm, wg_zero, Int.reduceEq, Int.reduceToNat, Nat.reduceAdd, Nat.reduceMul, Nat.reduceEqDiff, ↓reduceIte]
      refine callV0 (hz) rfl rfl ?_
      simp (maxSteps := 1000000) (disch := (first | omega | (simp only [List.length_append, List.length_set, List.length_cons, List.length_nil, List.length_replicate, List.length_take, List.length_drop, List.length_map, List.length_range, true_and, and_true]; (try omega); done) | fail)) only [go_sem, Int.reduceEq, Int.reduceToNat, Nat.reduceAdd, Nat.reduceMul, Nat.reduceEqDiff, ↓reduceIte]
      exact endW [] hQ
    · have h2 : (wg n).length = 1 := by have := wg_of_pos h0; omega
      have hw := wg_of_one h2
      have hlt : n < 18446744073709551616 := wg_lt n n (by rw [hw]; simp)
      have hn1 : nl (wg n) = [(n : Int)] := by rw [hw]; rfl
      by_cases hle : M < n
      · rw [show min n M = M by omega] at hQ
        simp (maxSteps := 1000000) (disch := (first | omega | (simp only [List.length_append, List.length_set, List.length_cons, List.length_nil, List.length_replicate, List.length_take, List.length_drop, List.length_map, List.length_range, true_and, and_true]; (try omega); done) | fail)) only [go_sem, hm, hn1, Int.reduceEq, Int.reduceToNat, Nat.reduceAdd, Nat.reduceMul, Nat.reduceEqDiff, ↓reduceIte]
        exact endW [] hQ
      · rw [show min n M = n by omega] at hQ
        have hz := zero_fn (n := n) (by omega)
        rw [decide_eq_false h0] at hz
        unfold NV at hz
        rw [hn1] at hz
        simp (maxSteps := 1000000) (disch := (first | omega | (simp only [List.length_append, List.length_set, List.length_cons, List.length_nil, List.length_replicate, List.length_take, List.length_drop, List.length_map, List.length_range, true_and, and_true]; (try omega); done) | fail)) only [go_sem, hm, hn1, Int.reduceEq, Int.reduceToNat, Nat.reduceAdd, Nat.reduceMul, Nat.reduceEqDiff, ↓reduceIte]
        refine callV0 (hz) rfl rfl ?_
        simp (maxSteps := 1000000) (disch := (first | omega | (simp only [List.length_append, List.length_set, List.length_cons, List.length_nil, List.length_replicate, List.length_take, List.length_drop, List.length_map, List.length_range, true_and, and_true]; (try omega); done) | fail)) only [go_sem, Int.reduceEq, Int.reduceToNat, Nat.reduceAdd, Nat.reduceMul, Nat.reduceEqDiff, ↓reduceIte]
        exact endW [] hQ
theorem chanceE_fn {x : Rat} {L : List Bool} {p : Nat} (hx : x.num < 0) : Fn1 Try.prog 21 [.ref 0 0 0 0, RV x] [some (tpC L p false)] (.tup [.lit (.bool false), .lit (.int .i64 2)]) [some (tpC L p false)] := by
  refine fn1_of pl21 (by kernel_rfl) Try.call21 Try.func21 rfl (by kernel_rfl) rfl [.tmp 4, .tmp 5] (by kernel_rfl) fun Q hQ => ?_
  simp (maxSteps := 1000000) (disch := (first | omega | (simp only [List.length_append, List.length_set, List.length_cons, List.length_nil, List.length_replicate, List.length_take, List.length_drop, List.length_map, List.length_range, true_and, and_true]; (try omega); done) | fail)) only [go_sem, Int.reduceEq, Int.reduceToNat, Nat.reduceAdd, Nat.reduceMul, Nat.reduceEqDiff, ↓reduceIte]
  refine callV0 (rnum_fn (x := x)) rfl rfl ?_
  simp (maxSteps := 1000000) (disch := (first | omega | (simp only [List.length_append, List.length_set, List.length_cons, List.length_nil, List.length_replicate, List.length_take, List.length_drop, List.length_map, List.length_range, true_and, and_true]; (try omega); done) | fail)) only [go_sem, Int.reduceEq, Int.reduceToNat, Nat.reduceAdd, Nat.reduceMul, Nat.reduceEqDiff, ↓reduceIte]
  refine callV0 (wneg_fn (z := x.num)) rfl rfl ?_
  simp (maxSteps := 1000000) (disch := (first | omega | (simp only [List.length_append, List.length_set, List.length_cons, List.length_nil, List.length_replicate, List.length_take, List.length_drop, List.length_map, List.length_range, true_and, and_true]; (try omega); done) | fail)) only [go_sem, decide_eq_true hx, Int.reduceEq, Int.reduceToNat, Nat.reduceAdd, Nat.reduceMul, Nat.reduceEqDiff, ↓reduceIte]
  exact endW [some 0] hQ
theorem chanceG_fn {x : Rat} {L : List Bool} {p p' : Nat} {d d' r1 : Bool} {r2 : Int} (hx : ¬ x.num < 0) (hs : RS 400000 x)
    (hr : Fn1 Try.prog 14 [.ref 0 0 0 0, NV x.num.natAbs, NV x.den] [some (tpC L p d)] (.tup [.lit (.bool r1), .lit (.int .i64 r2)]) [some (tpC L p' d')]) :
    Fn1 Try.prog 21 [.ref 0 0 0 0, RV x] [some (tpC L p d)] (.tup [.lit (.bool r1), .lit (.int .i64 r2)]) [some (tpC L p' d')] := by
  obtain ⟨hs1, hs2⟩ := hs
  have e : RV x = .agg [.row 1 ((nl (wg x.num.natAbs)).map (ie .u64)), .lit (.bool false), .row 1 ((nl (wg (x.den - 1))).map (ie .u64))] := by unfold RV; rw [decide_eq_false hx]
  have ew : WV x.num = .agg [.row 1 ((nl (wg x.num.natAbs)).map (ie .u64)), .lit (.bool false)] := by unfold WV; rw [decide_eq_false hx]
  have h1 := rnum_fn (x := x)
  have h2 := wneg_fn (z := x.num)
  have h3 := wabs_fn (z := x.num)
  have h4 := rden_fn (x := x) (by omega)
  rw [e] at h1 h4 ⊢
  rw [ew] at h1 h2 h3
  rw [decide_eq_false hx] at h2
  refine fn1_of pl21 (by kernel_rfl) Try.call21 Try.func21 rfl (by kernel_rfl) rfl [.tmp 4, .tmp 5] (by kernel_rfl) fun Q hQ => ?_
  simp (maxSteps := 1000000) (disch := (first | omega | (simp only [List.length_append, List.length_set, List.length_cons, List.length_nil, List.length_replicate, List.length_take, List.length_drop, List.length_map, List.length_range, true_and, and_true]; (try omega); done) | fail)) only [go_sem, Int.reduceEq, Int.reduceToNat, Nat.reduceAdd, Nat.reduceMul, Nat.reduceEqDiff, ↓reduceIte]
  refine callV0 (h1) rfl rfl ?_
  simp (maxSteps := 1000000) (disch := (first | omega | (simp only [List.length_append, List.length_set, List.length_cons, List.length_nil, List.length_replicate, List.length_take, List.length_drop, List.length_map, List.length_range, true_and, and_true]; (try omega); done) | fail)) only [go_sem, Int.reduceEq, Int.reduceToNat, Nat.reduceAdd, Nat.reduceMul, Nat.reduceEqDiff, ↓reduceIte]
  refine callV0 (h2) rfl rfl ?_
  simp (maxSteps := 1000000) (disch := (first | omega | (simp only [List.length_append, List.length_set, List.length_cons, List.length_nil, List.length_replicate, List.length_take, List.length_drop, List.length_map, List.length_range, true_and, and_true]; (try omega); done) | fail)) only [go_sem, Int.reduceEq, Int.reduceToNat, Nat.reduceAdd, Nat.reduceMul, Nat.reduceEqDiff, ↓reduceIte]
  refine callV0 (h1) rfl rfl ?_
  simp (maxSteps := 1000000) (disch := (first | omega | (simp only [List.length_append, List.length_set, List.length_cons, List.length_nil, List.length_replicate, List.length_take, List.length_drop, List.length_map, List.length_range, true_and, and_true]; (try omega); done) | fail)) only [go_sem, Int.reduceEq, Int.reduceToNat, Nat.reduceAdd, Nat.reduceMul, Nat.reduceEqDiff, ↓reduceIte]
  refine callV0 (h3) rfl rfl ?_
  simp (maxSteps := 1000000) (disch := (first | omega | (simp only [List.length_append, List.length_set, List.length_cons, List.length_nil, List.length_replicate, List.length_take, List.length_drop, List.length_map, List.length_range, true_and, and_true]; (try omega); done) | fail)) only [go_sem, Int.reduceEq, Int.reduceToNat, Nat.reduceAdd, Nat.reduceMul, Nat.reduceEqDiff, ↓reduceIte]
  refine callV0 (h4) rfl rfl ?_
  simp (maxSteps := 1000000) (disch := (first | omega | (simp only [List.length_append, List.length_set, List.length_cons, List.length_nil, List.length_replicate, List.length_take, List.length_drop, List.length_map, List.length_range, true_and, and_true]; (try omega); done) | fail)) only [go_sem, Int.reduceEq, Int.reduceToNat, Nat.reduceAdd, Nat.reduceMul, Nat.reduceEqDiff, ↓reduceIte]
  refine callW [some 0] [] (hr) ?_
  simp (maxSteps := 1000000) (disch := (first | omega | (simp only [List.length_append, List.length_set, List.length_cons, List.length_nil, List.length_replicate, List.length_take, List.length_drop, List.length_map, List.length_range, true_and, and_true]; (try omega); done) | fail)) only [go_sem, Int.reduceEq, Int.reduceToNat, Nat.reduceAdd, Nat.reduceMul, Nat.reduceEqDiff, ↓reduceIte]
  exact endW [some 0] hQ
theorem chance_fn {x : Rat} {L : List Bool} {p : Nat} (hL : L.length ≤ 1048576) (hp : p ≤ L.length) (hx : ¬ x.num < 0) (hs : RS 400000 x) : Fn1 Try.prog 21 [.ref 0 0 0 0, RV x] [some (tpC L p false)]
    (.tup [.lit (.bool (ratX L x.num.natAbs x.den p).1), .lit (.int .i64 (ratX L x.num.natAbs x.den p).2.1)]) [some (tpC L (ratX L x.num.natAbs x.den p).2.2.1 (ratX L x.num.natAbs x.den p).2.2.2)] :=
  chanceG_fn hx hs (ratio_fn (L := L) (P := x.num.natAbs) (D := x.den) (p := p) hL hp (Nat.le_trans hs.1 (by decide)) (Nat.le_trans hs.2 (by decide)))
end Go.Proofs.Ytfemchdaoihogaa
