import Derived.Test.YtfemchdaoihogaaZ2
import Derived.Test.YtfemchdaoihogaaFa
/-! Package rat: quotients, floors; flip.Chance. -/
namespace Go.Proofs.Ytfemchdaoihogaa
open Go.Eng Go.Vx
set_option linter.unusedSimpArgs false
set_option linter.unusedVariables false
set_option maxRecDepth 100000
theorem rat_div_eq {x y : Rat} : ((x.num * (y.den : Int) : Int) : Rat) / ((y.num * (x.den : Int) : Int) : Rat) = x / y := by
  rw [← Rat.divInt_eq_div, Rat.div_def x y, Rat.inv_def]
  conv => rhs; rw [← Rat.num_divInt_den x]
  rw [Rat.divInt_mul_divInt, Int.mul_comm y.num]
theorem rat_num_ne {y : Rat} (h : y ≠ 0) : y.num ≠ 0 := fun e => h (Rat.num_eq_zero.1 e)
theorem WV_zero : WV 0 = .agg [.row 1 [], .lit (.bool false)] := by
  unfold WV
  rw [show (0 : Int).natAbs = 0 from rfl, wg_zero]
  rfl
theorem rdiv0_fn {x : Rat} (hx : RS 400000 x) : Fn1 Try.prog 86 [RV x, RV 0] [] (.tup [RV 0, .lit (.int .i64 7)]) [] := by
  obtain ⟨hx1, hx2⟩ := hx
  have z0 : (wg (0 : Int).natAbs).length ≤ 0 := by rw [show (0 : Int).natAbs = 0 from rfl, wg_zero]; exact Nat.le_refl _
  have d1 : (wg (0 : Rat).den).length ≤ 400000 := Nat.le_trans (wg_one (by decide)) (by decide)
  have hm1 := wmul_fn (x := x.num) (y := ((0 : Rat).den : Int)) (by omega) (by simp only [Int.natAbs_natCast]; omega)
  have hm2 := wmul_fn (x := 0) (y := (x.den : Int)) (by omega) (by simp only [Int.natAbs_natCast]; omega)
  rw [Int.zero_mul] at hm2
  have hr := rfrac0_fn (p := x.num * ((0 : Rat).den : Int))
  have hdw := rdenw_fn (x := 0) (by omega)
  rw [RV_zero] at hr hdw ⊢
  rw [WV_zero] at hr hm2
  refine fn1_of pl86 (by kernel_rfl) Try.call86 Try.func86 rfl (by kernel_rfl) rfl [.cell 4 48, .tmp 5] (by kernel_rfl) fun Q hQ => ?_
  simp (maxSteps := 1000000) (disch := (first | omega | (simp only [lnA, List.length_map, List.length_range, true_and, and_true]; (try omega); done) | fail)) only [go_sem, Int.reduceEq, Int.reduceToNat, Nat.reduceAdd, Nat.reduceMul, Nat.reduceEqDiff, ↓reduceIte]
  refine callV0 (hdw) rfl rfl ?_
  simp (maxSteps := 1000000) (disch := (first | omega | (simp only [lnA, List.length_map, List.length_range, true_and, and_true]; (try omega); done) | fail)) only [go_sem, Int.reduceEq, Int.reduceToNat, Nat.reduceAdd, Nat.reduceMul, Nat.reduceEqDiff, ↓reduceIte]
  refine callV0 (hm1) rfl rfl ?_
  simp (maxSteps := 1000000) (disch := (first | omega | (simp only [lnA, List.length_map, List.length_range, true_and, and_true]; (try omega); done) | fail)) only [go_sem, Int.reduceEq, Int.reduceToNat, Nat.reduceAdd, Nat.reduceMul, Nat.reduceEqDiff, ↓reduceIte]
  refine callV0 (rdenw_fn (x := x) (by omega)) rfl rfl ?_
  simp (maxSteps := 1000000) (disch := (first | omega | (simp only [lnA, List.length_map, List.length_range, true_and, and_true]; (try omega); done) | fail)) only [go_sem, Int.reduceEq, Int.reduceToNat, Nat.reduceAdd, Nat.reduceMul, Nat.reduceEqDiff, ↓reduceIte]
  refine callW [] [] (hm2) ?_
  simp (maxSteps := 1000000) (disch := (first | omega | (simp only [lnA, List.length_map, List.length_range, true_and, and_true]; (try omega); done) | fail)) only [go_sem, Int.reduceEq, Int.reduceToNat, Nat.reduceAdd, Nat.reduceMul, Nat.reduceEqDiff, ↓reduceIte]
  refine callV0 (hr) rfl rfl ?_
  simp (maxSteps := 1000000) (disch := (first | omega | (simp only [lnA, List.length_map, List.length_range, true_and, and_true]; (try omega); done) | fail)) only [go_sem, Int.reduceEq, Int.reduceToNat, Nat.reduceAdd, Nat.reduceMul, Nat.reduceEqDiff, ↓reduceIte]
  exact endW [] hQ
theorem rdiv_fn {x y : Rat} (hy0 : y ≠ 0) (hx : RS 400000 x) (hy : RS 400000 y) : Fn1 Try.prog 86 [RV x, RV y] [] (.tup [RV (x / y), .lit (.int .i64 0)]) [] := by
  obtain ⟨hx1, hx2⟩ := hx
  obtain ⟨hy1, hy2⟩ := hy
  have hm1 := wmul_fn (x := x.num) (y := (y.den : Int)) (by omega) (by simp only [Int.natAbs_natCast]; omega)
  have hm2 := wmul_fn (x := y.num) (y := (x.den : Int)) (by omega) (by simp only [Int.natAbs_natCast]; omega)
  have hl1 := len_mulZ (x := x.num) (y := (y.den : Int)) hx1 (by simp only [Int.natAbs_natCast]; exact hy2)
  have hl2 := len_mulZ (x := y.num) (y := (x.den : Int)) hy1 (by simp only [Int.natAbs_natCast]; exact hx2)
  have hn0 : y.num * (x.den : Int) ≠ 0 := Int.mul_ne_zero (rat_num_ne hy0) (by have := x.den_nz; omega)
  have hr := rfrac_fn (p := x.num * (y.den : Int)) (q := y.num * (x.den : Int)) hn0 (by omega) (by omega)
  rw [rat_div_eq] at hr
  refine fn1_of pl86 (by kernel_rfl) Try.call86 Try.func86 rfl (by kernel_rfl) rfl [.cell 4 48, .tmp 5] (by kernel_rfl) fun Q hQ => ?_
  simp (maxSteps := 1000000) (disch := (first | omega | (simp only [lnA, List.length_map, List.length_range, true_and, and_true]; (try omega); done) | fail)) only [go_sem, Int.reduceEq, Int.reduceToNat, Nat.reduceAdd, Nat.reduceMul, Nat.reduceEqDiff, ↓reduceIte]
  refine callV0 (rdenw_fn (x := y) (by omega)) rfl rfl ?_
  simp (maxSteps := 1000000) (disch := (first | omega | (simp only [lnA, List.length_map, List.length_range, true_and, and_true]; (try omega); done) | fail)) only [go_sem, Int.reduceEq, Int.reduceToNat, Nat.reduceAdd, Nat.reduceMul, Nat.reduceEqDiff, ↓reduceIte]
  refine callV0 (hm1) rfl rfl ?_
  simp (maxSteps := 1000000) (disch := (first | omega | (simp only [lnA, List.length_map, List.length_range, true_and, and_true]; (try omega); done) | fail)) only [go_sem, Int.reduceEq, Int.reduceToNat, Nat.reduceAdd, Nat.reduceMul, Nat.reduceEqDiff, ↓reduceIte]
  refine callV0 (rdenw_fn (x := x) (by omega)) rfl rfl ?_
  simp (maxSteps := 1000000) (disch := (first | omega | (simp only [lnA, List.length_map, List.length_range, true_and, and_true]; (try omega); done) | fail)) only [go_sem, Int.reduceEq, Int.reduceToNat, Nat.reduceAdd, Nat.reduceMul, Nat.reduceEqDiff, ↓reduceIte]
  refine callV0 (hm2) rfl rfl ?_
  simp (maxSteps := 1000000) (disch := (first | omega | (simp only [lnA, List.length_map, List.length_range, true_and, and_true]; (try omega); done) | fail)) only [go_sem, Int.reduceEq, Int.reduceToNat, Nat.reduceAdd, Nat.reduceMul, Nat.reduceEqDiff, ↓reduceIte]
  refine callV0 (hr) rfl rfl ?_
  simp (maxSteps := 1000000) (disch := (first | omega | (simp only [lnA, List.length_map, List.length_range, true_and, and_true]; (try omega); done) | fail)) only [go_sem, Int.reduceEq, Int.reduceToNat, Nat.reduceAdd, Nat.reduceMul, Nat.reduceEqDiff, ↓reduceIte]
  exact endW [] hQ
theorem RS_div {k l : Nat} {x y : Rat} (hk : 1 ≤ k + l) (hx : RS k x) (hy : RS l y) : RS (k + l) (x / y) := by
  by_cases h : y = 0
  · subst h
    have e : x / 0 = 0 := by rw [Rat.div_def, Rat.inv_zero, Rat.mul_zero]
    rw [e]
    exact ⟨by rw [show (0 : Rat).num.natAbs = 0 from rfl, wg_zero]; exact Nat.zero_le _, Nat.le_trans (wg_one (by decide)) hk⟩
  · have hn0 : y.num * (x.den : Int) ≠ 0 := Int.mul_ne_zero (rat_num_ne h) (by have := x.den_nz; omega)
    rw [← rat_div_eq, ← frac_eq hn0]
    refine RS_mk (by omega) ?_ ?_
    · rw [sg_abs]
      exact len_mulZ hx.1 (by simp only [Int.natAbs_natCast]; exact hy.2)
    · have := len_mulZ (x := y.num) (y := (x.den : Int)) hy.1 (by simp only [Int.natAbs_natCast]; exact hx.2)
      omega
theorem rfloor_fn {x : Rat} (hx : RS 400000 x) : Fn1 Try.prog 63 [RV x] [] (WV x.floor) [] := by
  obtain ⟨hx1, hx2⟩ := hx
  have hd := wdiv_fn (x := x.num) (y := (x.den : Int)) (by have := x.den_nz; omega) (by omega) (by simp only [Int.natAbs_natCast]; omega)
  rw [← Rat.floor_def] at hd
  refine fn1_of pl63 (by kernel_rfl) Try.call63 Try.func63 rfl (by kernel_rfl) rfl [.cell 2 46] (by kernel_rfl) fun Q hQ => ?_
  simp (maxSteps := 1000000) (disch := (first | omega | (simp only [lnA, List.length_map, List.length_range, true_and, and_true]; (try omega); done) | fail)) only [go_sem, Int.reduceEq, Int.reduceToNat, Nat.reduceAdd, Nat.reduceMul, Nat.reduceEqDiff, ↓reduceIte]
  refine callV0 (rdenw_fn (x := x) (by omega)) rfl rfl ?_
  simp (maxSteps := 1000000) (disch := (first | omega | (simp only [lnA, List.length_map, List.length_range, true_and, and_true]; (try omega); done) | fail)) only [go_sem, Int.reduceEq, Int.reduceToNat, Nat.reduceAdd, Nat.reduceMul, Nat.reduceEqDiff, ↓reduceIte]
  refine callV0 (hd) rfl rfl ?_
  simp (maxSteps := 1000000) (disch := (first | omega | (simp only [lnA, List.length_map, List.length_range, true_and, and_true]; (try omega); done) | fail)) only [go_sem, Int.reduceEq, Int.reduceToNat, Nat.reduceAdd, Nat.reduceMul, Nat.reduceEqDiff, ↓reduceIte]
  exact endW [] hQ
theorem nint_fn {n M : Nat} {m : Int} (hm : max 0 m = (M : Int)) (hM : M ≤ 9223372036854775807) (hn : (wg n).length ≤ 1000000) : Fn1 Try.prog 65 [NV n, .lit (.int .i64 m)] [] (.lit (.int .i64 ((min n M : Nat) : Int))) [] := by
  refine fn1_of pl65 (by kernel_rfl) Try.call65 Try.func65 rfl (by kernel_rfl) rfl [.tmp 4] (by kernel_rfl) fun Q hQ => ?_
  have hnl := nl_len (wg n)
  by_cases h1 : 1 < (wg n).length
  · have hgt : 18446744073709551616 ≤ n := by
      refine Classical.byContradiction fun h => ?_
      have := wg_one (n := n) (by omega)
      omega
    rw [show min n M = M by omega] at hQ
    have hc : decide ((1 : Int) < ((nl (wg n)).length : Int)) = true := decide_eq_true (by omega)
    simp (maxSteps := 1000000) (disch := (first | omega | (simp only [lnA, List.length_map, List.length_range, true_and, and_true]; (try omega); done) | fail)) only [go_sem, hm, hc, Int.reduceEq, Int.reduceToNat, Nat.reduceAdd, Nat.reduceMul, Nat.reduceEqDiff, ↓reduceIte]
    exact endW [] hQ
  · have hc : decide ((1 : Int) < ((nl (wg n)).length : Int)) = false := decide_eq_false (by omega)
    by_cases h0 : n = 0
    · subst h0
      rw [wg_zero] at hnl
      rw [show min 0 M = 0 by omega] at hQ
      have hz := zero_fn (n := 0) (by rw [wg_zero]; decide)
      rw [NV_zero] at hz
      simp (maxSteps := 1000000) (disch := (first | omega | (simp only [lnA, List.length_map, List.length_range, true_and, and_true]; (try omega); done) | fail)) only [go_sem, hm, wg_zero, Int.reduceEq, Int.reduceToNat, Nat.reduceAdd, Nat.reduceMul, Nat.reduceEqDiff, ↓reduceIte]
      refine callV0 (hz) rfl rfl ?_
      simp (maxSteps := 1000000) (disch := (first | omega | (simp only [lnA, List.length_map, List.length_range, true_and, and_true]; (try omega); done) | fail)) only [go_sem, Int.reduceEq, Int.reduceToNat, Nat.reduceAdd, Nat.reduceMul, Nat.reduceEqDiff, ↓reduceIte]
      exact endW [] hQ
    · have h2 : (wg n).length = 1 := by have := wg_of_pos h0; omega
      have hw := wg_of_one h2
      have hlt : n < 18446744073709551616 := wg_lt n n (by rw [hw]; simp)
      have hn1 : nl (wg n) = [(n : Int)] := by rw [hw]; rfl
      by_cases hle : M < n
      · rw [show min n M = M by omega] at hQ
        simp (maxSteps := 1000000) (disch := (first | omega | (simp only [lnA, List.length_map, List.length_range, true_and, and_true]; (try omega); done) | fail)) only [go_sem, hm, hn1, Int.reduceEq, Int.reduceToNat, Nat.reduceAdd, Nat.reduceMul, Nat.reduceEqDiff, ↓reduceIte]
        exact endW [] hQ
      · rw [show min n M = n by omega] at hQ
        have hz := zero_fn (n := n) (by omega)
        rw [decide_eq_false h0] at hz
        unfold NV at hz
        rw [hn1] at hz
        simp (maxSteps := 1000000) (disch := (first | omega | (simp only [lnA, List.length_map, List.length_range, true_and, and_true]; (try omega); done) | fail)) only [go_sem, hm, hn1, Int.reduceEq, Int.reduceToNat, Nat.reduceAdd, Nat.reduceMul, Nat.reduceEqDiff, ↓reduceIte]
        refine callV0 (hz) rfl rfl ?_
        simp (maxSteps := 1000000) (disch := (first | omega | (simp only [lnA, List.length_map, List.length_range, true_and, and_true]; (try omega); done) | fail)) only [go_sem, Int.reduceEq, Int.reduceToNat, Nat.reduceAdd, Nat.reduceMul, Nat.reduceEqDiff, ↓reduceIte]
        exact endW [] hQ
theorem chanceE_fn {x : Rat} {L : List Bool} {p : Nat} (hx : x.num < 0) : Fn1 Try.prog 21 [.ref 0 0 0 0, RV x] [some (tpC L p false)] (.tup [.lit (.bool false), .lit (.int .i64 2)]) [some (tpC L p false)] := by
  refine fn1_of pl21 (by kernel_rfl) Try.call21 Try.func21 rfl (by kernel_rfl) rfl [.tmp 4, .tmp 5] (by kernel_rfl) fun Q hQ => ?_
  simp (maxSteps := 1000000) (disch := (first | omega | (simp only [lnA, List.length_map, List.length_range, true_and, and_true]; (try omega); done) | fail)) only [go_sem, Int.reduceEq, Int.reduceToNat, Nat.reduceAdd, Nat.reduceMul, Nat.reduceEqDiff, ↓reduceIte]
  refine callV0 (rnum_fn (x := x)) rfl rfl ?_
  simp (maxSteps := 1000000) (disch := (first | omega | (simp only [lnA, List.length_map, List.length_range, true_and, and_true]; (try omega); done) | fail)) only [go_sem, Int.reduceEq, Int.reduceToNat, Nat.reduceAdd, Nat.reduceMul, Nat.reduceEqDiff, ↓reduceIte]
  refine callV0 (wneg_fn (z := x.num)) rfl rfl ?_
  simp (maxSteps := 1000000) (disch := (first | omega | (simp only [lnA, List.length_map, List.length_range, true_and, and_true]; (try omega); done) | fail)) only [go_sem, decide_eq_true hx, Int.reduceEq, Int.reduceToNat, Nat.reduceAdd, Nat.reduceMul, Nat.reduceEqDiff, ↓reduceIte]
  exact endW [some 0] hQ
theorem chanceG_fn {x : Rat} {L : List Bool} {p p' : Nat} {d d' r1 : Bool} {r2 : Int} (hx : ¬ x.num < 0) (hs : RS 400000 x)
    (hr : Fn1 Try.prog 14 [.ref 0 0 0 0, NV x.num.natAbs, NV x.den] [some (tpC L p d)] (.tup [.lit (.bool r1), .lit (.int .i64 r2)]) [some (tpC L p' d')]) :
    Fn1 Try.prog 21 [.ref 0 0 0 0, RV x] [some (tpC L p d)] (.tup [.lit (.bool r1), .lit (.int .i64 r2)]) [some (tpC L p' d')] := by
  obtain ⟨hs1, hs2⟩ := hs
  have e : RV x = .agg [.row 1 ((nl (wg x.num.natAbs)).map (ie .u64)), .lit (.bool false), .row 1 ((nl (wg (x.den - 1))).map (ie .u64))] := by unfold RV; rw [decide_eq_false hx]
  have ew : WV x.num = .agg [.row 1 ((nl (wg x.num.natAbs)).map (ie .u64)), .lit (.bool false)] := by unfold WV; rw [decide_eq_false hx]
  have h1 := rnum_fn (x := x)
  have h2 := wneg_fn (z := x.num)
  have h3 := wabs_fn (z := x.num)
  have h4 := rden_fn (x := x) (by omega)
  rw [e] at h1 h4 ⊢
  rw [ew] at h1 h2 h3
  rw [decide_eq_false hx] at h2
  refine fn1_of pl21 (by kernel_rfl) Try.call21 Try.func21 rfl (by kernel_rfl) rfl [.tmp 4, .tmp 5] (by kernel_rfl) fun Q hQ => ?_
  simp (maxSteps := 1000000) (disch := (first | omega | (simp only [lnA, List.length_map, List.length_range, true_and, and_true]; (try omega); done) | fail)) only [go_sem, Int.reduceEq, Int.reduceToNat, Nat.reduceAdd, Nat.reduceMul, Nat.reduceEqDiff, ↓reduceIte]
  refine callV0 (h1) rfl rfl ?_
  simp (maxSteps := 1000000) (disch := (first | omega | (simp only [lnA, List.length_map, List.length_range, true_and, and_true]; (try omega); done) | fail)) only [go_sem, Int.reduceEq, Int.reduceToNat, Nat.reduceAdd, Nat.reduceMul, Nat.reduceEqDiff, ↓reduceIte]
  refine callV0 (h2) rfl rfl ?_
  simp (maxSteps := 1000000) (disch := (first | omega | (simp only [lnA, List.length_map, List.length_range, true_and, and_true]; (try omega); done) | fail)) only [go_sem, Int.reduceEq, Int.reduceToNat, Nat.reduceAdd, Nat.reduceMul, Nat.reduceEqDiff, ↓reduceIte]
  refine callV0 (h1) rfl rfl ?_
  simp (maxSteps := 1000000) (disch := (first | omega | (simp only [lnA, List.length_map, List.length_range, true_and, and_true]; (try omega); done) | fail)) only [go_sem, Int.reduceEq, Int.reduceToNat, Nat.reduceAdd, Nat.reduceMul, Nat.reduceEqDiff, ↓reduceIte]
  refine callV0 (h3) rfl rfl ?_
  simp (maxSteps := 1000000) (disch := (first | omega | (simp only [lnA, List.length_map, List.length_range, true_and, and_true]; (try omega); done) | fail)) only [go_sem, Int.reduceEq, Int.reduceToNat, Nat.reduceAdd, Nat.reduceMul, Nat.reduceEqDiff, ↓reduceIte]
  refine callV0 (h4) rfl rfl ?_
  simp (maxSteps := 1000000) (disch := (first | omega | (simp only [lnA, List.length_map, List.length_range, true_and, and_true]; (try omega); done) | fail)) only [go_sem, Int.reduceEq, Int.reduceToNat, Nat.reduceAdd, Nat.reduceMul, Nat.reduceEqDiff, ↓reduceIte]
  refine callW [some 0] [] (hr) ?_
  simp (maxSteps := 1000000) (disch := (first | omega | (simp only [lnA, List.length_map, List.length_range, true_and, and_true]; (try omega); done) | fail)) only [go_sem, Int.reduceEq, Int.reduceToNat, Nat.reduceAdd, Nat.reduceMul, Nat.reduceEqDiff, ↓reduceIte]
  exact endW [some 0] hQ
theorem chance_fn {x : Rat} {L : List Bool} {p : Nat} (hL : L.length ≤ 1048576) (hp : p ≤ L.length) (hx : ¬ x.num < 0) (hs : RS 400000 x) : Fn1 Try.prog 21 [.ref 0 0 0 0, RV x] [some (tpC L p false)]
    (.tup [.lit (.bool (ratX L x.num.natAbs x.den p).1), .lit (.int .i64 (ratX L x.num.natAbs x.den p).2.1)]) [some (tpC L (ratX L x.num.natAbs x.den p).2.2.1 (ratX L x.num.natAbs x.den p).2.2.2)] :=
  chanceG_fn hx hs (ratio_fn (L := L) (P := x.num.natAbs) (D := x.den) (p := p) hL hp (Nat.le_trans hs.1 (by decide)) (Nat.le_trans hs.2 (by decide)))
end Go.Proofs.Ytfemchdaoihogaa

/-! draw.Round. -/
namespace Go.Proofs.Ytfemchdaoihogaa
open Go.Eng Go.Vx
set_option linter.unusedSimpArgs false
set_option linter.unusedVariables false
set_option maxRecDepth 100000
theorem ratR_scale {L : List Bool} {D g : Nat} (hg : 0 < g) : ∀ f r p, ratR L (g * D) f (g * r) p = ratR L D f r p
  | 0, _, _ => rfl
  | f + 1, r, p => by
    rw [ratR_succ, ratR_succ]
    have e1 : g * r + g * r = g * (r + r) := by rw [Nat.mul_add]
    have e2 : (g * D ≤ g * (r + r)) = (D ≤ r + r) := propext ⟨fun h => Nat.le_of_mul_le_mul_left h hg, fun h => Nat.mul_le_mul_left g h⟩
    have e3 : (if D ≤ r + r then g * (r + r) - g * D else g * (r + r)) = g * (if D ≤ r + r then r + r - D else r + r) := by
      split
      · rw [Nat.mul_sub]
      · rfl
    have e4 : ∀ z, (g * z ≠ 0) = (z ≠ 0) := fun z => propext ⟨fun h e => h (by rw [e, Nat.mul_zero]), fun h => Nat.mul_ne_zero (by omega) h⟩
    simp only [e1, e2, e3, e4, ratR_scale hg f]
theorem ratX_scale {L : List Bool} {P D g p : Nat} (hg : 0 < g) : ratX L (g * P) (g * D) p = ratX L P D p := by
  unfold ratX
  have e1 : (g * D = 0) = (D = 0) := propext ⟨fun h => (Nat.mul_eq_zero.1 h).resolve_left (by omega), fun h => by rw [h, Nat.mul_zero]⟩
  have e2 : (g * P = 0) = (P = 0) := propext ⟨fun h => (Nat.mul_eq_zero.1 h).resolve_left (by omega), fun h => by rw [h, Nat.mul_zero]⟩
  have e3 : (g * D < g * P) = (D < P) := propext ⟨fun h => Nat.lt_of_mul_lt_mul_left h, fun h => Nat.mul_lt_mul_of_pos_left h hg⟩
  have e4 : (g * P = g * D) = (P = D) := propext ⟨fun h => Nat.eq_of_mul_eq_mul_left hg h, fun h => by rw [h]⟩
  simp only [e1, e2, e3, e4, ratR_scale hg]
theorem ratX_mk {L : List Bool} {n d p : Nat} (hd : d ≠ 0) : ratX L (mkRat (n : Int) d).num.natAbs (mkRat (n : Int) d).den p = ratX L n d p := by
  rw [mkRat_numG hd, mkRat_denG hd, sg_abs, Int.natAbs_natCast]
  have hg : 0 < Nat.gcd n d := Nat.gcd_pos_of_pos_right _ (by omega)
  have h := ratX_scale (L := L) (P := n / Nat.gcd n d) (D := d / Nat.gcd n d) (p := p) hg
  rw [Nat.mul_div_cancel' (Nat.gcd_dvd_left n d), Nat.mul_div_cancel' (Nat.gcd_dvd_right n d)] at h
  exact h.symm
theorem mk_nonneg {n d : Nat} (hd : d ≠ 0) : ¬ (mkRat (n : Int) d).num < 0 := by
  rw [mkRat_numG hd, decide_eq_false (show ¬ (n : Int) < 0 by omega)]
  exact Int.not_lt.2 (Int.natCast_nonneg _)
theorem rest_eq {x : Rat} (hx : ¬ x.num < 0) : x - ((x.floor : Int) : Rat) = mkRat ((x.num.natAbs % x.den : Nat) : Int) x.den := by
  rw [Rat.sub_def', Rat.num_intCast, Rat.den_intCast, Rat.floor_def, Nat.mul_one]
  congr 1
  have h := Int.mul_ediv_add_emod x.num x.den
  have e : ((x.num.natAbs % x.den : Nat) : Int) = x.num % x.den := by
    rw [Int.natCast_emod]; congr 1; omega
  rw [e, Int.natCast_one, Int.mul_one, Int.mul_comm]
  omega
theorem floor_nat {x : Rat} (hx : ¬ x.num < 0) : x.floor = ((x.num.natAbs / x.den : Nat) : Int) := by
  rw [Rat.floor_def, Int.natCast_ediv]; congr 1; omega
/-- What a fraction is rounded to. -/
def rndX (L : List Bool) (n d p : Nat) : Int × Int × Nat × Bool :=
  let r := ratX L (n % d) d p
  (if r.2.1 = 0 then ((n / d + (if r.1 then 1 else 0) : Nat) : Int) else 0, r.2.1, r.2.2.1, r.2.2.2)
theorem cmpQ_neg {x y : Rat} : cmpQ x y < 0 ↔ x < y := by
  unfold cmpQ
  split
  · rename_i h; simp [h]
  · rename_i h; split <;> simp [h]
theorem cmpQ_pos {x y : Rat} : 0 < cmpQ x y ↔ y < x := by
  unfold cmpQ
  split
  · rename_i h
    have := Rat.not_lt.2 (Rat.le_of_lt h)
    simp [this]
  · rename_i h; split <;> simp [*]
theorem cmpQ_zero {x y : Rat} : cmpQ x y = 0 ↔ x = y := by
  unfold cmpQ
  constructor
  · intro h
    split at h
    · simp at h
    · rename_i h1
      split at h
      · simp at h
      · rename_i h2
        exact Rat.le_antisymm (Rat.not_lt.1 h2) (Rat.not_lt.1 h1)
  · rintro rfl
    rw [if_neg Rat.lt_irrefl, if_neg Rat.lt_irrefl]
theorem num_nonneg' {x : Rat} (h : 0 ≤ x) : ¬ x.num < 0 := by have := Rat.num_nonneg.2 h; omega
theorem dround_err {x : Rat} {L : List Bool} {p : Nat} (hs : RS 100000 x) (h : x < 0 ∨ ((1099511627776 : Int) : Rat) < x) : Fn1 Try.prog 27 [.ref 0 0 0 0, RV x] [some (tpC L p false)] (.tup [.lit (.int .i64 0), .lit (.int .i64 2)]) [some (tpC L p false)] := by
  have h0 := rof_fn (n := 0) (by decide) (by decide)
  have hM := rof_fn (n := 1099511627776) (by decide) (by decide)
  have s0 : RS 400000 ((0 : Int) : Rat) := RS_int (Nat.le_trans (wg_one (by decide)) (by decide)) (by decide)
  have sM : RS 400000 ((1099511627776 : Int) : Rat) := RS_int (Nat.le_trans (wg_one (by decide)) (by decide)) (by decide)
  have c0 := rcmp_fn (hs.mono (by decide)) s0
  have cM := rcmp_fn (hs.mono (by decide)) sM
  have e0 := cmpQ_neg (x := x) (y := ((0 : Int) : Rat))
  have eM := cmpQ_pos (x := x) (y := ((1099511627776 : Int) : Rat))
  rw [show ((0 : Int) : Rat) = 0 from rfl] at h0 s0 c0 e0
  rw [RV_zero] at h0 c0
  generalize ((1099511627776 : Int) : Rat) = M at *
  refine fn1_of pl27 (by kernel_rfl) Try.call27 Try.func27 rfl (by kernel_rfl) rfl [.tmp 4, .tmp 5] (by kernel_rfl) fun Q hQ => ?_
  simp (maxSteps := 1000000) (disch := (first | omega | (simp only [lnA, List.length_map, List.length_range, true_and, and_true]; (try omega); done) | fail)) only [go_sem, Int.reduceEq, Int.reduceToNat, Nat.reduceAdd, Nat.reduceMul, Nat.reduceEqDiff, ↓reduceIte]
  refine callV0 (h0) rfl rfl ?_
  simp (maxSteps := 1000000) (disch := (first | omega | (simp only [lnA, List.length_map, List.length_range, true_and, and_true]; (try omega); done) | fail)) only [go_sem, Int.reduceEq, Int.reduceToNat, Nat.reduceAdd, Nat.reduceMul, Nat.reduceEqDiff, ↓reduceIte]
  refine callV0 (c0) rfl rfl ?_
  by_cases hc : x < 0
  · have hd := decide_eq_true (e0.2 hc)
    simp (maxSteps := 1000000) (disch := (first | omega | (simp only [lnA, List.length_map, List.length_range, true_and, and_true]; (try omega); done) | fail)) only [go_sem, hd, Int.reduceEq, Int.reduceToNat, Nat.reduceAdd, Nat.reduceMul, Nat.reduceEqDiff, ↓reduceIte]
    exact endW [some 0] hQ
  · have hd := decide_eq_false (fun e => hc (e0.1 e))
    have hd2 := decide_eq_true (eM.2 (h.resolve_left hc))
    simp (maxSteps := 1000000) (disch := (first | omega | (simp only [lnA, List.length_map, List.length_range, true_and, and_true]; (try omega); done) | fail)) only [go_sem, hd, Int.reduceEq, Int.reduceToNat, Nat.reduceAdd, Nat.reduceMul, Nat.reduceEqDiff, ↓reduceIte]
    refine callV0 (hM) rfl rfl ?_
    simp (maxSteps := 1000000) (disch := (first | omega | (simp only [lnA, List.length_map, List.length_range, true_and, and_true]; (try omega); done) | fail)) only [go_sem, Int.reduceEq, Int.reduceToNat, Nat.reduceAdd, Nat.reduceMul, Nat.reduceEqDiff, ↓reduceIte]
    refine callV0 (cM) rfl rfl ?_
    simp (maxSteps := 1000000) (disch := (first | omega | (simp only [lnA, List.length_map, List.length_range, true_and, and_true]; (try omega); done) | fail)) only [go_sem, hd2, Int.reduceEq, Int.reduceToNat, Nat.reduceAdd, Nat.reduceMul, Nat.reduceEqDiff, ↓reduceIte]
    exact endW [some 0] hQ
theorem droundG_fn {x : Rat} {L : List Bool} {p p' : Nat} {d d' r1 : Bool} {r2 : Int} (hs : RS 100000 x) (h1 : ¬ x < 0) (h2 : ¬ ((1099511627776 : Int) : Rat) < x)
    (hch : Fn1 Try.prog 14 [.ref 0 0 0 0, NV (x - ((x.floor : Int) : Rat)).num.natAbs, NV (x - ((x.floor : Int) : Rat)).den] [some (tpC L p d)] (.tup [.lit (.bool r1), .lit (.int .i64 r2)]) [some (tpC L p' d')]) :
    Fn1 Try.prog 27 [.ref 0 0 0 0, RV x] [some (tpC L p d)]
    (.tup [.lit (.int .i64 (if r2 = 0 then ((x.num.natAbs / x.den + (if r1 then 1 else 0) : Nat) : Int) else 0)), .lit (.int .i64 r2)]) [some (tpC L p' d')] := by
  have h0 := rof_fn (n := 0) (by decide) (by decide)
  have hM := rof_fn (n := 1099511627776) (by decide) (by decide)
  have s0 : RS 400000 ((0 : Int) : Rat) := RS_int (Nat.le_trans (wg_one (by decide)) (by decide)) (by decide)
  have sM : RS 400000 ((1099511627776 : Int) : Rat) := RS_int (Nat.le_trans (wg_one (by decide)) (by decide)) (by decide)
  have c0 := rcmp_fn (hs.mono (by decide)) s0
  have cM := rcmp_fn (hs.mono (by decide)) sM
  have e0 := cmpQ_neg (x := x) (y := ((0 : Int) : Rat))
  have eM := cmpQ_pos (x := x) (y := ((1099511627776 : Int) : Rat))
  have hfl : x.floor ≤ 1099511627776 := by
    have := Rat.floor_monotone (Rat.not_lt.1 h2)
    rwa [Rat.floor_intCast] at this
  rw [show ((0 : Int) : Rat) = 0 from rfl] at h0 s0 c0 e0
  rw [RV_zero] at h0 c0
  have hd := decide_eq_false (fun e => h1 (e0.1 e))
  have hd2 := decide_eq_false (fun e => h2 (eM.1 e))
  generalize ((1099511627776 : Int) : Rat) = M at *
  have hn : ¬ x.num < 0 := num_nonneg' (Rat.not_lt.1 h1)
  have hfn := floor_nat hn
  have hre := rest_eq hn
  have hf := rfloor_fn (x := x) (hs.mono (by decide))
  have hab := wabs_fn (z := x.floor)
  have hfl2 : x.floor.natAbs = x.num.natAbs / x.den := by rw [hfn]; rfl
  have hfl3 : (wg (x.num.natAbs / x.den)).length ≤ 1 := wg_one (by omega)
  have hna := rnat_fn (n := x.num.natAbs / x.den) (by omega)
  rw [← hfn] at hna
  have hsf : RS 1 ((x.floor : Int) : Rat) := RS_int (by rw [hfl2]; exact hfl3) (by decide)
  have hsb := rsub_fn (hs.mono (show 100000 ≤ 400000 by decide)) (hsf.mono (show 1 ≤ 400000 by decide))
  have hrs := RS_sub hs hsf
  have hch := chanceG_fn (x := x - ((x.floor : Int) : Rat)) (by rw [hre]; exact mk_nonneg x.den_nz) (hrs.mono (by decide)) hch
  have hin := nint_fn (n := x.num.natAbs / x.den) (M := 1099511627776) (m := 1099511627776) (by omega) (by omega) (by omega)
  rw [show min (x.num.natAbs / x.den) 1099511627776 = x.num.natAbs / x.den by omega] at hin
  rw [hfl2] at hab
  generalize x - ((x.floor : Int) : Rat) = y at *
  have hfi : x.num.natAbs / x.den ≤ 1099511627776 := by omega
  generalize x.num.natAbs / x.den = fl at *
  refine fn1_of pl27 (by kernel_rfl) Try.call27 Try.func27 rfl (by kernel_rfl) rfl [.tmp 4, .tmp 5] (by kernel_rfl) fun Q hQ => ?_
  simp (maxSteps := 1000000) (disch := (first | omega | (simp only [lnA, List.length_map, List.length_range, true_and, and_true]; (try omega); done) | fail)) only [go_sem, Int.reduceEq, Int.reduceToNat, Nat.reduceAdd, Nat.reduceMul, Nat.reduceEqDiff, ↓reduceIte]
  refine callV0 (h0) rfl rfl ?_
  simp (maxSteps := 1000000) (disch := (first | omega | (simp only [lnA, List.length_map, List.length_range, true_and, and_true]; (try omega); done) | fail)) only [go_sem, Int.reduceEq, Int.reduceToNat, Nat.reduceAdd, Nat.reduceMul, Nat.reduceEqDiff, ↓reduceIte]
  refine callV0 (c0) rfl rfl ?_
  simp (maxSteps := 1000000) (disch := (first | omega | (simp only [lnA, List.length_map, List.length_range, true_and, and_true]; (try omega); done) | fail)) only [go_sem, hd, Int.reduceEq, Int.reduceToNat, Nat.reduceAdd, Nat.reduceMul, Nat.reduceEqDiff, ↓reduceIte]
  refine callV0 (hM) rfl rfl ?_
  simp (maxSteps := 1000000) (disch := (first | omega | (simp only [lnA, List.length_map, List.length_range, true_and, and_true]; (try omega); done) | fail)) only [go_sem, Int.reduceEq, Int.reduceToNat, Nat.reduceAdd, Nat.reduceMul, Nat.reduceEqDiff, ↓reduceIte]
  refine callV0 (cM) rfl rfl ?_
  simp (maxSteps := 1000000) (disch := (first | omega | (simp only [lnA, List.length_map, List.length_range, true_and, and_true]; (try omega); done) | fail)) only [go_sem, hd2, Int.reduceEq, Int.reduceToNat, Nat.reduceAdd, Nat.reduceMul, Nat.reduceEqDiff, ↓reduceIte]
  refine callV0 (hf) rfl rfl ?_
  simp (maxSteps := 1000000) (disch := (first | omega | (simp only [lnA, List.length_map, List.length_range, true_and, and_true]; (try omega); done) | fail)) only [go_sem, Int.reduceEq, Int.reduceToNat, Nat.reduceAdd, Nat.reduceMul, Nat.reduceEqDiff, ↓reduceIte]
  refine callV0 (hab) rfl rfl ?_
  simp (maxSteps := 1000000) (disch := (first | omega | (simp only [lnA, List.length_map, List.length_range, true_and, and_true]; (try omega); done) | fail)) only [go_sem, Int.reduceEq, Int.reduceToNat, Nat.reduceAdd, Nat.reduceMul, Nat.reduceEqDiff, ↓reduceIte]
  refine callV0 (hna) rfl rfl ?_
  simp (maxSteps := 1000000) (disch := (first | omega | (simp only [lnA, List.length_map, List.length_range, true_and, and_true]; (try omega); done) | fail)) only [go_sem, Int.reduceEq, Int.reduceToNat, Nat.reduceAdd, Nat.reduceMul, Nat.reduceEqDiff, ↓reduceIte]
  refine callV0 (hsb) rfl rfl ?_
  simp (maxSteps := 1000000) (disch := (first | omega | (simp only [lnA, List.length_map, List.length_range, true_and, and_true]; (try omega); done) | fail)) only [go_sem, Int.reduceEq, Int.reduceToNat, Nat.reduceAdd, Nat.reduceMul, Nat.reduceEqDiff, ↓reduceIte]
  refine callW [some 0] [] (hch) ?_
  by_cases hr : r2 = 0
  · rw [if_pos hr] at hQ
    subst hr
    cases r1
    · simp (maxSteps := 1000000) (disch := (first | omega | (simp only [lnA, List.length_map, List.length_range, true_and, and_true]; (try omega); done) | fail)) only [go_sem, Int.reduceEq, Int.reduceToNat, Nat.reduceAdd, Nat.reduceMul, Nat.reduceEqDiff, ↓reduceIte]
      refine callV0 (hin) rfl rfl ?_
      simp (maxSteps := 1000000) (disch := (first | omega | (simp only [lnA, List.length_map, List.length_range, true_and, and_true]; (try omega); done) | fail)) only [go_sem, Int.reduceEq, Int.reduceToNat, Nat.reduceAdd, Nat.reduceMul, Nat.reduceEqDiff, ↓reduceIte]
      exact endW [some 0] hQ
    · simp (maxSteps := 1000000) (disch := (first | omega | (simp only [lnA, List.length_map, List.length_range, true_and, and_true]; (try omega); done) | fail)) only [go_sem, Int.reduceEq, Int.reduceToNat, Nat.reduceAdd, Nat.reduceMul, Nat.reduceEqDiff, ↓reduceIte]
      refine callV0 (hin) rfl rfl ?_
      simp (maxSteps := 1000000) (disch := (first | omega | (simp only [lnA, List.length_map, List.length_range, true_and, and_true]; (try omega); done) | fail)) only [go_sem, Int.reduceEq, Int.reduceToNat, Nat.reduceAdd, Nat.reduceMul, Nat.reduceEqDiff, ↓reduceIte]
      exact endW [some 0] hQ
  · rw [if_neg hr] at hQ
    simp (maxSteps := 1000000) (disch := (first | omega | (simp only [lnA, List.length_map, List.length_range, true_and, and_true]; (try omega); done) | fail)) only [go_sem, Int.reduceEq, Int.reduceToNat, Nat.reduceAdd, Nat.reduceMul, Nat.reduceEqDiff, ↓reduceIte]
    exact endW [some 0] hQ
theorem rest_rat {x : Rat} {L : List Bool} {p : Nat} (hn : ¬ x.num < 0) : ratX L (x - ((x.floor : Int) : Rat)).num.natAbs (x - ((x.floor : Int) : Rat)).den p = ratX L (x.num.natAbs % x.den) x.den p := by
  rw [rest_eq hn, ratX_mk x.den_nz]
theorem rest_RS {x : Rat} (hs : RS 100000 x) : RS 200002 (x - ((x.floor : Int) : Rat)) := by
  have hf : RS 100001 ((x.floor : Int) : Rat) := RS_int (by
    rw [Rat.floor_def]
    have h1 := Int.natAbs_ediv_le_natAbs x.num (x.den : Int)
    exact Nat.le_trans (wg_mono h1) (by have := hs.1; omega)) (by decide)
  exact (RS_sub hs hf).mono (by decide)
theorem dround_fn {x : Rat} {L : List Bool} {p : Nat} (hL : L.length ≤ 1048576) (hp : p ≤ L.length) (hs : RS 100000 x) (h1 : ¬ x < 0) (h2 : ¬ ((1099511627776 : Int) : Rat) < x) : Fn1 Try.prog 27 [.ref 0 0 0 0, RV x] [some (tpC L p false)]
    (.tup [.lit (.int .i64 (rndX L x.num.natAbs x.den p).1), .lit (.int .i64 (rndX L x.num.natAbs x.den p).2.1)]) [some (tpC L (rndX L x.num.natAbs x.den p).2.2.1 (rndX L x.num.natAbs x.den p).2.2.2)] := by
  have hrs := rest_RS hs
  have hr := ratio_fn (L := L) (P := (x - ((x.floor : Int) : Rat)).num.natAbs) (D := (x - ((x.floor : Int) : Rat)).den) (p := p) hL hp (Nat.le_trans hrs.1 (by decide)) (Nat.le_trans hrs.2 (by decide))
  rw [rest_rat (num_nonneg' (Rat.not_lt.1 h1))] at hr
  exact droundG_fn hs h1 h2 hr
end Go.Proofs.Ytfemchdaoihogaa
