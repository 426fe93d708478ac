import Derived.Test.YtnfmpphlkalbfaaGreatDoorZ2
import Derived.Test.YtnfmpphlkalbfaaGreatDoorUa
/-! Package rat: quotients, floors. -/
namespace Go.Proofs.YtnfmpphlkalbfaaGreatDoor
open Go.Eng Go.Vx
set_option linter.unusedSimpArgs false
set_option linter.unusedVariables false
set_option maxRecDepth 100000
theorem rat_div_eq {x y : Rat} : ((x.num * (y.den : Int) : Int) : Rat) / ((y.num * (x.den : Int) : Int) : Rat) = x / y := by
  rw [← Rat.divInt_eq_div, Rat.div_def x y, Rat.inv_def]
  conv => rhs; rw [← Rat.num_divInt_den x]
  rw [Rat.divInt_mul_divInt, Int.mul_comm y.num]
theorem rat_num_ne {y : Rat} (h : y ≠ 0) : y.num ≠ 0 := fun e => h (Rat.num_eq_zero.1 e)
theorem rdiv_fn {x y : Rat} (hy0 : y ≠ 0) (hx : RS 400000 x) (hy : RS 400000 y) : Fn1 Tryz.prog 21 [RV x, RV y] [] (.tup [RV (x / y), .lit (.int .i64 0)]) [] := by
  obtain ⟨hx1, hx2⟩ := hx
  obtain ⟨hy1, hy2⟩ := hy
  have hm1 := wmul_fn (x := x.num) (y := (y.den : Int)) (by omega) (by simp only [Int.natAbs_natCast]; omega)
  have hm2 := wmul_fn (x := y.num) (y := (x.den : Int)) (by omega) (by simp only [Int.natAbs_natCast]; omega)
  have hl1 := len_mulZ (x := x.num) (y := (y.den : Int)) hx1 (by simp only [Int.natAbs_natCast]; exact hy2)
  have hl2 := len_mulZ (x := y.num) (y := (x.den : Int)) hy1 (by simp only [Int.natAbs_natCast]; exact hx2)
  have hn0 : y.num * (x.den : Int) ≠ 0 := Int.mul_ne_zero (rat_num_ne hy0) (by have := x.den_nz; omega)
  have hr := rfrac_fn (p := x.num * (y.den : Int)) (q := y.num * (x.den : Int)) hn0 (by omega) (by omega)
  rw [rat_div_eq] at hr
  refine fn1N_of pl21 (by kernel_rfl) Tryz.call21 Tryz.func21 rfl (by kernel_rfl) rfl [.cell 4 31, .tmp 5] (by kernel_rfl) fun Q hQ => ?_
  simp (maxSteps := 1000000) (disch := (first | omega | (simp only [lnA, List.length_map, List.length_range, true_and, and_true]; (try omega); done) | fail)) only [go_sem, Int.reduceEq, Int.reduceToNat, Nat.reduceAdd, Nat.reduceMul, Nat.reduceEqDiff, ↓reduceIte]
  refine callV0 (rdenw_fn (x := y) (by omega)) rfl rfl ?_
  simp (maxSteps := 1000000) (disch := (first | omega | (simp only [lnA, List.length_map, List.length_range, true_and, and_true]; (try omega); done) | fail)) only [go_sem, Int.reduceEq, Int.reduceToNat, Nat.reduceAdd, Nat.reduceMul, Nat.reduceEqDiff, ↓reduceIte]
  refine callV0 (hm1) rfl rfl ?_
  simp (maxSteps := 1000000) (disch := (first | omega | (simp only [lnA, List.length_map, List.length_range, true_and, and_true]; (try omega); done) | fail)) only [go_sem, Int.reduceEq, Int.reduceToNat, Nat.reduceAdd, Nat.reduceMul, Nat.reduceEqDiff, ↓reduceIte]
  refine callV0 (rdenw_fn (x := x) (by omega)) rfl rfl ?_
  simp (maxSteps := 1000000) (disch := (first | omega | (simp only [lnA, List.length_map, List.length_range, true_and, and_true]; (try omega); done) | fail)) only [go_sem, Int.reduceEq, Int.reduceToNat, Nat.reduceAdd, Nat.reduceMul, Nat.reduceEqDiff, ↓reduceIte]
  refine callV0 (hm2) rfl rfl ?_
  simp (maxSteps := 1000000) (disch := (first | omega | (simp only [lnA, List.length_map, List.length_range, true_and, and_true]; (try omega); done) | fail)) only [go_sem, Int.reduceEq, Int.reduceToNat, Nat.reduceAdd, Nat.reduceMul, Nat.reduceEqDiff, ↓reduceIte]
  refine callV0 (hr) rfl rfl ?_
  simp (maxSteps := 1000000) (disch := (first | omega | (simp only [lnA, List.length_map, List.length_range, true_and, and_true]; (try omega); done) | fail)) only [go_sem, Int.reduceEq, Int.reduceToNat, Nat.reduceAdd, Nat.reduceMul, Nat.reduceEqDiff, ↓reduceIte]
  exact endW [] hQ
theorem RS_div {k l : Nat} {x y : Rat} (hk : 1 ≤ k + l) (hx : RS k x) (hy : RS l y) : RS (k + l) (x / y) := by
  by_cases h : y = 0
  · subst h
    have e : x / 0 = 0 := by rw [Rat.div_def, Rat.inv_zero, Rat.mul_zero]
    rw [e]
    exact ⟨by rw [show (0 : Rat).num.natAbs = 0 from rfl, wg_zero]; exact Nat.zero_le _, Nat.le_trans (wg_one (by decide)) hk⟩
  · have hn0 : y.num * (x.den : Int) ≠ 0 := Int.mul_ne_zero (rat_num_ne h) (by have := x.den_nz; omega)
    rw [← rat_div_eq, ← frac_eq hn0]
    refine RS_mk (by omega) ?_ ?_
    · rw [sg_abs]
      exact len_mulZ hx.1 (by simp only [Int.natAbs_natCast]; exact hy.2)
    · have := len_mulZ (x := y.num) (y := (x.den : Int)) hy.1 (by simp only [Int.natAbs_natCast]; exact hx.2)
      omega
theorem rfloor_fn {x : Rat} (hx : RS 400000 x) : Fn1 Tryz.prog 98 [RV x] [] (WV x.floor) [] := by
  obtain ⟨hx1, hx2⟩ := hx
  have hd := wdiv_fn (x := x.num) (y := (x.den : Int)) (by have := x.den_nz; omega) (by omega) (by simp only [Int.natAbs_natCast]; omega)
  rw [← Rat.floor_def] at hd
  refine fn1N_of pl98 (by kernel_rfl) Tryz.call98 Tryz.func98 rfl (by kernel_rfl) rfl [.cell 2 29] (by kernel_rfl) fun Q hQ => ?_
  simp (maxSteps := 1000000) (disch := (first | omega | (simp only [lnA, List.length_map, List.length_range, true_and, and_true]; (try omega); done) | fail)) only [go_sem, Int.reduceEq, Int.reduceToNat, Nat.reduceAdd, Nat.reduceMul, Nat.reduceEqDiff, ↓reduceIte]
  refine callV0 (rdenw_fn (x := x) (by omega)) rfl rfl ?_
  simp (maxSteps := 1000000) (disch := (first | omega | (simp only [lnA, List.length_map, List.length_range, true_and, and_true]; (try omega); done) | fail)) only [go_sem, Int.reduceEq, Int.reduceToNat, Nat.reduceAdd, Nat.reduceMul, Nat.reduceEqDiff, ↓reduceIte]
  refine callV0 (hd) rfl rfl ?_
  simp (maxSteps := 1000000) (disch := (first | omega | (simp only [lnA, List.length_map, List.length_range, true_and, and_true]; (try omega); done) | fail)) only [go_sem, Int.reduceEq, Int.reduceToNat, Nat.reduceAdd, Nat.reduceMul, Nat.reduceEqDiff, ↓reduceIte]
  exact endW [] hQ
end Go.Proofs.YtnfmpphlkalbfaaGreatDoor

/-! The document's fractions. -/
namespace Go.Proofs.YtnfmpphlkalbfaaGreatDoor
open Go.Eng Go.Vx
set_option linter.unusedSimpArgs false
set_option linter.unusedVariables false
set_option maxRecDepth 100000
def QD (p m d : Nat) : V := .agg [.row 1 ((nl (dg p)).map (ie .i64)), .row 1 ((nl (dg m)).map (ie .i64)), .row 1 ((nl (dg d)).map (ie .i64))]
attribute [go_sem] QD
/-- The text of a fraction. -/
def qS (x : Rat) : List UInt8 := zS x.num ++ (if x.den = 1 then [] else 47 :: decS x.den)
theorem ZD0 (d : Nat) : ZD d 0 = .agg [.row 1 ((nl (dg d)).map (ie .i64)), .row 1 []] := by
  unfold ZD
  rw [dgz]
theorem qby_fn {p m d : Nat} (hp : (dg p).length ≤ 1000) (hm : (dg m).length ≤ 1000) (hd : (dg d).length ≤ 1000) : Fn1 Tryz.prog 92 [ZD p m, DV d] [] (ZD (p * d) (m * d)) [] := by
  have z : (dg 0).length ≤ 0 := by rw [dg_zero]; exact Nat.le_refl _
  have h := zmul_fn (a := p) (b := m) (c := d) (d := 0) (by omega) (by omega) (by omega) (by omega)
  rw [Nat.mul_zero, Nat.mul_zero, Nat.add_zero, Nat.zero_add, ZD0] at h
  refine fn1N_of pl92 (by kernel_rfl) Tryz.call92 Tryz.func92 rfl (by kernel_rfl) rfl [.cell 4 35] (by kernel_rfl) fun Q hQ => ?_
  simp (maxSteps := 1000000) (disch := (first | omega | (simp only [lnA, List.length_map, List.length_range, true_and, and_true]; (try omega); done) | fail)) only [go_sem, Int.reduceEq, Int.reduceToNat, Nat.reduceAdd, Nat.reduceMul, Nat.reduceEqDiff, ↓reduceIte]
  refine callW [] [] (h) ?_
  simp (maxSteps := 1000000) (disch := (first | omega | (simp only [lnA, List.length_map, List.length_range, true_and, and_true]; (try omega); done) | fail)) only [go_sem, Int.reduceEq, Int.reduceToNat, Nat.reduceAdd, Nat.reduceMul, Nat.reduceEqDiff, ↓reduceIte]
  exact endW [] hQ
theorem qfrac_fn {p m d : Nat} : Fn1 Tryz.prog 31 [ZD p m, DV d] [] (QD p m d) [] := by
  refine fn1N_of pl31 (by kernel_rfl) Tryz.call31 Tryz.func31 rfl (by kernel_rfl) rfl [.cell 4 37] (by kernel_rfl) fun Q hQ => ?_
  simp (maxSteps := 1000000) (disch := (first | omega | (simp only [lnA, List.length_map, List.length_range, true_and, and_true]; (try omega); done) | fail)) only [go_sem, Int.reduceEq, Int.reduceToNat, Nat.reduceAdd, Nat.reduceMul, Nat.reduceEqDiff, ↓reduceIte]
  exact endW [] hQ
theorem qadd_fn {p m d p' m' d' : Nat} (hp : (dg p).length ≤ 1000) (hm : (dg m).length ≤ 1000) (hd : (dg d).length ≤ 1000) (hp' : (dg p').length ≤ 1000) (hm' : (dg m').length ≤ 1000) (hd' : (dg d').length ≤ 1000) :
    Fn1 Tryz.prog 62 [QD p m d, QD p' m' d'] [] (QD (p * d' + p' * d) (m * d' + m' * d) (d * d')) [] := by
  have b1 := qby_fn hp hm hd'
  have b2 := qby_fn hp' hm' hd
  have l1 := dg_mul p d'
  have l2 := dg_mul m d'
  have l3 := dg_mul p' d
  have l4 := dg_mul m' d
  have a := zadd_fn (a := p * d') (b := m * d') (c := p' * d) (d := m' * d) (by omega) (by omega) (by omega) (by omega)
  have m1 := lmul_fn (a := d) (b := d') (by omega) (by omega)
  refine fn1N_of pl62 (by kernel_rfl) Tryz.call62 Tryz.func62 rfl (by kernel_rfl) rfl [.cell 4 37] (by kernel_rfl) fun Q hQ => ?_
  generalize p * d' + p' * d = u1 at *
  generalize m * d' + m' * d = u2 at *
  generalize p * d' = u3 at *
  generalize m * d' = u4 at *
  generalize p' * d = u5 at *
  generalize m' * d = u6 at *
  generalize d * d' = u7 at *
  repeat (first | (refine callV0 (b1) rfl rfl ?_) | (refine callV0 (b2) rfl rfl ?_) | (refine callV0 (a) rfl rfl ?_) | (refine callV0 (m1) rfl rfl ?_) | (simp (maxSteps := 1000000) (disch := (first | omega | (simp only [lnA, List.length_map, List.length_range, true_and, and_true]; (try omega); done) | fail)) only [go_sem, Int.reduceEq, Int.reduceToNat, Nat.reduceAdd, Nat.reduceMul, Nat.reduceEqDiff, ↓reduceIte]))
  exact endW [] hQ
theorem qmul_fn {p m d p' m' d' : Nat} (hp : (dg p).length ≤ 1000) (hm : (dg m).length ≤ 1000) (hd : (dg d).length ≤ 1000) (hp' : (dg p').length ≤ 1000) (hm' : (dg m').length ≤ 1000) (hd' : (dg d').length ≤ 1000) :
    Fn1 Tryz.prog 60 [QD p m d, QD p' m' d'] [] (QD (p * p' + m * m') (p * m' + m * p') (d * d')) [] := by
  have a := zmul_fn (a := p) (b := m) (c := p') (d := m') (by omega) (by omega) (by omega) (by omega)
  have m1 := lmul_fn (a := d) (b := d') (by omega) (by omega)
  refine fn1N_of pl60 (by kernel_rfl) Tryz.call60 Tryz.func60 rfl (by kernel_rfl) rfl [.cell 4 37] (by kernel_rfl) fun Q hQ => ?_
  generalize p * p' + m * m' = u1 at *
  generalize p * m' + m * p' = u2 at *
  generalize d * d' = u7 at *
  repeat (first | (refine callV0 (a) rfl rfl ?_) | (refine callV0 (m1) rfl rfl ?_) | (simp (maxSteps := 1000000) (disch := (first | omega | (simp only [lnA, List.length_map, List.length_range, true_and, and_true]; (try omega); done) | fail)) only [go_sem, Int.reduceEq, Int.reduceToNat, Nat.reduceAdd, Nat.reduceMul, Nat.reduceEqDiff, ↓reduceIte]))
  exact endW [] hQ
end Go.Proofs.YtnfmpphlkalbfaaGreatDoor
