import Derived.Test.YtpkfddfkacijoaaZ2
namespace Go.Proofs.Ytpkfddfkacijoaa
open Go.Eng Go.Vx
set_option linter.unusedSimpArgs false
set_option linter.unusedVariables false
set_option maxRecDepth 100000
theorem rat_div_eq {x y : Rat} : ((x.num * (y.den : Int) : Int) : Rat) / ((y.num * (x.den : Int) : Int) : Rat) = x / y := by
  rw [← Rat.divInt_eq_div, Rat.div_def x y, Rat.inv_def]
  conv => rhs; rw [← Rat.num_divInt_den x]
  rw [Rat.divInt_mul_divInt, Int.mul_comm y.num]
theorem rat_num_ne {y : Rat} (h : y ≠ 0) : y.num ≠ 0 := fun e => h (Rat.num_eq_zero.1 e)
theorem rdiv_fn {x y : Rat} (hy0 : y ≠ 0) (hx : RS 400000 x) (hy : RS 400000 y) : Fn1 Try.prog 69 [RV x, RV y] [] (.tup [RV (x / y), .lit (.int .i64 0)]) [] := by
  obtain ⟨hx1, hx2⟩ := hx
  obtain ⟨hy1, hy2⟩ := hy
  have hm1 := wmul_fn (x := x.num) (y := (y.den : Int)) (by omega) (by simp only [Int.natAbs_natCast]; omega)
  have hm2 := wmul_fn (x := y.num) (y := (x.den : Int)) (by omega) (by simp only [Int.natAbs_natCast]; omega)
  have hl1 := len_mulZ (x := x.num) (y := (y.den : Int)) hx1 (by simp only [Int.natAbs_natCast]; exact hy2)
  have hl2 := len_mulZ (x := y.num) (y := (x.den : Int)) hy1 (by simp only [Int.natAbs_natCast]; exact hx2)
  have hn0 : y.num * (x.den : Int) ≠ 0 := Int.mul_ne_zero (rat_num_ne hy0) (by have := x.den_nz; omega)
  have hr := rfrac_fn (p := x.num * (y.den : Int)) (q := y.num * (x.den : Int)) hn0 (by omega) (by omega)
  rw [rat_div_eq] at hr
  refine fn1N_of pl69 (by kernel_rfl) Try.call69 Try.func69 rfl (by kernel_rfl) rfl [.cell 4 30, .tmp 5] (by kernel_rfl) fun Q hQ => ?_
  refine runW ?_
  refine callV0 (rdenw_fn (x := y) (by omega)) rfl rfl ?_
  refine runW ?_
  refine callV0 (hm1) rfl rfl ?_
  refine runW ?_
  refine callV0 (rdenw_fn (x := x) (by omega)) rfl rfl ?_
  refine runW ?_
  refine callV0 (hm2) rfl rfl ?_
  refine runW ?_
  refine callV0 (hr) rfl rfl ?_
  refine runW ?_
  exact endW [] hQ
theorem RS_div {k l : Nat} {x y : Rat} (hk : 1 ≤ k + l) (hx : RS k x) (hy : RS l y) : RS (k + l) (x / y) := by
  by_cases h : y = 0
  · subst h
    have e : x / 0 = 0 := by rw [Rat.div_def, Rat.inv_zero, Rat.mul_zero]
    rw [e]
    exact ⟨by rw [show (0 : Rat).num.natAbs = 0 from rfl, wg_zero]; exact Nat.zero_le _, Nat.le_trans (wg_one (by decide)) hk⟩
  · have hn0 : y.num * (x.den : Int) ≠ 0 := Int.mul_ne_zero (rat_num_ne h) (by have := x.den_nz; omega)
    rw [← rat_div_eq, ← frac_eq hn0]
    refine RS_mk (by omega) ?_ ?_
    · rw [sg_abs]
      exact len_mulZ hx.1 (by simp only [Int.natAbs_natCast]; exact hy.2)
    · have := len_mulZ (x := y.num) (y := (x.den : Int)) hy.1 (by simp only [Int.natAbs_natCast]; exact hx.2)
      omega
theorem rfloor_fn {x : Rat} (hx : RS 400000 x) : Fn1 Try.prog 88 [RV x] [] (WV x.floor) [] := by
  obtain ⟨hx1, hx2⟩ := hx
  have hd := wdiv_fn (x := x.num) (y := (x.den : Int)) (by have := x.den_nz; omega) (by omega) (by simp only [Int.natAbs_natCast]; omega)
  rw [← Rat.floor_def] at hd
  refine fn1N_of pl88 (by kernel_rfl) Try.call88 Try.func88 rfl (by kernel_rfl) rfl [.cell 2 28] (by kernel_rfl) fun Q hQ => ?_
  refine runW ?_
  refine callV0 (rdenw_fn (x := x) (by omega)) rfl rfl ?_
  refine runW ?_
  refine callV0 (hd) rfl rfl ?_
  refine runW ?_
  exact endW [] hQ
end Go.Proofs.Ytpkfddfkacijoaa
