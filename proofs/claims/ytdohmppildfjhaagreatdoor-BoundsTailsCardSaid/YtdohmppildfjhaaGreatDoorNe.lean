import Derived.Test.YtdohmppildfjhaaGreatDoorN2
import Derived.Test.YtdohmppildfjhaaGreatDoorD3
import Derived.Test.YtdohmppildfjhaaGreatDoorRj
import Derived.Test.YtdohmppildfjhaaGreatDoorZ2
import Derived.Test.YtdohmppildfjhaaGreatDoorE7
namespace Go.Proofs.YtdohmppildfjhaaGreatDoor
open Go.Eng Go.Vx
set_option linter.unusedSimpArgs false
set_option linter.unusedVariables false
set_option maxRecDepth 100000
theorem bits_fn {n : Nat} (hn : (wg n).length ≤ 4000000) : Fn1 Tryz.prog 172 [NV n] [] (.lit (.int .i64 (bl n : Int))) [] := by
 refine fn1N_of pl172 (by kernel_rfl) Tryz.call172 Tryz.func172 rfl (by kernel_rfl) rfl [.tmp 2] (by kernel_rfl) fun Q hQ => ?_
 have hnl := nl_len (wg n)
 by_cases h : n = 0
 ·
  subst h
  rw [bl_zero] at hQ
  simp (maxSteps := 1000000) (disch := (first | omega | (simp only [lnA, List.length_map, List.length_range, true_and, and_true]; (try omega); done) | fail)) only [go_sem, wg_zero, Int.reduceEq, Int.reduceToNat, Nat.reduceAdd, Nat.reduceMul, Nat.reduceEqDiff, ↓reduceIte]
  exact endW [] hQ
 ·
  obtain ⟨h1, h2, h3⟩ := wg_top h
  have hg := nl_get (wg n) ((wg n).length - 1)
  have hd : decide (((nl (wg n)).length : Int) = 0) = false := decide_eq_false (by omega)
  have hix : (((nl (wg n)).length : Int) - 1).toNat = (wg n).length - 1 := by omega
  have h64 := len64_fn (n := (wg n).getD ((wg n).length - 1) 0) h2
  rw [h3] at hQ
  generalize (wg n).getD ((wg n).length - 1) 0 = t at *
  have hbt := bl_le_of (n := t) (k := 64) (by omega)
  have hsum : 64 * (((nl (wg n)).length : Int) - 1) + (bl t : Int) = ((64 * ((wg n).length - 1) + bl t : Nat) : Int) := by omega
  simp (maxSteps := 1000000) (disch := (first | omega | (simp only [lnA, List.length_map, List.length_range, true_and, and_true]; (try omega); done) | fail)) only [go_sem, hd, hix, hg, Int.reduceEq, Int.reduceToNat, Nat.reduceAdd, Nat.reduceMul, Nat.reduceEqDiff, ↓reduceIte]
  refine callV0 (h64) rfl rfl ?_
  simp (maxSteps := 1000000) (disch := (first | omega | (simp only [lnA, List.length_map, List.length_range, true_and, and_true]; (try omega); done) | fail)) only [go_sem, hsum, Int.reduceEq, Int.reduceToNat, Nat.reduceAdd, Nat.reduceMul, Nat.reduceEqDiff, ↓reduceIte]
  exact endW [] hQ
theorem pow_split (a n i : Nat) : a ^ (n % 2 ^ i) * (a ^ 2 ^ i) ^ (n / 2 ^ i) = a ^ n := by
 rw [← Nat.pow_mul, ← Nat.pow_add, Nat.mod_add_div]
theorem pow_up (n i : Nat) : n % 2 ^ (i + 1) = n % 2 ^ i + 2 ^ i * (n / 2 ^ i % 2) := Nat.mod_pow_succ
theorem div_up (n i : Nat) : n / 2 ^ (i + 1) = n / 2 ^ i / 2 := by rw [Nat.pow_succ, Nat.div_div_eq_div_mul]
def pwI (a n : Nat) (z : Nat × Nat × Nat) : Prop := ∃ i, z.1 = a ^ 2 ^ i ∧ z.2.1 = a ^ (n % 2 ^ i) ∧ z.2.2 = n / 2 ^ i
theorem pwI_next {a n b o m : Nat} (h : pwI a n (b, o, m)) : pwI a n (b * b, if m % 2 = 1 then o * b else o, m / 2) := by
 obtain ⟨i, h1, h2, h3⟩ := h
 simp only at h1 h2 h3
 refine ⟨i + 1, ?_, ?_, ?_⟩
 ·
  simp only
  rw [h1, ← Nat.pow_add, Nat.pow_succ, Nat.mul_two]
 ·
  simp only
  rw [pow_up, ← h3, h2, h1]
  by_cases hm : m % 2 = 1
  ·
   rw [if_pos hm, hm, Nat.mul_one, Nat.pow_add]
  ·
   rw [if_neg hm, show m % 2 = 0 by omega, Nat.mul_zero, Nat.add_zero]
 ·
  simp only
  rw [div_up, h3]
theorem pwI_end {a n b o : Nat} (h : pwI a n (b, o, 0)) : o = a ^ n := by
 obtain ⟨i, h1, h2, h3⟩ := h
 simp only at h1 h2 h3
 have := pow_split a n i
 rw [← h3, Nat.pow_zero, Nat.mul_one] at this
 rw [h2, this]
theorem pwI_le {a n b o m : Nat} (h : pwI a n (b, o, m)) (hm : 0 < m) : ∃ i, i ≤ n ∧ b = a ^ i ∧ ∃ j, j ≤ n ∧ o = a ^ j := by
 obtain ⟨i, h1, h2, h3⟩ := h
 simp only at h1 h2 h3
 refine ⟨2 ^ i, ?_, h1, n % 2 ^ i, Nat.mod_le _ _, h2⟩
 refine Classical.byContradiction fun hn => ?_
 rw [Nat.div_eq_of_lt (by omega)] at h3
 omega
set_option maxHeartbeats 1000000 in
theorem npow_fn {a n : Nat} (hn : n < 9223372036854775808) (ha : bl a ≤ 8192) (h : 1 < bl a → n * bl a ≤ 8192) : Fn1 Tryz.prog 187 [NV a, .lit (.int .i64 (n : Int))] [] (.tup [NV (a ^ n), .lit (.int .i64 0)]) [] := by
 obtain ⟨k, hk, hpk, hkn⟩ : ∃ k, (if bl a ≤ 1 then min n 1 else n) = k ∧ a ^ n = a ^ k ∧ k ≤ n := by
  refine ⟨_, rfl, ?_, ?_⟩
  ·
   by_cases h1 : bl a ≤ 1
   ·
    rw [if_pos h1]
    have h2 := bl_lt a
    have h3 : 2 ^ bl a ≤ 2 ^ 1 := Nat.pow_le_pow_right (by decide) h1
    have h4 : a = 0 ∨ a = 1 := by omega
    rcases h4 with rfl | rfl
    ·
     rcases Nat.eq_zero_or_pos n with rfl | hp
     ·
      rfl
     ·
      rw [Nat.zero_pow hp, Nat.min_eq_right (by omega)]
    ·
     rw [Nat.one_pow, Nat.one_pow]
   ·
    rw [if_neg h1]
  ·
   split <;> omega
 have hsz : ∀ i, i ≤ k → bl (a ^ i) ≤ 8193 := fun i hi => by
  refine Nat.le_trans (pow_bl_le a i) ?_
  by_cases h1 : bl a ≤ 1
  ·
   rw [if_pos h1] at hk
   have h5 := Nat.mul_le_mul h1 (show i ≤ 1 by omega)
   omega
  ·
   have h5 := h (by omega)
   have h6 := Nat.mul_le_mul_left (bl a) (show i ≤ n by omega)
   rw [Nat.mul_comm (bl a) n] at h6
   omega
 have wa : (wg a).length ≤ 128 := wg_bl (by omega)
 refine fn1N_of pl187 (by kernel_rfl) Tryz.call187 Tryz.func187 rfl (by kernel_rfl) rfl [.cell 4 31, .tmp 5] (by kernel_rfl) fun Q hQ => ?_
 rw [hpk] at hQ
 clear hpk
 refine runW ?_
 refine callV0 (bits_fn (n := a) (by omega)) rfl rfl ?_
 by_cases h1 : bl a ≤ 1
 case' pos =>
  rw [if_pos h1] at hk
  have hmin : min (n : Int) 1 = (k : Int) := by omega
  simp (maxSteps := 1000000) (disch := (first | omega | (simp only [lnA, List.length_map, List.length_range, true_and, and_true]; (try omega); done) | fail)) only [go_sem, decide_eq_false (show ¬ (1 : Int) < (bl a : Int) by omega), Int.reduceEq, Int.reduceToNat, Nat.reduceAdd, Nat.reduceMul, Nat.reduceEqDiff, ↓reduceIte]
  refine callW [] [2] (of1_fn (x := 1) (by decide)) ?_
  refine runW ?_
  refine callV0 (bits_fn (n := a) (by omega)) rfl rfl ?_
  simp (maxSteps := 1000000) (disch := (first | omega | (simp only [lnA, List.length_map, List.length_range, true_and, and_true]; (try omega); done) | fail)) only [go_sem, hmin, Int.reduceEq, Int.reduceToNat, Nat.reduceAdd, Nat.reduceMul, Nat.reduceEqDiff, ↓reduceIte]
 case' neg =>
  rw [if_neg h1] at hk
  have hk' : k = n := hk.symm
  subst hk'
  have hq := (Nat.le_div_iff_mul_le (show 0 < bl a by omega)).2 (h (by omega))
  have hdd : (8192 : Int) / (bl a : Int) = ((8192 / bl a : Nat) : Int) := by simp
  generalize 8192 / bl a = g at *
  refine runW ?_
  refine callV0 (bits_fn (n := a) (by omega)) rfl rfl ?_
  simp (maxSteps := 1000000) (disch := (first | omega | (simp only [lnA, List.length_map, List.length_range, true_and, and_true]; (try omega); done) | fail)) only [go_sem, hdd, Int.reduceEq, Int.reduceToNat, Nat.reduceAdd, Nat.reduceMul, Nat.reduceEqDiff, ↓reduceIte]
  refine callW [] [2] (of1_fn (x := 1) (by decide)) ?_
  refine runW ?_
  refine callV0 (bits_fn (n := a) (by omega)) rfl rfl ?_
  refine runW ?_
 all_goals
  have w1 : (wg 1).length ≤ 1 := wg_one (by decide)
  refine loopW (X := Nat × Nat × Nat) (st := fun z => ([(1, .lit (.int .i64 (z.2.2 : Int))), (2, .ref 0 0 0 0), (4, .ref 1 0 0 0), (6, .ref 2 0 0 0)], [some (.cells [.row 1 ((nl (wg z.1)).map (ie .u64))]), some (.cells [.lit (.slice none 0 0)]), some (.cells [.row 1 ((nl (wg z.2.1)).map (ie .u64))])]))
   (inv := fun z => pwI a k z ∧ z.2.2 ≤ k) (m := fun z => z.2.2) (a, 1, k) [some 0, some 1, some 3] ⟨⟨0, by simp, by simp [Nat.mod_one], by simp⟩, Nat.le_refl _⟩ ?_
  rintro ⟨b, o, m⟩ ⟨hI, hm⟩
  simp only at hI hm ⊢
  by_cases hm0 : 0 < m
  ·
   obtain ⟨i, hi, hbi, j, hj, hoj⟩ := pwI_le hI hm0
   have sb := hsz i hi
   have so := hsz j hj
   rw [← hbi] at sb
   rw [← hoj] at so
   have wb : (wg b).length ≤ 129 := wg_bl (by omega)
   have wo : (wg o).length ≤ 129 := wg_bl (by omega)
   have hnx := pwI_next hI
   by_cases hodd : m % 2 = 1
   ·
    rw [if_pos hodd] at hnx
    simp (maxSteps := 1000000) (disch := (first | omega | (simp only [lnA, List.length_map, List.length_range, true_and, and_true]; (try omega); done) | fail)) only [go_sem, decide_eq_true (show (m : Int) % 2 = 1 by omega), Int.reduceEq, Int.reduceToNat, Nat.reduceAdd, Nat.reduceMul, Nat.reduceEqDiff, ↓reduceIte]
    refine callV0 (nmul_fn (a := o) (b := b) (by omega) (by omega)) rfl rfl ?_
    refine runW ?_
    refine callV0 (nmul_fn (a := b) (b := b) (by omega) (by omega)) rfl rfl ?_
    refine runW ?_
    refine nextW (b * b, o * b, m / 2) [some 0, some 1, some 2] ⟨hnx, by simp only; omega⟩ (by simp only; omega)
   ·
    first
    | (exfalso; omega)
    |
     rw [if_neg hodd] at hnx
     simp (maxSteps := 1000000) (disch := (first | omega | (simp only [lnA, List.length_map, List.length_range, true_and, and_true]; (try omega); done) | fail)) only [go_sem, decide_eq_false (show ¬ (m : Int) % 2 = 1 by omega), Int.reduceEq, Int.reduceToNat, Nat.reduceAdd, Nat.reduceMul, Nat.reduceEqDiff, ↓reduceIte]
     refine callV0 (nmul_fn (a := b) (b := b) (by omega) (by omega)) rfl rfl ?_
     refine runW ?_
     refine nextW (b * b, o, m / 2) [some 0, some 1, some 2] ⟨hnx, by simp only; omega⟩ (by simp only; omega)
  ·
   obtain rfl : m = 0 := by omega
   have he := pwI_end hI
   subst he
   refine runW ?_
   exact endW [] hQ
theorem rat_div_eq {x y : Rat} : ((x.num * (y.den : Int) : Int) : Rat) / ((y.num * (x.den : Int) : Int) : Rat) = x / y := by
 rw [← Rat.divInt_eq_div, Rat.div_def x y, Rat.inv_def]
 conv => rhs; rw [← Rat.num_divInt_den x]
 rw [Rat.divInt_mul_divInt, Int.mul_comm y.num]
theorem rat_num_ne {y : Rat} (h : y ≠ 0) : y.num ≠ 0 := fun e => h (Rat.num_eq_zero.1 e)
theorem rdiv_fn {x y : Rat} (hy0 : y ≠ 0) (hx : RS 400000 x) (hy : RS 400000 y) : Fn1 Tryz.prog 22 [RV x, RV y] [] (.tup [RV (x / y), .lit (.int .i64 0)]) [] := by
 obtain ⟨hx1, hx2⟩ := hx
 obtain ⟨hy1, hy2⟩ := hy
 have hm1 := wmul_fn (x := x.num) (y := (y.den : Int)) (by omega) (by simp only [Int.natAbs_natCast]; omega)
 have hm2 := wmul_fn (x := y.num) (y := (x.den : Int)) (by omega) (by simp only [Int.natAbs_natCast]; omega)
 have hl1 := len_mulZ (x := x.num) (y := (y.den : Int)) hx1 (by simp only [Int.natAbs_natCast]; exact hy2)
 have hl2 := len_mulZ (x := y.num) (y := (x.den : Int)) hy1 (by simp only [Int.natAbs_natCast]; exact hx2)
 have hn0 : y.num * (x.den : Int) ≠ 0 := Int.mul_ne_zero (rat_num_ne hy0) (by have := x.den_nz; omega)
 have hr := rfrac_fn (p := x.num * (y.den : Int)) (q := y.num * (x.den : Int)) hn0 (by omega) (by omega)
 rw [rat_div_eq] at hr
 refine fn1N_of pl22 (by kernel_rfl) Tryz.call22 Tryz.func22 rfl (by kernel_rfl) rfl [.cell 4 35, .tmp 5] (by kernel_rfl) fun Q hQ => ?_
 refine runW ?_
 refine callV0 (rdenw_fn (x := y) (by omega)) rfl rfl ?_
 refine runW ?_
 refine callV0 (hm1) rfl rfl ?_
 refine runW ?_
 refine callV0 (rdenw_fn (x := x) (by omega)) rfl rfl ?_
 refine runW ?_
 refine callV0 (hm2) rfl rfl ?_
 refine runW ?_
 refine callV0 (hr) rfl rfl ?_
 refine runW ?_
 exact endW [] hQ
theorem RS_div {k l : Nat} {x y : Rat} (hk : 1 ≤ k + l) (hx : RS k x) (hy : RS l y) : RS (k + l) (x / y) := by
 by_cases h : y = 0
 ·
  subst h
  have e : x / 0 = 0 := by rw [Rat.div_def, Rat.inv_zero, Rat.mul_zero]
  rw [e]
  exact ⟨by rw [show (0 : Rat).num.natAbs = 0 from rfl, wg_zero]; exact Nat.zero_le _, Nat.le_trans (wg_one (by decide)) hk⟩
 ·
  have hn0 : y.num * (x.den : Int) ≠ 0 := Int.mul_ne_zero (rat_num_ne h) (by have := x.den_nz; omega)
  rw [← rat_div_eq, ← frac_eq hn0]
  refine RS_mk (by omega) ?_ ?_
  ·
   rw [sg_abs]
   exact len_mulZ hx.1 (by simp only [Int.natAbs_natCast]; exact hy.2)
  ·
   have := len_mulZ (x := y.num) (y := (x.den : Int)) hy.1 (by simp only [Int.natAbs_natCast]; exact hx.2)
   omega
theorem rfloor_fn {x : Rat} (hx : RS 400000 x) : Fn1 Tryz.prog 88 [RV x] [] (WV x.floor) [] := by
 obtain ⟨hx1, hx2⟩ := hx
 have hd := wdiv_fn (x := x.num) (y := (x.den : Int)) (by have := x.den_nz; omega) (by omega) (by simp only [Int.natAbs_natCast]; omega)
 rw [← Rat.floor_def] at hd
 refine fn1N_of pl88 (by kernel_rfl) Tryz.call88 Tryz.func88 rfl (by kernel_rfl) rfl [.cell 2 33] (by kernel_rfl) fun Q hQ => ?_
 refine runW ?_
 refine callV0 (rdenw_fn (x := x) (by omega)) rfl rfl ?_
 refine runW ?_
 refine callV0 (hd) rfl rfl ?_
 refine runW ?_
 exact endW [] hQ
theorem log10_fn {x : Nat} (hx : x ≤ 64) : Fn1 Tryz.prog 148 [.lit (.int .i64 (x : Int))] [] (.lit (.int .i64 ((x * 78913 / 262144 : Nat) : Int))) [] := by
 refine fn1N_of pl148 (by kernel_rfl) Tryz.call148 Tryz.func148 rfl (by kernel_rfl) rfl [.tmp 2] (by kernel_rfl) fun Q hQ => ?_
 refine runW ?_
 exact endW [] hQ
theorem bool2_fn {b : Bool} : Fn1 Tryz.prog 149 [.lit (.bool b)] [] (.lit (.int .i64 (if b then 1 else 0))) [] := by
 refine fn1N_of pl149 (by kernel_rfl) Tryz.call149 Tryz.func149 rfl (by kernel_rfl) rfl [.tmp 2] (by kernel_rfl) fun Q hQ => ?_
 cases b
 ·
  refine runW ?_
  exact endW [] hQ
 ·
  refine runW ?_
  exact endW [] hQ
theorem numDigits_fn {d : Nat} (h0 : d ≠ 0) (h : d < 18446744073709551616) : Fn1 Tryz.prog 135 [.lit (.int .u64 (d : Int))] [] (.lit (.int .i64 (nd10 d : Int))) [] := by
 refine fn1N_of pl135 (by kernel_rfl) Tryz.call135 Tryz.func135 rfl (by kernel_rfl) rfl [.tmp 2] (by kernel_rfl) fun Q hQ => ?_
 obtain ⟨h1, h2⟩ := nd10_log h0 h
 have hb := bl_le_of (n := d) (k := 64) (by omega)
 have hl := log10_fn hb
 rw [h1] at hQ
 generalize bl d * 78913 / 262144 = k at *
 have hidx := fun (F : Bool → V → Prop) => idxV_lay (P := Tryz.prog) (t := 184) (len := 20) (et := 110) (m := k) (kd := .i64) (F := F) (g := 2) (by kernel_rfl) h2
 have hag : agOf Tryz.prog 110 = some none := by kernel_rfl
 refine runW ?_
 refine callV0 (len64_fn h) rfl rfl ?_
 refine runW ?_
 refine callV0 (hl) rfl rfl ?_
 simp (maxSteps := 1000000) (disch := (first | omega | (simp only [lnA, List.length_map, List.length_range, true_and, and_true]; (try omega); done) | fail)) only [go_sem, hidx, ldV_of hag, layK_pow h2, Int.reduceEq, Int.reduceToNat, Nat.reduceAdd, Nat.reduceMul, Nat.reduceEqDiff, ↓reduceIte]
 by_cases hc : 10 ^ k ≤ d
 ·
  rw [if_pos hc] at hQ
  have hd : decide (((10 ^ k : Nat) : Int) ≤ (d : Int)) = true := decide_eq_true (by omega)
  simp (maxSteps := 1000000) (disch := (first | omega | (simp only [lnA, List.length_map, List.length_range, true_and, and_true]; (try omega); done) | fail)) only [go_sem, hd, Int.reduceEq, Int.reduceToNat, Nat.reduceAdd, Nat.reduceMul, Nat.reduceEqDiff, ↓reduceIte]
  refine callV0 (bool2_fn (b := true)) rfl rfl ?_
  refine runW ?_
  exact endW [] hQ
 ·
  rw [if_neg hc] at hQ
  have hd : decide (((10 ^ k : Nat) : Int) ≤ (d : Int)) = false := decide_eq_false (by omega)
  simp (maxSteps := 1000000) (disch := (first | omega | (simp only [lnA, List.length_map, List.length_range, true_and, and_true]; (try omega); done) | fail)) only [go_sem, hd, Int.reduceEq, Int.reduceToNat, Nat.reduceAdd, Nat.reduceMul, Nat.reduceEqDiff, ↓reduceIte]
  refine callV0 (bool2_fn (b := false)) rfl rfl ?_
  refine runW ?_
  exact endW [] hQ
end Go.Proofs.YtdohmppildfjhaaGreatDoor
