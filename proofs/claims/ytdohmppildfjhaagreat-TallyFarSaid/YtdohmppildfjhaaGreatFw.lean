import Derived.Test.YtdohmppildfjhaaGreatN2
import Derived.Test.YtdohmppildfjhaaGreatD3
import Derived.Test.YtdohmppildfjhaaGreatE7
import Derived.Test.YtdohmppildfjhaaGreatE6
import Derived.Test.YtdohmppildfjhaaGreatKr
import Derived.Test.YtdohmppildfjhaaGreatN1
import Derived.Test.YtdohmppildfjhaaGreatKu
namespace Go.Proofs.YtdohmppildfjhaaGreat
open Go.Eng Go.Vx
set_option linter.unusedSimpArgs false
set_option linter.unusedVariables false
set_option maxRecDepth 100000
theorem bits_fn {n : Nat} (hn : (wg n).length ≤ 4000000) : Fn1 Tryz.prog 152 [NV n] [] (.lit (.int .i64 (bl n : Int))) [] := by
 refine fn1N_of pl152 (by kernel_rfl) Tryz.call152 Tryz.func152 rfl (by kernel_rfl) rfl [.tmp 2] (by kernel_rfl) fun Q hQ => ?_
 have hnl := nl_len (wg n)
 by_cases h : n = 0
 ·
  subst h
  rw [bl_zero] at hQ
  simp (maxSteps := 1000000) (disch := (first | omega | (simp only [lnA, List.length_map, List.length_range, true_and, and_true]; (try omega); done) | fail)) only [go_sem, wg_zero, Int.reduceEq, Int.reduceToNat, Nat.reduceAdd, Nat.reduceMul, Nat.reduceEqDiff, ↓reduceIte]
  exact endW [] hQ
 ·
  obtain ⟨h1, h2, h3⟩ := wg_top h
  have hg := nl_get (wg n) ((wg n).length - 1)
  have hd : decide (((nl (wg n)).length : Int) = 0) = false := decide_eq_false (by omega)
  have hix : (((nl (wg n)).length : Int) - 1).toNat = (wg n).length - 1 := by omega
  have h64 := len64_fn (n := (wg n).getD ((wg n).length - 1) 0) h2
  rw [h3] at hQ
  generalize (wg n).getD ((wg n).length - 1) 0 = t at *
  have hbt := bl_le_of (n := t) (k := 64) (by omega)
  have hsum : 64 * (((nl (wg n)).length : Int) - 1) + (bl t : Int) = ((64 * ((wg n).length - 1) + bl t : Nat) : Int) := by omega
  simp (maxSteps := 1000000) (disch := (first | omega | (simp only [lnA, List.length_map, List.length_range, true_and, and_true]; (try omega); done) | fail)) only [go_sem, hd, hix, hg, Int.reduceEq, Int.reduceToNat, Nat.reduceAdd, Nat.reduceMul, Nat.reduceEqDiff, ↓reduceIte]
  refine callV0 (h64) rfl rfl ?_
  simp (maxSteps := 1000000) (disch := (first | omega | (simp only [lnA, List.length_map, List.length_range, true_and, and_true]; (try omega); done) | fail)) only [go_sem, hsum, Int.reduceEq, Int.reduceToNat, Nat.reduceAdd, Nat.reduceMul, Nat.reduceEqDiff, ↓reduceIte]
  exact endW [] hQ
theorem pow_split (a n i : Nat) : a ^ (n % 2 ^ i) * (a ^ 2 ^ i) ^ (n / 2 ^ i) = a ^ n := by
 rw [← Nat.pow_mul, ← Nat.pow_add, Nat.mod_add_div]
theorem pow_up (n i : Nat) : n % 2 ^ (i + 1) = n % 2 ^ i + 2 ^ i * (n / 2 ^ i % 2) := Nat.mod_pow_succ
theorem div_up (n i : Nat) : n / 2 ^ (i + 1) = n / 2 ^ i / 2 := by rw [Nat.pow_succ, Nat.div_div_eq_div_mul]
def pwI (a n : Nat) (z : Nat × Nat × Nat) : Prop := ∃ i, z.1 = a ^ 2 ^ i ∧ z.2.1 = a ^ (n % 2 ^ i) ∧ z.2.2 = n / 2 ^ i
theorem pwI_next {a n b o m : Nat} (h : pwI a n (b, o, m)) : pwI a n (b * b, if m % 2 = 1 then o * b else o, m / 2) := by
 obtain ⟨i, h1, h2, h3⟩ := h
 simp only at h1 h2 h3
 refine ⟨i + 1, ?_, ?_, ?_⟩
 ·
  simp only
  rw [h1, ← Nat.pow_add, Nat.pow_succ, Nat.mul_two]
 ·
  simp only
  rw [pow_up, ← h3, h2, h1]
  by_cases hm : m % 2 = 1
  ·
   rw [if_pos hm, hm, Nat.mul_one, Nat.pow_add]
  ·
   rw [if_neg hm, show m % 2 = 0 by omega, Nat.mul_zero, Nat.add_zero]
 ·
  simp only
  rw [div_up, h3]
theorem pwI_end {a n b o : Nat} (h : pwI a n (b, o, 0)) : o = a ^ n := by
 obtain ⟨i, h1, h2, h3⟩ := h
 simp only at h1 h2 h3
 have := pow_split a n i
 rw [← h3, Nat.pow_zero, Nat.mul_one] at this
 rw [h2, this]
theorem pwI_le {a n b o m : Nat} (h : pwI a n (b, o, m)) (hm : 0 < m) : ∃ i, i ≤ n ∧ b = a ^ i ∧ ∃ j, j ≤ n ∧ o = a ^ j := by
 obtain ⟨i, h1, h2, h3⟩ := h
 simp only at h1 h2 h3
 refine ⟨2 ^ i, ?_, h1, n % 2 ^ i, Nat.mod_le _ _, h2⟩
 refine Classical.byContradiction fun hn => ?_
 rw [Nat.div_eq_of_lt (by omega)] at h3
 omega
set_option maxHeartbeats 1000000 in
theorem npow_fn {a n : Nat} (hn : n < 9223372036854775808) (ha : bl a ≤ 8192) (h : 1 < bl a → n * bl a ≤ 8192) : Fn1 Tryz.prog 166 [NV a, .lit (.int .i64 (n : Int))] [] (.tup [NV (a ^ n), .lit (.int .i64 0)]) [] := by
 obtain ⟨k, hk, hpk, hkn⟩ : ∃ k, (if bl a ≤ 1 then min n 1 else n) = k ∧ a ^ n = a ^ k ∧ k ≤ n := by
  refine ⟨_, rfl, ?_, ?_⟩
  ·
   by_cases h1 : bl a ≤ 1
   ·
    rw [if_pos h1]
    have h2 := bl_lt a
    have h3 : 2 ^ bl a ≤ 2 ^ 1 := Nat.pow_le_pow_right (by decide) h1
    have h4 : a = 0 ∨ a = 1 := by omega
    rcases h4 with rfl | rfl
    ·
     rcases Nat.eq_zero_or_pos n with rfl | hp
     ·
      rfl
     ·
      rw [Nat.zero_pow hp, Nat.min_eq_right (by omega)]
    ·
     rw [Nat.one_pow, Nat.one_pow]
   ·
    rw [if_neg h1]
  ·
   split <;> omega
 have hsz : ∀ i, i ≤ k → bl (a ^ i) ≤ 8193 := fun i hi => by
  refine Nat.le_trans (pow_bl_le a i) ?_
  by_cases h1 : bl a ≤ 1
  ·
   rw [if_pos h1] at hk
   have h5 := Nat.mul_le_mul h1 (show i ≤ 1 by omega)
   omega
  ·
   have h5 := h (by omega)
   have h6 := Nat.mul_le_mul_left (bl a) (show i ≤ n by omega)
   rw [Nat.mul_comm (bl a) n] at h6
   omega
 have wa : (wg a).length ≤ 128 := wg_bl (by omega)
 refine fn1N_of pl166 (by kernel_rfl) Tryz.call166 Tryz.func166 rfl (by kernel_rfl) rfl [.cell 4 37, .tmp 5] (by kernel_rfl) fun Q hQ => ?_
 rw [hpk] at hQ
 clear hpk
 refine runW ?_
 refine callV0 (bits_fn (n := a) (by omega)) rfl rfl ?_
 by_cases h1 : bl a ≤ 1
 case' pos =>
  rw [if_pos h1] at hk
  have hmin : min (n : Int) 1 = (k : Int) := by omega
  simp (maxSteps := 1000000) (disch := (first | omega | (simp only [lnA, List.length_map, List.length_range, true_and, and_true]; (try omega); done) | fail)) only [go_sem, decide_eq_false (show ¬ (1 : Int) < (bl a : Int) by omega), Int.reduceEq, Int.reduceToNat, Nat.reduceAdd, Nat.reduceMul, Nat.reduceEqDiff, ↓reduceIte]
  refine callW [] [2] (of1_fn (x := 1) (by decide)) ?_
  refine runW ?_
  refine callV0 (bits_fn (n := a) (by omega)) rfl rfl ?_
  simp (maxSteps := 1000000) (disch := (first | omega | (simp only [lnA, List.length_map, List.length_range, true_and, and_true]; (try omega); done) | fail)) only [go_sem, hmin, Int.reduceEq, Int.reduceToNat, Nat.reduceAdd, Nat.reduceMul, Nat.reduceEqDiff, ↓reduceIte]
 case' neg =>
  rw [if_neg h1] at hk
  have hk' : k = n := hk.symm
  subst hk'
  have hq := (Nat.le_div_iff_mul_le (show 0 < bl a by omega)).2 (h (by omega))
  have hdd : (8192 : Int) / (bl a : Int) = ((8192 / bl a : Nat) : Int) := by simp
  generalize 8192 / bl a = g at *
  refine runW ?_
  refine callV0 (bits_fn (n := a) (by omega)) rfl rfl ?_
  simp (maxSteps := 1000000) (disch := (first | omega | (simp only [lnA, List.length_map, List.length_range, true_and, and_true]; (try omega); done) | fail)) only [go_sem, hdd, Int.reduceEq, Int.reduceToNat, Nat.reduceAdd, Nat.reduceMul, Nat.reduceEqDiff, ↓reduceIte]
  refine callW [] [2] (of1_fn (x := 1) (by decide)) ?_
  refine runW ?_
  refine callV0 (bits_fn (n := a) (by omega)) rfl rfl ?_
  refine runW ?_
 all_goals
  have w1 : (wg 1).length ≤ 1 := wg_one (by decide)
  refine loopW (X := Nat × Nat × Nat) (st := fun z => ([(1, .lit (.int .i64 (z.2.2 : Int))), (2, .ref 0 0 0 0), (4, .ref 1 0 0 0), (6, .ref 2 0 0 0)], [some (.cells [.row 1 ((nl (wg z.1)).map (ie .u64))]), some (.cells [.lit (.slice none 0 0)]), some (.cells [.row 1 ((nl (wg z.2.1)).map (ie .u64))])]))
   (inv := fun z => pwI a k z ∧ z.2.2 ≤ k) (m := fun z => z.2.2) (a, 1, k) [some 0, some 1, some 3] ⟨⟨0, by simp, by simp [Nat.mod_one], by simp⟩, Nat.le_refl _⟩ ?_
  rintro ⟨b, o, m⟩ ⟨hI, hm⟩
  simp only at hI hm ⊢
  by_cases hm0 : 0 < m
  ·
   obtain ⟨i, hi, hbi, j, hj, hoj⟩ := pwI_le hI hm0
   have sb := hsz i hi
   have so := hsz j hj
   rw [← hbi] at sb
   rw [← hoj] at so
   have wb : (wg b).length ≤ 129 := wg_bl (by omega)
   have wo : (wg o).length ≤ 129 := wg_bl (by omega)
   have hnx := pwI_next hI
   by_cases hodd : m % 2 = 1
   ·
    rw [if_pos hodd] at hnx
    simp (maxSteps := 1000000) (disch := (first | omega | (simp only [lnA, List.length_map, List.length_range, true_and, and_true]; (try omega); done) | fail)) only [go_sem, decide_eq_true (show (m : Int) % 2 = 1 by omega), Int.reduceEq, Int.reduceToNat, Nat.reduceAdd, Nat.reduceMul, Nat.reduceEqDiff, ↓reduceIte]
    refine callV0 (nmul_fn (a := o) (b := b) (by omega) (by omega)) rfl rfl ?_
    refine runW ?_
    refine callV0 (nmul_fn (a := b) (b := b) (by omega) (by omega)) rfl rfl ?_
    refine runW ?_
    refine nextW (b * b, o * b, m / 2) [some 0, some 1, some 2] ⟨hnx, by simp only; omega⟩ (by simp only; omega)
   ·
    first
    | (exfalso; omega)
    |
     rw [if_neg hodd] at hnx
     simp (maxSteps := 1000000) (disch := (first | omega | (simp only [lnA, List.length_map, List.length_range, true_and, and_true]; (try omega); done) | fail)) only [go_sem, decide_eq_false (show ¬ (m : Int) % 2 = 1 by omega), Int.reduceEq, Int.reduceToNat, Nat.reduceAdd, Nat.reduceMul, Nat.reduceEqDiff, ↓reduceIte]
     refine callV0 (nmul_fn (a := b) (b := b) (by omega) (by omega)) rfl rfl ?_
     refine runW ?_
     refine nextW (b * b, o, m / 2) [some 0, some 1, some 2] ⟨hnx, by simp only; omega⟩ (by simp only; omega)
  ·
   obtain rfl : m = 0 := by omega
   have he := pwI_end hI
   subst he
   refine runW ?_
   exact endW [] hQ
end Go.Proofs.YtdohmppildfjhaaGreat

namespace Go.Proofs.YtdohmppildfjhaaGreat
open Go.Eng Go.Vx
set_option linter.unusedSimpArgs false
set_option linter.unusedVariables false
set_option maxRecDepth 100000
end Go.Proofs.YtdohmppildfjhaaGreat

namespace Go.Proofs.YtdohmppildfjhaaGreat
open Go.Eng Go.Vx
set_option linter.unusedSimpArgs false
set_option linter.unusedVariables false
set_option maxRecDepth 100000
end Go.Proofs.YtdohmppildfjhaaGreat

namespace Go.Proofs.YtdohmppildfjhaaGreat
open Go.Eng Go.Vx
set_option linter.unusedSimpArgs false
set_option linter.unusedVariables false
set_option maxRecDepth 100000
theorem shl_fn {v N : Nat} (hN : N ≤ 8192) (hv : (wg v).length ≤ 1000000) : Fn1 Tryz.prog 60 [NV v, .lit (.int .i64 (N : Int))] [] (.tup [NV (v * 2 ^ N), .lit (.int .i64 0)]) [] := by
 refine fn1N_of pl60 (by kernel_rfl) Tryz.call60 Tryz.func60 rfl (by kernel_rfl) rfl [.cell 4 37, .tmp 5] (by kernel_rfl) fun Q hQ => ?_
 have hnl := nl_len (wg v)
 have hq : (N : Int) / 64 = ((N / 64 : Nat) : Int) := by omega
 have hs : (N : Int) % 64 = ((N % 64 : Nat) : Int) := by omega
 have hm := moved_fn (W := wg v) (s := N % 64) (wg_lt v) (by omega) (by omega)
 rw [wg_val] at hm
 have hF := fw_len (B := 18446744073709551616) ((wg v).length + 1) (v * 2 ^ (N % 64))
 have hFl := fw_lt (B := 18446744073709551616) (by decide) ((wg v).length + 1) (v * 2 ^ (N % 64))
 have hFv : valB 18446744073709551616 (fw 18446744073709551616 ((wg v).length + 1) (v * 2 ^ (N % 64))) = v * 2 ^ (N % 64) := by
  rw [fw_val (by decide), Nat.mod_eq_of_lt]
  have h1 : v < 18446744073709551616 ^ (wg v).length := dgB_lt_pow (B := 18446744073709551616) (by decide) v
  have h2 : 2 ^ (N % 64) ≤ 18446744073709551616 := by
   rw [show (18446744073709551616 : Nat) = 2 ^ 64 from rfl]
   exact Nat.pow_le_pow_right (by decide) (by omega)
  rw [Nat.pow_succ]
  exact Nat.lt_of_lt_of_le (Nat.mul_lt_mul_of_pos_right h1 (Nat.pow_pos (by decide))) (Nat.mul_le_mul_left _ h2)
 have hval : valB 18446744073709551616 (List.replicate (N / 64) 0 ++ fw 18446744073709551616 ((wg v).length + 1) (v * 2 ^ (N % 64))) = v * 2 ^ N := by
  rw [valB_app, valB_rep, List.length_replicate, Nat.zero_add, hFv, show (18446744073709551616 : Nat) = 2 ^ 64 from rfl, ← Nat.pow_mul, Nat.mul_left_comm, ← Nat.pow_add, Nat.div_add_mod]
 have hall : ∀ d ∈ List.replicate (N / 64) 0 ++ fw 18446744073709551616 ((wg v).length + 1) (v * 2 ^ (N % 64)), d < 18446744073709551616 := fun d hd => by
  rcases List.mem_append.1 hd with h | h
  ·
   rw [List.eq_of_mem_replicate h]; decide
  ·
   exact hFl d h
 have hlen : (List.replicate (N / 64) 0 ++ fw 18446744073709551616 ((wg v).length + 1) (v * 2 ^ (N % 64))).length ≤ 4000000 := by
  rw [List.length_append, List.length_replicate, hF]; omega
 have hsplit : nl (List.replicate (N / 64) 0 ++ fw 18446744073709551616 ((wg v).length + 1) (v * 2 ^ (N % 64))) = nl (List.replicate (N / 64) 0) ++ nl (fw 18446744073709551616 ((wg v).length + 1) (v * 2 ^ (N % 64))) := by unfold nl; rw [List.map_append]
 have hrep := nl_rep (N / 64)
 generalize fw 18446744073709551616 ((wg v).length + 1) (v * 2 ^ (N % 64)) = F at *
 clear hFv
 generalize N / 64 = q at *
 generalize N % 64 = s at *
 have hnF := nl_len F
 rw [← hF] at hm
 simp (maxSteps := 1000000) (disch := (first | omega | (simp only [lnA, List.length_map, List.length_range, true_and, and_true]; (try omega); done) | fail)) only [go_sem, hq, hs, Int.reduceEq, Int.reduceToNat, Nat.reduceAdd, Nat.reduceMul, Nat.reduceEqDiff, ↓reduceIte]
 refine callF (hm) ?_
 have htk : List.take F.length (nl F) = nl F := List.take_of_length_le (by omega)
 have happ : List.map (ie .u64) (List.replicate q 0 ++ nl F) = List.map (ie .u64) (nl (List.replicate q 0 ++ F)) := by
  rw [hsplit, hrep]
 have hll : q + (nl F).length = (List.replicate q 0 ++ F).length := by rw [List.length_append, List.length_replicate, hnF]
 simp (maxSteps := 1000000) (disch := (first | omega | (simp only [lnA, List.length_map, List.length_range, true_and, and_true]; (try omega); done) | fail)) only [go_sem, hq, hs, htk, happ, hll, Int.reduceEq, Int.reduceToNat, Nat.reduceAdd, Nat.reduceMul, Nat.reduceEqDiff, ↓reduceIte]
 have hnl4 := nl_len (List.replicate q 0 ++ F)
 refine callW [] [4] (trimmed_fn (l := List.replicate q 0 ++ F) hall hlen) ?_
 rw [hval]
 refine runW ?_
 exact endW [] hQ
end Go.Proofs.YtdohmppildfjhaaGreat

namespace Go.Proofs.YtdohmppildfjhaaGreat
open Go.Eng Go.Vx
set_option linter.unusedSimpArgs false
set_option linter.unusedVariables false
set_option maxRecDepth 100000
theorem len_fn {n : Nat} (hn : n < 18446744073709551616) : Fn1 Tryz.prog 65 [.lit (.int .u64 n)] [] (.lit (.int .i64 (bl n : Int))) [] := by
 refine fn1N_of pl65 (by kernel_rfl) Tryz.call65 Tryz.func65 rfl (by kernel_rfl) rfl [.tmp 2] (by kernel_rfl) fun Q hQ => ?_
 simp (maxSteps := 1000000) (disch := (first | omega | (simp only [lnA, List.length_map, List.length_range, true_and, and_true]; (try omega); done) | fail)) only [go_sem, Int.reduceEq, Int.reduceToNat, Nat.reduceAdd, Nat.reduceMul, Nat.reduceEqDiff, ↓reduceIte]
 refine callV0 (len64_fn hn) rfl rfl ?_
 simp (maxSteps := 1000000) (disch := (first | omega | (simp only [lnA, List.length_map, List.length_range, true_and, and_true]; (try omega); done) | fail)) only [go_sem, Int.reduceEq, Int.reduceToNat, Nat.reduceAdd, Nat.reduceMul, Nat.reduceEqDiff, ↓reduceIte]
 exact endW [] hQ
end Go.Proofs.YtdohmppildfjhaaGreat

namespace Go.Proofs.YtdohmppildfjhaaGreat
open Go.Eng Go.Vx
set_option linter.unusedSimpArgs false
set_option linter.unusedVariables false
set_option maxRecDepth 100000
def vcC (o n w : Nat) : Ob := .cells [.sl o 1 0 (nwd n w), .lit (.int .i64 (n : Int)), .lit (.int .i64 (w : Int))]
def vcR (n w X : Nat) : Ob := .row 1 ((words (nwd n w) X).map (ie .u64))
attribute [go_sem] vcC vcR
def vecP (n w : Nat) (L : List Int) : V := .rref 3 [[.row 1 (L.map (ie .u64)), .lit (.int .i64 (n : Int)), .lit (.int .i64 (w : Int))]] 0 0
attribute [go_sem] vecP
end Go.Proofs.YtdohmppildfjhaaGreat

namespace Go.Proofs.YtdohmppildfjhaaGreat
open Go.Eng Go.Vx
set_option linter.unusedSimpArgs false
set_option linter.unusedVariables false
set_option maxRecDepth 100000
end Go.Proofs.YtdohmppildfjhaaGreat

namespace Go.Proofs.YtdohmppildfjhaaGreat
open Go.Eng Go.Vx
set_option linter.unusedSimpArgs false
set_option linter.unusedVariables false
set_option maxRecDepth 100000
def tpC (L : List Bool) (p : Nat) (d : Bool) : Ob := .cells [.lit (.int .i64 (p : Int)), .lit (.bool d), .row 1 (L.map be)]
def tpP (L : List Bool) (p : Nat) (d : Bool) : V := .rref 3 [[.lit (.int .i64 (p : Int)), .lit (.bool d), .row 1 (L.map be)]] 0 0
attribute [go_sem] tpC tpP
end Go.Proofs.YtdohmppildfjhaaGreat

namespace Go.Proofs.YtdohmppildfjhaaGreat
open Go.Eng Go.Vx
set_option linter.unusedSimpArgs false
set_option linter.unusedVariables false
set_option maxRecDepth 100000
end Go.Proofs.YtdohmppildfjhaaGreat

namespace Go.Proofs.YtdohmppildfjhaaGreat
open Go.Eng Go.Vx
set_option linter.unusedSimpArgs false
set_option linter.unusedVariables false
set_option maxRecDepth 100000
end Go.Proofs.YtdohmppildfjhaaGreat

namespace Go.Proofs.YtdohmppildfjhaaGreat
set_option linter.unusedVariables false
end Go.Proofs.YtdohmppildfjhaaGreat

namespace Go.Proofs.YtdohmppildfjhaaGreat
open Go.Eng Go.Vx
set_option linter.unusedSimpArgs false
set_option linter.unusedVariables false
set_option maxRecDepth 100000
def wrP (L : List Bool) : V := .rref 2 [[.row 1 ((pk L).map (ie .u8)), .lit (.int .i64 (L.length : Int))]] 0 0
attribute [go_sem] wrP
end Go.Proofs.YtdohmppildfjhaaGreat
