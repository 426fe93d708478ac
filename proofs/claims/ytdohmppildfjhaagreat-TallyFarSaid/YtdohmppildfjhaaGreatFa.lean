import Derived.Test.YtdohmppildfjhaaGreatFw
import Derived.Test.YtdohmppildfjhaaGreatN1
import Derived.Test.YtdohmppildfjhaaGreatKp
import Derived.Test.YtdohmppildfjhaaGreatKr
namespace Go.Proofs.YtdohmppildfjhaaGreat
open Go.Eng Go.Vx
set_option linter.unusedSimpArgs false
set_option linter.unusedVariables false
set_option maxRecDepth 100000
theorem mgood_fn {a : Int} : Fn1 Tryz.prog 162 [.lit (.int .i64 a)] [] (.lit (.bool (decide (1 ≤ a ∧ a ≤ 4096)))) [] := by
 refine fn1N_of pl162 (by kernel_rfl) Tryz.call162 Tryz.func162 rfl (by kernel_rfl) rfl [.tmp 2] (by kernel_rfl) fun Q hQ => ?_
 by_cases h : 1 ≤ a
 ·
  simp (maxSteps := 1000000) (disch := (first | omega | (simp only [lnA, List.length_map, List.length_range, true_and, and_true]; (try omega); done) | fail)) only [go_sem, decide_true, Int.reduceEq, Int.reduceToNat, Nat.reduceAdd, Nat.reduceMul, Nat.reduceEqDiff, ↓reduceIte]
  simp only [h, true_and] at hQ
  exact endW [] hQ
 ·
  simp (maxSteps := 1000000) (disch := (first | omega | (simp only [lnA, List.length_map, List.length_range, true_and, and_true]; (try omega); done) | fail)) only [go_sem, decide_false, Int.reduceEq, Int.reduceToNat, Nat.reduceAdd, Nat.reduceMul, Nat.reduceEqDiff, ↓reduceIte]
  simp only [h, false_and, decide_false] at hQ
  exact endW [] hQ
theorem fgood_fn {a : Int} : Fn1 Tryz.prog 174 [.lit (.int .i64 a)] [] (.lit (.bool (decide (0 ≤ a ∧ a ≤ 8)))) [] := by
 refine fn1N_of pl174 (by kernel_rfl) Tryz.call174 Tryz.func174 rfl (by kernel_rfl) rfl [.tmp 2] (by kernel_rfl) fun Q hQ => ?_
 by_cases h : 0 ≤ a
 ·
  simp (maxSteps := 1000000) (disch := (first | omega | (simp only [lnA, List.length_map, List.length_range, true_and, and_true]; (try omega); done) | fail)) only [go_sem, decide_true, Int.reduceEq, Int.reduceToNat, Nat.reduceAdd, Nat.reduceMul, Nat.reduceEqDiff, ↓reduceIte]
  simp only [h, true_and] at hQ
  exact endW [] hQ
 ·
  simp (maxSteps := 1000000) (disch := (first | omega | (simp only [lnA, List.length_map, List.length_range, true_and, and_true]; (try omega); done) | fail)) only [go_sem, decide_false, Int.reduceEq, Int.reduceToNat, Nat.reduceAdd, Nat.reduceMul, Nat.reduceEqDiff, ↓reduceIte]
  simp only [h, false_and, decide_false] at hQ
  exact endW [] hQ
theorem ygood_fn {a : Int} : Fn1 Tryz.prog 185 [.lit (.int .i64 a)] [] (.lit (.bool (decide (1 ≤ a ∧ a ≤ 5)))) [] := by
 refine fn1N_of pl185 (by kernel_rfl) Tryz.call185 Tryz.func185 rfl (by kernel_rfl) rfl [.tmp 2] (by kernel_rfl) fun Q hQ => ?_
 by_cases h : 1 ≤ a
 ·
  simp (maxSteps := 1000000) (disch := (first | omega | (simp only [lnA, List.length_map, List.length_range, true_and, and_true]; (try omega); done) | fail)) only [go_sem, decide_true, Int.reduceEq, Int.reduceToNat, Nat.reduceAdd, Nat.reduceMul, Nat.reduceEqDiff, ↓reduceIte]
  simp only [h, true_and] at hQ
  exact endW [] hQ
 ·
  simp (maxSteps := 1000000) (disch := (first | omega | (simp only [lnA, List.length_map, List.length_range, true_and, and_true]; (try omega); done) | fail)) only [go_sem, decide_false, Int.reduceEq, Int.reduceToNat, Nat.reduceAdd, Nat.reduceMul, Nat.reduceEqDiff, ↓reduceIte]
  simp only [h, false_and, decide_false] at hQ
  exact endW [] hQ
theorem amgood_fn {a : Int} : Fn1 Tryz.prog 157 [.lit (.int .i64 a)] [] (.lit (.bool (decide (1 ≤ a ∧ a ≤ 4096)))) [] := by
 refine fn1N_of pl157 (by kernel_rfl) Tryz.call157 Tryz.func157 rfl (by kernel_rfl) rfl [.tmp 2] (by kernel_rfl) fun Q hQ => ?_
 refine runW ?_
 refine callV0 (mgood_fn) rfl rfl ?_
 refine runW ?_
 exact endW [] hQ
theorem afgood_fn {a : Int} : Fn1 Tryz.prog 169 [.lit (.int .i64 a)] [] (.lit (.bool (decide (0 ≤ a ∧ a ≤ 8)))) [] := by
 refine fn1N_of pl169 (by kernel_rfl) Tryz.call169 Tryz.func169 rfl (by kernel_rfl) rfl [.tmp 2] (by kernel_rfl) fun Q hQ => ?_
 refine runW ?_
 refine callV0 (fgood_fn) rfl rfl ?_
 refine runW ?_
 exact endW [] hQ
theorem aygood_fn {a : Int} : Fn1 Tryz.prog 180 [.lit (.int .i64 a)] [] (.lit (.bool (decide (1 ≤ a ∧ a ≤ 5)))) [] := by
 refine fn1N_of pl180 (by kernel_rfl) Tryz.call180 Tryz.func180 rfl (by kernel_rfl) rfl [.tmp 2] (by kernel_rfl) fun Q hQ => ?_
 refine runW ?_
 refine callV0 (ygood_fn) rfl rfl ?_
 refine runW ?_
 exact endW [] hQ
theorem kind1_fn {a w : Int} : Fn1 Tryz.prog 64 [.agg [.lit (.int .i64 1), .lit (.int .i64 a), .lit (.int .i64 w)]] [] (.lit (.iface 135 (.int .i64 a))) [] := by
 refine fn1N_of pl64 (by kernel_rfl) Tryz.call64 Tryz.func64 rfl (by kernel_rfl) rfl [.tmp 2] (by kernel_rfl) fun Q hQ => ?_
 refine runW ?_
 exact endW [] hQ
theorem kind2_fn {a w : Int} : Fn1 Tryz.prog 64 [.agg [.lit (.int .i64 2), .lit (.int .i64 a), .lit (.int .i64 w)]] [] (.lit (.iface 136 (.int .i64 a))) [] := by
 refine fn1N_of pl64 (by kernel_rfl) Tryz.call64 Tryz.func64 rfl (by kernel_rfl) rfl [.tmp 2] (by kernel_rfl) fun Q hQ => ?_
 refine runW ?_
 exact endW [] hQ
theorem kind3_fn {a w : Int} : Fn1 Tryz.prog 64 [.agg [.lit (.int .i64 3), .lit (.int .i64 a), .lit (.int .i64 w)]] [] (.lit (.iface 137 (.int .i64 a))) [] := by
 refine fn1N_of pl64 (by kernel_rfl) Tryz.call64 Tryz.func64 rfl (by kernel_rfl) rfl [.tmp 2] (by kernel_rfl) fun Q hQ => ?_
 refine runW ?_
 exact endW [] hQ
end Go.Proofs.YtdohmppildfjhaaGreat

namespace Go.Proofs.YtdohmppildfjhaaGreat
open Go.Eng Go.Vx
set_option linter.unusedSimpArgs false
set_option linter.unusedVariables false
set_option maxRecDepth 100000
theorem npowE_fn {a : Nat} {n : Int} (hn : n < 0) (ha : (wg a).length ≤ 4000000) : Fn1 Tryz.prog 166 [NV a, .lit (.int .i64 n)] [] (.tup [NV 0, .lit (.int .i64 2)]) [] := by
 rw [NV_zero]
 refine fn1N_of pl166 (by kernel_rfl) Tryz.call166 Tryz.func166 rfl (by kernel_rfl) rfl [.cell 4 37, .tmp 5] (by kernel_rfl) fun Q hQ => ?_
 refine runW ?_
 exact endW [] hQ
theorem npowS_fn {a n : Nat} (hb : 1 < bl a) (ha : bl a ≤ 8192) (hn : n < 9223372036854775808) (h : 8192 / bl a < n) : Fn1 Tryz.prog 166 [NV a, .lit (.int .i64 (n : Int))] [] (.tup [NV 0, .lit (.int .i64 3)]) [] := by
 have wa : (wg a).length ≤ 128 := wg_bl (by omega)
 rw [NV_zero]
 refine fn1N_of pl166 (by kernel_rfl) Tryz.call166 Tryz.func166 rfl (by kernel_rfl) rfl [.cell 4 37, .tmp 5] (by kernel_rfl) fun Q hQ => ?_
 have hdd : (8192 : Int) / (bl a : Int) = ((8192 / bl a : Nat) : Int) := by simp
 generalize 8192 / bl a = g at *
 refine runW ?_
 refine callV0 (bits_fn (n := a) (by omega)) rfl rfl ?_
 refine runW ?_
 refine callV0 (bits_fn (n := a) (by omega)) rfl rfl ?_
 simp (maxSteps := 1000000) (disch := (first | omega | (simp only [lnA, List.length_map, List.length_range, true_and, and_true]; (try omega); done) | fail)) only [go_sem, hdd, Int.reduceEq, Int.reduceToNat, Nat.reduceAdd, Nat.reduceMul, Nat.reduceEqDiff, ↓reduceIte]
 exact endW [] hQ
theorem pow_min {a : Nat} (h : bl a ≤ 1) (n : Nat) : a ^ n = a ^ min n 1 := by
 have h2 := bl_lt a
 have h3 : 2 ^ bl a ≤ 2 ^ 1 := Nat.pow_le_pow_right (by decide) h
 have h4 : a = 0 ∨ a = 1 := by omega
 rcases h4 with rfl | rfl
 ·
  rcases Nat.eq_zero_or_pos n with rfl | hp
  ·
   rfl
  ·
   rw [Nat.zero_pow hp, Nat.min_eq_right (by omega)]
 ·
  rw [Nat.one_pow, Nat.one_pow]
theorem pow_bl7 {a n K i : Nat} (h : n * bl a ≤ K) (hi : i ≤ n) : bl (a ^ i) ≤ K + 1 := by
 refine Nat.le_trans (pow_bl_le a i) ?_
 have h6 := Nat.mul_le_mul_left (bl a) hi
 rw [Nat.mul_comm (bl a) n] at h6
 omega
end Go.Proofs.YtdohmppildfjhaaGreat

namespace Go.Proofs.YtdohmppildfjhaaGreat
open Go.Eng Go.Vx
set_option linter.unusedSimpArgs false
set_option linter.unusedVariables false
set_option maxRecDepth 100000
def halfX (L : List Bool) : Nat → Nat → Bool × Int × Nat × Bool
 | 0, p => (true, 0, p, false)
 | k + 1, p => if p < L.length then (if L.getD p false then halfX L k (p + 1) else (false, 0, p + 1, false)) else (false, 8, L.length, true)
def ratR (L : List Bool) (D : Nat) : Nat → Nat → Nat → Bool × Int × Nat × Bool
 | 0, _, _ => (false, 8, L.length, true)
 | f + 1, r, p => if p < L.length then
   (if L.getD p false = decide (D ≤ r + r) ∧ (if D ≤ r + r then r + r - D else r + r) ≠ 0 then ratR L D f (if D ≤ r + r then r + r - D else r + r) (p + 1) else (decide (D ≤ r + r) && !L.getD p false, 0, p + 1, false))
   else (false, 8, L.length, true)
theorem ratR_succ (L : List Bool) (D f r p : Nat) : ratR L D (f + 1) r p = if p < L.length then
   (if L.getD p false = decide (D ≤ r + r) ∧ (if D ≤ r + r then r + r - D else r + r) ≠ 0 then ratR L D f (if D ≤ r + r then r + r - D else r + r) (p + 1) else (decide (D ≤ r + r) && !L.getD p false, 0, p + 1, false))
   else (false, 8, L.length, true) := by conv => lhs; unfold ratR
def ratX (L : List Bool) (P D p : Nat) : Bool × Int × Nat × Bool :=
 if D = 0 ∨ D < P then (false, 2, p, false) else if P = 0 then (false, 0, p, false) else if P = D then (true, 0, p, false) else ratR L D (L.length + 1 - p) P p
end Go.Proofs.YtdohmppildfjhaaGreat

namespace Go.Proofs.YtdohmppildfjhaaGreat
open Go.Eng Go.Vx
set_option linter.unusedSimpArgs false
set_option linter.unusedVariables false
set_option maxRecDepth 100000
end Go.Proofs.YtdohmppildfjhaaGreat

namespace Go.Proofs.YtdohmppildfjhaaGreat
open Go.Eng Go.Vx
set_option linter.unusedSimpArgs false
set_option linter.unusedVariables false
set_option maxRecDepth 100000
def rndX (L : List Bool) (n d p : Nat) : Int × Int × Nat × Bool :=
 let r := ratX L (n % d) d p
 (if r.2.1 = 0 then ((n / d + (if r.1 then 1 else 0) : Nat) : Int) else 0, r.2.1, r.2.2.1, r.2.2.2)
theorem cmpQ_neg {x y : Rat} : cmpQ x y < 0 ↔ x < y := by
 unfold cmpQ
 split
 ·
  rename_i h; simp [h]
 ·
  rename_i h; split <;> simp [h]
theorem cmpQ_pos {x y : Rat} : 0 < cmpQ x y ↔ y < x := by
 unfold cmpQ
 split
 ·
  rename_i h
  have := Rat.not_lt.2 (Rat.le_of_lt h)
  simp [this]
 ·
  rename_i h; split <;> simp [*]
theorem cmpQ_zero {x y : Rat} : cmpQ x y = 0 ↔ x = y := by
 unfold cmpQ
 constructor
 ·
  intro h
  split at h
  ·
   simp at h
  ·
   rename_i h1
   split at h
   ·
    simp at h
   ·
    rename_i h2
    exact Rat.le_antisymm (Rat.not_lt.1 h2) (Rat.not_lt.1 h1)
 ·
  rintro rfl
  rw [if_neg Rat.lt_irrefl, if_neg Rat.lt_irrefl]
end Go.Proofs.YtdohmppildfjhaaGreat
