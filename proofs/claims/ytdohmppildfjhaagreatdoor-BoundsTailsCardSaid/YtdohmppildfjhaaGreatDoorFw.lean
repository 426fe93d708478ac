import Derived.Test.YtdohmppildfjhaaGreatDoorE6
import Derived.Test.YtdohmppildfjhaaGreatDoorKp
import Derived.Test.YtdohmppildfjhaaGreatDoorD3
import Derived.Test.YtdohmppildfjhaaGreatDoorN1
import Derived.Test.YtdohmppildfjhaaGreatDoorRh
import Derived.Test.YtdohmppildfjhaaGreatDoorN2
import Derived.Test.YtdohmppildfjhaaGreatDoorRj
import Derived.Test.YtdohmppildfjhaaGreatDoorNe
import Derived.Test.YtdohmppildfjhaaGreatDoorKt
import Derived.Test.YtdohmppildfjhaaGreatDoorZ1
namespace Go.Proofs.YtdohmppildfjhaaGreatDoor
open Go.Eng Go.Vx
set_option linter.unusedSimpArgs false
set_option linter.unusedVariables false
set_option maxRecDepth 100000
theorem len_fn {n : Nat} (hn : n < 18446744073709551616) : Fn1 Tryz.prog 56 [.lit (.int .u64 n)] [] (.lit (.int .i64 (bl n : Int))) [] := by
 refine fn1N_of pl56 (by kernel_rfl) Tryz.call56 Tryz.func56 rfl (by kernel_rfl) rfl [.tmp 2] (by kernel_rfl) fun Q hQ => ?_
 simp (maxSteps := 1000000) (disch := (first | omega | (simp only [lnA, List.length_map, List.length_range, true_and, and_true]; (try omega); done) | fail)) only [go_sem, Int.reduceEq, Int.reduceToNat, Nat.reduceAdd, Nat.reduceMul, Nat.reduceEqDiff, ↓reduceIte]
 refine callV0 (len64_fn hn) rfl rfl ?_
 simp (maxSteps := 1000000) (disch := (first | omega | (simp only [lnA, List.length_map, List.length_range, true_and, and_true]; (try omega); done) | fail)) only [go_sem, Int.reduceEq, Int.reduceToNat, Nat.reduceAdd, Nat.reduceMul, Nat.reduceEqDiff, ↓reduceIte]
 exact endW [] hQ
theorem npowE_fn {a : Nat} {n : Int} (hn : n < 0) (ha : (wg a).length ≤ 4000000) : Fn1 Tryz.prog 187 [NV a, .lit (.int .i64 n)] [] (.tup [NV 0, .lit (.int .i64 2)]) [] := by
 rw [NV_zero]
 refine fn1N_of pl187 (by kernel_rfl) Tryz.call187 Tryz.func187 rfl (by kernel_rfl) rfl [.cell 4 31, .tmp 5] (by kernel_rfl) fun Q hQ => ?_
 refine runW ?_
 exact endW [] hQ
theorem npowS_fn {a n : Nat} (hb : 1 < bl a) (ha : bl a ≤ 8192) (hn : n < 9223372036854775808) (h : 8192 / bl a < n) : Fn1 Tryz.prog 187 [NV a, .lit (.int .i64 (n : Int))] [] (.tup [NV 0, .lit (.int .i64 3)]) [] := by
 have wa : (wg a).length ≤ 128 := wg_bl (by omega)
 rw [NV_zero]
 refine fn1N_of pl187 (by kernel_rfl) Tryz.call187 Tryz.func187 rfl (by kernel_rfl) rfl [.cell 4 31, .tmp 5] (by kernel_rfl) fun Q hQ => ?_
 have hdd : (8192 : Int) / (bl a : Int) = ((8192 / bl a : Nat) : Int) := by simp
 generalize 8192 / bl a = g at *
 refine runW ?_
 refine callV0 (bits_fn (n := a) (by omega)) rfl rfl ?_
 refine runW ?_
 refine callV0 (bits_fn (n := a) (by omega)) rfl rfl ?_
 simp (maxSteps := 1000000) (disch := (first | omega | (simp only [lnA, List.length_map, List.length_range, true_and, and_true]; (try omega); done) | fail)) only [go_sem, hdd, Int.reduceEq, Int.reduceToNat, Nat.reduceAdd, Nat.reduceMul, Nat.reduceEqDiff, ↓reduceIte]
 exact endW [] hQ
theorem pow_min {a : Nat} (h : bl a ≤ 1) (n : Nat) : a ^ n = a ^ min n 1 := by
 have h2 := bl_lt a
 have h3 : 2 ^ bl a ≤ 2 ^ 1 := Nat.pow_le_pow_right (by decide) h
 have h4 : a = 0 ∨ a = 1 := by omega
 rcases h4 with rfl | rfl
 ·
  rcases Nat.eq_zero_or_pos n with rfl | hp
  ·
   rfl
  ·
   rw [Nat.zero_pow hp, Nat.min_eq_right (by omega)]
 ·
  rw [Nat.one_pow, Nat.one_pow]
theorem pow_bl7 {a n K i : Nat} (h : n * bl a ≤ K) (hi : i ≤ n) : bl (a ^ i) ≤ K + 1 := by
 refine Nat.le_trans (pow_bl_le a i) ?_
 have h6 := Nat.mul_le_mul_left (bl a) hi
 rw [Nat.mul_comm (bl a) n] at h6
 omega
theorem Sx_zero (N : Nat) : Sx 0 N = 1 := by
 induction N with
 | zero => rfl
 | succ n ih =>
  rw [show Sx 0 (n + 1) = Sx 0 n + tau 0 (n + 1) from rfl, ih, show tau 0 (n + 1) = tau 0 n * (0 * (1 / ((n + 1 : Nat) : Int))) from rfl]
  grind
theorem exp_zero {L H : Rat} (h : ExpB 0 L H) (hl : 1 ≤ L) : L = 1 ∧ 1 ≤ H := by
 obtain ⟨N, hN⟩ := h.lo
 have := h.hi 0
 rw [Sx_zero] at hN this
 exact ⟨by grind, this⟩
def ZD (p m : Nat) : V := .agg [.row 1 ((nl (dg p)).map (ie .i64)), .row 1 ((nl (dg m)).map (ie .i64))]
attribute [go_sem] ZD
def zS (z : Int) : List UInt8 := if z < 0 then 45 :: decS z.natAbs else decS z.natAbs
theorem decS_wg {n k : Nat} (h : (wg n).length ≤ k) : (decS n).length ≤ 20 * k + 1 := by
 rw [decS_len]
 by_cases h0 : n = 0
 ·
  subst h0; have : nd10 0 ≤ 1 := (nd10_le (by decide)).2 (by decide)
  omega
 ·
  have := nd10_wg h0
  omega
theorem wtext_fn {x : Int} (hl : (wg x.natAbs).length ≤ 100000) : Fn1 Tryz.prog 54 [WV x] [] (.lit (.string (bs (zS x)))) [] := by
 have h3 := ntext_fn (n := x.natAbs) hl
 have hsl := decS_wg hl
 unfold zS
 by_cases h : x < 0
 ·
  rw [if_pos h]
  refine fn1N_of pl54 (by kernel_rfl) Tryz.call54 Tryz.func54 rfl (by kernel_rfl) rfl [.tmp 2] (by kernel_rfl) fun Q hQ => ?_
  repeat (first | (refine callV0 (h3) rfl rfl ?_) | (simp (maxSteps := 1000000) (disch := (first | omega | (simp only [lnA, List.length_map, List.length_range, true_and, and_true]; (try omega); done) | fail)) only [go_sem, decide_eq_true h, Int.reduceEq, Int.reduceToNat, Nat.reduceAdd, Nat.reduceMul, Nat.reduceEqDiff, ↓reduceIte]))
  exact endW [] hQ
 ·
  rw [if_neg h]
  refine fn1N_of pl54 (by kernel_rfl) Tryz.call54 Tryz.func54 rfl (by kernel_rfl) rfl [.tmp 2] (by kernel_rfl) fun Q hQ => ?_
  repeat (first | (refine callV0 (h3) rfl rfl ?_) | (simp (maxSteps := 1000000) (disch := (first | omega | (simp only [lnA, List.length_map, List.length_range, true_and, and_true]; (try omega); done) | fail)) only [go_sem, decide_eq_false h, Int.reduceEq, Int.reduceToNat, Nat.reduceAdd, Nat.reduceMul, Nat.reduceEqDiff, ↓reduceIte]))
  exact endW [] hQ
theorem zS_lit (n : Nat) (h : n < 10) : decS n = [UInt8.ofNat (48 + n)] := by
 have : ∀ n, n < 10 → decS n = [UInt8.ofNat (48 + n)] := fun n h => by
  rw [decS_small h]
 exact this n h
def QD (p m d : Nat) : V := .agg [.row 1 ((nl (dg p)).map (ie .i64)), .row 1 ((nl (dg m)).map (ie .i64)), .row 1 ((nl (dg d)).map (ie .i64))]
attribute [go_sem] QD
def qS (x : Rat) : List UInt8 := zS x.num ++ (if x.den = 1 then [] else 47 :: decS x.den)
end Go.Proofs.YtdohmppildfjhaaGreatDoor
