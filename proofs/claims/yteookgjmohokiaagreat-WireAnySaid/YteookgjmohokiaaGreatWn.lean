import Derived.Test.YteookgjmohokiaaGreatD2
import Derived.Test.YteookgjmohokiaaGreatE6
import Derived.Test.YteookgjmohokiaaGreatE8
namespace Go.Proofs.YteookgjmohokiaaGreat
open Go.Eng Go.Vx
set_option linter.unusedSimpArgs false
set_option linter.unusedVariables false
set_option maxRecDepth 100000
def vcC (o n w : Nat) : Ob := .cells [.sl o 1 0 (nwd n w), .lit (.int .i64 (n : Int)), .lit (.int .i64 (w : Int))]
def vcR (n w X : Nat) : Ob := .row 1 ((words (nwd n w) X).map (ie .u64))
attribute [go_sem] vcC vcR
theorem new_fn {n w : Nat} (hn : n ≤ 256) (hw : 1 ≤ w ∧ w ≤ 32) : Fn1 Tryz.prog 61 [.lit (.int .i64 n), .lit (.int .i64 w)] [] (.tup [.ref 0 0 0 0, .lit (.int .i64 0)]) [some (vcC 1 n w), some (vcR n w 0)] := by
  refine fn1N_of pl61 (by kernel_rfl) Tryz.call61 Tryz.func61 rfl (by kernel_rfl) rfl [.tmp 4, .tmp 5] (by kernel_rfl) fun Q hQ => ?_
  have hp : n * w ≤ 256 * 32 := Nat.mul_le_mul hn hw.2
  have hc : (n : Int) * (w : Int) = ((n * w : Nat) : Int) := by simp
  have hd : (((n * w : Nat) : Int) + 64 - 1) / 64 = (nwd n w : Int) := by unfold nwd; omega
  have hd2 : nwd n w ≤ 129 := by unfold nwd; omega
  have hwz := words_zero (nwd n w)
  simp (maxSteps := 1000000) (disch := (first | omega | (simp only [lnA, List.length_map, List.length_range, true_and, and_true]; (try omega); done) | fail)) only [go_sem, hc, hd, Int.reduceEq, Int.reduceToNat, Nat.reduceAdd, Nat.reduceMul, Nat.reduceEqDiff, ↓reduceIte]
  rw [← hwz]
  exact endW [some 1, some 0] hQ
theorem pow_w {w : Nat} (hw : 1 ≤ w ∧ w ≤ 32) : 2 ≤ 2 ^ w ∧ 2 ^ w ≤ 4294967296 := by
  have h1 : 2 ^ 1 ≤ 2 ^ w := Nat.pow_le_pow_right (by decide) hw.1
  have h2 : 2 ^ w ≤ 2 ^ 32 := Nat.pow_le_pow_right (by decide) hw.2
  omega
def vecP (n w : Nat) (L : List Int) : V := .rref 3 [[.row 1 (L.map (ie .u64)), .lit (.int .i64 (n : Int)), .lit (.int .i64 (w : Int))]] 0 0
attribute [go_sem] vecP
theorem mask_fn {n w : Nat} {L : List Int} (hw : 1 ≤ w ∧ w ≤ 32) : Fn1 Tryz.prog 77 [vecP n w L] [] (.lit (.int .u64 ((2 ^ w - 1 : Nat) : Int))) [] := by
  refine fn1N_of pl77 (by kernel_rfl) Tryz.call77 Tryz.func77 rfl (by kernel_rfl) rfl [.tmp 2] (by kernel_rfl) fun Q hQ => ?_
  have hp := pow_w hw
  have hs := sh1_u64 (k := w) (by omega)
  have hc : ((2 ^ w : Nat) : Int) - 1 = ((2 ^ w - 1 : Nat) : Int) := by omega
  have hww : IntKind.u64.wrap ((2 ^ w - 1 : Nat) : Int) = ((2 ^ w - 1 : Nat) : Int) := by
    generalize 2 ^ w - 1 = y at *
    simp (maxSteps := 1000000) (disch := (first | omega | (simp only [lnA, List.length_map, List.length_range, true_and, and_true]; (try omega); done) | fail)) only [go_sem, Int.reduceEq, Int.reduceToNat, Nat.reduceAdd, Nat.reduceMul, Nat.reduceEqDiff, ↓reduceIte]
  simp (maxSteps := 1000000) (disch := (first | omega | (simp only [lnA, List.length_map, List.length_range, true_and, and_true]; (try omega); done) | fail)) only [go_sem, hs, hc, hww, Int.reduceEq, Int.reduceToNat, Nat.reduceAdd, Nat.reduceMul, Nat.reduceEqDiff, ↓reduceIte]
  exact endW [] hQ
theorem place_fn {n w i : Nat} {L : List Int} (hn : n ≤ 256) (hw : 1 ≤ w ∧ w ≤ 32) (hi : i ≤ 256) : Fn1 Tryz.prog 76 [vecP n w L, .lit (.int .i64 i)] [] (.tup [.lit (.int .i64 (i * w / 64 : Nat)), .lit (.int .i64 (i * w % 64 : Nat))]) [] := by
  refine fn1N_of pl76 (by kernel_rfl) Tryz.call76 Tryz.func76 rfl (by kernel_rfl) rfl [.tmp 4, .tmp 5] (by kernel_rfl) fun Q hQ => ?_
  have hp : i * w ≤ 256 * 32 := Nat.mul_le_mul hi hw.2
  have hc : (i : Int) * (w : Int) = ((i * w : Nat) : Int) := by simp
  simp (maxSteps := 1000000) (disch := (first | omega | (simp only [lnA, List.length_map, List.length_range, true_and, and_true]; (try omega); done) | fail)) only [go_sem, hc, Int.reduceEq, Int.reduceToNat, Nat.reduceAdd, Nat.reduceMul, Nat.reduceEqDiff, ↓reduceIte]
  exact endW [] hQ
theorem get_fn {n w X i : Nat} (hn : n ≤ 256) (hw : 1 ≤ w ∧ w ≤ 32) (hi : i < n) : Fn1 Tryz.prog 56 [vecP n w (words (nwd n w) X), .lit (.int .i64 i)] [] (.tup [.lit (.int .u64 (X / 2 ^ (i * w) % 2 ^ w : Nat)), .lit (.int .i64 0)]) [] := by
  refine fn1N_of pl56 (by kernel_rfl) Tryz.call56 Tryz.func56 rfl (by kernel_rfl) rfl [.tmp 4, .tmp 5] (by kernel_rfl) fun Q hQ => ?_
  simp (maxSteps := 1000000) (disch := (first | omega | (simp only [lnA, List.length_map, List.length_range, true_and, and_true]; (try omega); done) | fail)) only [go_sem, Int.reduceEq, Int.reduceToNat, Nat.reduceAdd, Nat.reduceMul, Nat.reduceEqDiff, ↓reduceIte]
  refine callT (place_fn (n := n) (w := w) (L := words (nwd n w) X) (i := i) hn hw (by omega)) ?_
  have hlw := words_len (nwd n w) X
  have hm : i * w + w ≤ n * w := mulP_lt hi
  have hk : i * w / 64 < nwd n w := by unfold nwd; omega
  have hg := getW X (i * w / 64) (i * w % 64) w (Nat.mod_lt _ (by decide)) hw.2
  rw [Nat.div_add_mod] at hg
  have hg0 := words_get (X := X) hk
  have hl0 := wordOf_lt X (i * w / 64)
  have hl1 := wordOf_lt X (i * w / 64 + 1)
  generalize hkk : i * w / 64 = k at *
  generalize hbb : i * w % 64 = b at *
  have hb64 : b < 64 := by omega
  have hnw : n * w ≤ 256 * 32 := Nat.mul_le_mul hn hw.2
  have hkb : k ≤ 200 := by unfold nwd at hk; omega
  have hpw := pow_w hw
  have hdv := div_nat (wordOf X k) b
  have hd64 := div_lt64 (k := b) hl0
  by_cases hbw : 64 < b + w
  · rw [if_pos hbw] at hg
    have hk1 : k + 1 < nwd n w := by unfold nwd; omega
    have hg1 := words_get (X := X) hk1
    have hk2 : ((k : Int) + 1).toNat = k + 1 := by omega
    have hb2 : ((64 : Int) - (b : Int)).toNat = 64 - b := by omega
    simp (maxSteps := 1000000) (disch := (first | omega | (simp only [lnA, List.length_map, List.length_range, true_and, and_true]; (try omega); done) | fail)) only [go_sem, hg0, hg1, hk2, hdv, hb2, wrap_mul, or_u64 hd64 (mod_lt64 (wordOf X (k + 1) * 2 ^ (64 - b))), Int.reduceEq, Int.reduceToNat, Nat.reduceAdd, Nat.reduceMul, Nat.reduceEqDiff, ↓reduceIte]
    refine callT (mask_fn (n := n) (w := w) (L := words (nwd n w) X) hw) ?_
    simp (maxSteps := 1000000) (disch := (first | omega | (simp only [lnA, List.length_map, List.length_range, true_and, and_true]; (try omega); done) | fail)) only [go_sem, hg0, and_mask (or_lt64 hd64 (mod_lt64 (wordOf X (k + 1) * 2 ^ (64 - b)))) hpw.2, hg, Int.reduceEq, Int.reduceToNat, Nat.reduceAdd, Nat.reduceMul, Nat.reduceEqDiff, ↓reduceIte]
    exact endW [] hQ
  · rw [if_neg hbw, Nat.or_zero] at hg
    simp (maxSteps := 1000000) (disch := (first | omega | (simp only [lnA, List.length_map, List.length_range, true_and, and_true]; (try omega); done) | fail)) only [go_sem, hg0, hdv, Int.reduceEq, Int.reduceToNat, Nat.reduceAdd, Nat.reduceMul, Nat.reduceEqDiff, ↓reduceIte]
    refine callT (mask_fn (n := n) (w := w) (L := words (nwd n w) X) hw) ?_
    simp (maxSteps := 1000000) (disch := (first | omega | (simp only [lnA, List.length_map, List.length_range, true_and, and_true]; (try omega); done) | fail)) only [go_sem, hg0, and_mask hd64 hpw.2, hg, Int.reduceEq, Int.reduceToNat, Nat.reduceAdd, Nat.reduceMul, Nat.reduceEqDiff, ↓reduceIte]
    exact endW [] hQ
theorem getN_fn {n w i : Nat} {N : List Nat} (hn : n ≤ 256) (hw : 1 ≤ w ∧ w ≤ 32) (hi : i < n) (hl : ∀ x ∈ N, x < 2 ^ w) : Fn1 Tryz.prog 56 [vecP n w (words (nwd n w) (packN w N)), .lit (.int .i64 i)] [] (.tup [.lit (.int .u64 (N.getD i 0 : Nat)), .lit (.int .i64 0)]) [] := by
  rw [← packN_get (by omega) hl]
  exact get_fn hn hw hi
theorem set_fn {n w X Y i x : Nat} (hn : n ≤ 256) (hw : 1 ≤ w ∧ w ≤ 32) (hi : i < n) (hx : x < 2 ^ w) (hS : SetBits X Y (i * w) w x) : Fn1 Tryz.prog 64 [.ref 0 0 0 0, .lit (.int .i64 i), .lit (.int .u64 x)] [some (vcC 1 n w), some (vcR n w X)] (.lit (.int .i64 0)) [some (vcC 1 n w), some (vcR n w Y)] := by
  refine fn1N_of pl64 (by kernel_rfl) Tryz.call64 Tryz.func64 rfl (by kernel_rfl) rfl [.tmp 6] (by kernel_rfl) fun Q hQ => ?_
  have hlw := words_len (nwd n w) X
  simp (maxSteps := 1000000) (disch := (first | omega | (simp only [lnA, List.length_map, List.length_range, true_and, and_true]; (try omega); done) | fail)) only [go_sem, Int.reduceEq, Int.reduceToNat, Nat.reduceAdd, Nat.reduceMul, Nat.reduceEqDiff, ↓reduceIte]
  refine callT (mask_fn (n := n) (w := w) (L := words (nwd n w) X) hw) ?_
  have hpw := pow_w hw
  simp (maxSteps := 1000000) (disch := (first | omega | (simp only [lnA, List.length_map, List.length_range, true_and, and_true]; (try omega); done) | fail)) only [go_sem, Int.reduceEq, Int.reduceToNat, Nat.reduceAdd, Nat.reduceMul, Nat.reduceEqDiff, ↓reduceIte]
  refine callT (place_fn (n := n) (w := w) (L := words (nwd n w) X) (i := i) hn hw (by omega)) ?_
  have hlw := words_len (nwd n w) X
  have hm : i * w + w ≤ n * w := mulP_lt hi
  have hk : i * w / 64 < nwd n w := by unfold nwd; omega
  have hnw : n * w ≤ 256 * 32 := Nat.mul_le_mul hn hw.2
  have hdm := Nat.div_add_mod (i * w) 64
  have hg0 := words_get (X := X) hk
  have hl0 := wordOf_lt X (i * w / 64)
  have hl1 := wordOf_lt X (i * w / 64 + 1)
  rw [← hdm] at hS
  generalize hkk : i * w / 64 = k at *
  generalize hbb : i * w % 64 = b at *
  have hb64 : b < 64 := by omega
  have hkb : k ≤ 200 := by unfold nwd at hk; omega
  have hw0 := setW0 hS hb64 hx
  have ha0 := andn_eq hl0 (mod_lt64 ((2 ^ w - 1) * 2 ^ b))
  have ho0 := or_u64 (xor_lt64 hl0 (mod_lt64 ((2 ^ w - 1) * 2 ^ b))) (mod_lt64 (x * 2 ^ b))
  rw [hw0] at ho0
  by_cases hbw : 64 < b + w
  · have hk1 : k + 1 < nwd n w := by unfold nwd; omega
    have hg1 := words_get (X := X) hk1
    have hw1 := setW1 hS hb64 hw.2 hbw hx
    have hxl : x < 18446744073709551616 := by omega
    have hml : 2 ^ w - 1 < 18446744073709551616 := by omega
    have ha1 := andn_eq hl1 (div_lt64 (k := 64 - b) hml)
    have ho1 := or_u64 (xor_lt64 hl1 (div_lt64 (k := 64 - b) hml)) (div_lt64 (k := 64 - b) hxl)
    rw [hw1] at ho1
    have hk2 : ((k : Int) + 1).toNat = k + 1 := by omega
    have hb2 : ((64 : Int) - (b : Int)).toNat = 64 - b := by omega
    have hd1 := div_nat (2 ^ w - 1) (64 - b)
    have hd2 := div_nat x (64 - b)
    have hws := words_set2 hk1 hS hb64 hw.2
    have hgs : ((words (nwd n w) X).set k (wordOf Y k : Int)).getD (k + 1) 0 = (wordOf X (k + 1) : Int) := by rw [getD_set_ne (by omega), hg1]
    simp (maxSteps := 1000000) (disch := (first | omega | (simp only [lnA, List.length_map, List.length_range, true_and, and_true]; (try omega); done) | fail)) only [go_sem, hg0, wrap_mul, Int.reduceEq, Int.reduceToNat, Nat.reduceAdd, Nat.reduceMul, Nat.reduceEqDiff, ↓reduceIte]
    refine callT (mask_fn (n := n) (w := w) (L := words (nwd n w) X) hw) ?_
    simp (maxSteps := 1000000) (disch := (first | omega | (simp only [lnA, List.length_map, List.length_range, true_and, and_true]; (try omega); done) | fail)) only [go_sem, hg0, wrap_mul, ha0, ho0, hk2, hgs, hb2, Int.reduceEq, Int.reduceToNat, Nat.reduceAdd, Nat.reduceMul, Nat.reduceEqDiff, ↓reduceIte]
    refine callT (mask_fn (n := n) (w := w) (L := (words (nwd n w) X).set k (wordOf Y k : Int)) hw) ?_
    simp (maxSteps := 1000000) (disch := (first | omega | (simp only [lnA, List.length_map, List.length_range, true_and, and_true]; (try omega); done) | fail)) only [go_sem, hk2, hgs, hb2, hd1, hd2, ha1, ho1, hws, Int.reduceEq, Int.reduceToNat, Nat.reduceAdd, Nat.reduceMul, Nat.reduceEqDiff, ↓reduceIte]
    exact endW [some 0, some 1] hQ
  · have hws := words_set1 hk hS hb64 hw.2 hbw
    simp (maxSteps := 1000000) (disch := (first | omega | (simp only [lnA, List.length_map, List.length_range, true_and, and_true]; (try omega); done) | fail)) only [go_sem, hg0, wrap_mul, Int.reduceEq, Int.reduceToNat, Nat.reduceAdd, Nat.reduceMul, Nat.reduceEqDiff, ↓reduceIte]
    refine callT (mask_fn (n := n) (w := w) (L := words (nwd n w) X) hw) ?_
    simp (maxSteps := 1000000) (disch := (first | omega | (simp only [lnA, List.length_map, List.length_range, true_and, and_true]; (try omega); done) | fail)) only [go_sem, hg0, wrap_mul, ha0, ho0, hws, Int.reduceEq, Int.reduceToNat, Nat.reduceAdd, Nat.reduceMul, Nat.reduceEqDiff, ↓reduceIte]
    exact endW [some 0, some 1] hQ
theorem setN_fn {n w i x : Nat} {N : List Nat} (hn : n ≤ 256) (hw : 1 ≤ w ∧ w ≤ 32) (hi : i < n) (hx : x < 2 ^ w) (hN : N.length = n) (hl : ∀ x ∈ N, x < 2 ^ w) : Fn1 Tryz.prog 64 [.ref 0 0 0 0, .lit (.int .i64 i), .lit (.int .u64 x)] [some (vcC 1 n w), some (vcR n w (packN w N))] (.lit (.int .i64 0)) [some (vcC 1 n w), some (vcR n w (packN w (N.set i x)))] :=
  set_fn hn hw hi hx (packN_set (by omega) (by omega) hl hx)
theorem vlen_fn {n w : Nat} {L : List Int} : Fn1 Tryz.prog 48 [vecP n w L] [] (.lit (.int .i64 n)) [] := by
  refine fn1N_of pl48 (by kernel_rfl) Tryz.call48 Tryz.func48 rfl (by kernel_rfl) rfl [.tmp 2] (by kernel_rfl) fun Q hQ => ?_
  simp (maxSteps := 1000000) (disch := (first | omega | (simp only [lnA, List.length_map, List.length_range, true_and, and_true]; (try omega); done) | fail)) only [go_sem, Int.reduceEq, Int.reduceToNat, Nat.reduceAdd, Nat.reduceMul, Nat.reduceEqDiff, ↓reduceIte]
  exact endW [] hQ
theorem width_fn {n w : Nat} {L : List Int} : Fn1 Tryz.prog 63 [vecP n w L] [] (.lit (.int .i64 w)) [] := by
  refine fn1N_of pl63 (by kernel_rfl) Tryz.call63 Tryz.func63 rfl (by kernel_rfl) rfl [.tmp 2] (by kernel_rfl) fun Q hQ => ?_
  simp (maxSteps := 1000000) (disch := (first | omega | (simp only [lnA, List.length_map, List.length_range, true_and, and_true]; (try omega); done) | fail)) only [go_sem, Int.reduceEq, Int.reduceToNat, Nat.reduceAdd, Nat.reduceMul, Nat.reduceEqDiff, ↓reduceIte]
  exact endW [] hQ
end Go.Proofs.YteookgjmohokiaaGreat
