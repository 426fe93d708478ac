import Derived.Test.YthbcfjlalmhabaaWh
import Derived.Test.YthbcfjlalmhabaaE6
import Derived.Test.YthbcfjlalmhabaaPi
/-! Package pack. -/
namespace Go.Proofs.Ythbcfjlalmhabaa
open Go.Eng Go.Vx
set_option linter.unusedSimpArgs false
set_option linter.unusedVariables false
set_option maxRecDepth 100000
def vcC (o n w : Nat) : Ob := .cells [.sl o 1 0 (nwd n w), .lit (.int .i64 (n : Int)), .lit (.int .i64 (w : Int))]
def vcR (n w X : Nat) : Ob := .row 1 ((words (nwd n w) X).map (ie .u64))
attribute [go_sem] vcC vcR
theorem new_fn {n w : Nat} (hn : n ≤ 256) (hw : 1 ≤ w ∧ w ≤ 32) : Fn1 Try.prog 46 [.lit (.int .i64 n), .lit (.int .i64 w)] [] (.tup [.ref 0 0 0 0, .lit (.int .i64 0)]) [some (vcC 1 n w), some (vcR n w 0)] := by
  refine fn1_of pl46 (by kernel_rfl) Try.call46 Try.func46 rfl (by kernel_rfl) rfl [.tmp 4, .tmp 5] (by kernel_rfl) fun Q hQ => ?_
  have hp : n * w ≤ 256 * 32 := Nat.mul_le_mul hn hw.2
  have hc : (n : Int) * (w : Int) = ((n * w : Nat) : Int) := by simp
  have hd : (((n * w : Nat) : Int) + 64 - 1) / 64 = (nwd n w : Int) := by unfold nwd; omega
  have hd2 : nwd n w ≤ 129 := by unfold nwd; omega
  have hwz := words_zero (nwd n w)
  simp (disch := (first | omega | (simp only [List.length_append, List.length_set, List.length_cons, List.length_nil, List.length_replicate, List.length_take, List.length_drop, List.length_map, List.length_range, true_and, and_true]; (try omega); done) | fail)) only [go_sem, hc, hd, Int.reduceEq, Int.reduceToNat, Nat.reduceAdd, Nat.reduceMul, Nat.reduceEqDiff, ↓reduceIte]
  rw [← hwz]
  exact endW [some 1, some 0] hQ
theorem newB_fn {n w : Int} (h : n < 0 ∨ 256 < n ∨ w < 1 ∨ 32 < w) : Fn1 Try.prog 46 [.lit (.int .i64 n), .lit (.int .i64 w)] [] (.tup [.lit (.pointer none), .lit (.int .i64 10)]) [] := by
  refine fn1_of pl46 (by kernel_rfl) Try.call46 Try.func46 rfl (by kernel_rfl) rfl [.tmp 4, .tmp 5] (by kernel_rfl) fun Q hQ => ?_
  by_cases h1 : n < 0
  · simp (disch := (first | omega | (simp only [List.length_append, List.length_set, List.length_cons, List.length_nil, List.length_replicate, List.length_take, List.length_drop, List.length_map, List.length_range, true_and, and_true]; (try omega); done) | fail)) only [go_sem, Int.reduceEq, Int.reduceToNat, Nat.reduceAdd, Nat.reduceMul, Nat.reduceEqDiff, ↓reduceIte]
    exact endW [] hQ
  · by_cases h2 : 256 < n
    · simp (disch := (first | omega | (simp only [List.length_append, List.length_set, List.length_cons, List.length_nil, List.length_replicate, List.length_take, List.length_drop, List.length_map, List.length_range, true_and, and_true]; (try omega); done) | fail)) only [go_sem, Int.reduceEq, Int.reduceToNat, Nat.reduceAdd, Nat.reduceMul, Nat.reduceEqDiff, ↓reduceIte]
      exact endW [] hQ
    · by_cases h3 : w < 1
      · simp (disch := (first | omega | (simp only [List.length_append, List.length_set, List.length_cons, List.length_nil, List.length_replicate, List.length_take, List.length_drop, List.length_map, List.length_range, true_and, and_true]; (try omega); done) | fail)) only [go_sem, Int.reduceEq, Int.reduceToNat, Nat.reduceAdd, Nat.reduceMul, Nat.reduceEqDiff, ↓reduceIte]
        exact endW [] hQ
      · simp (disch := (first | omega | (simp only [List.length_append, List.length_set, List.length_cons, List.length_nil, List.length_replicate, List.length_take, List.length_drop, List.length_map, List.length_range, true_and, and_true]; (try omega); done) | fail)) only [go_sem, Int.reduceEq, Int.reduceToNat, Nat.reduceAdd, Nat.reduceMul, Nat.reduceEqDiff, ↓reduceIte]
        exact endW [] hQ
theorem pow_w {w : Nat} (hw : 1 ≤ w ∧ w ≤ 32) : 2 ≤ 2 ^ w ∧ 2 ^ w ≤ 4294967296 := by
  have h1 : 2 ^ 1 ≤ 2 ^ w := Nat.pow_le_pow_right (by decide) hw.1
  have h2 : 2 ^ w ≤ 2 ^ 32 := Nat.pow_le_pow_right (by decide) hw.2
  omega
/-- A vector that is only looked at. -/
def vecP (n w : Nat) (L : List Int) : V := .rref 3 [[.row 1 (L.map (ie .u64)), .lit (.int .i64 (n : Int)), .lit (.int .i64 (w : Int))]] 0 0
attribute [go_sem] vecP
theorem mask_fn {n w : Nat} {L : List Int} (hw : 1 ≤ w ∧ w ≤ 32) : Fn1 Try.prog 70 [vecP n w L] [] (.lit (.int .u64 ((2 ^ w - 1 : Nat) : Int))) [] := by
  refine fn1_of pl70 (by kernel_rfl) Try.call70 Try.func70 rfl (by kernel_rfl) rfl [.tmp 2] (by kernel_rfl) fun Q hQ => ?_
  have hp := pow_w hw
  have hs := sh1_u64 (k := w) (by omega)
  have hc : ((2 ^ w : Nat) : Int) - 1 = ((2 ^ w - 1 : Nat) : Int) := by omega
  have hww : IntKind.u64.wrap ((2 ^ w - 1 : Nat) : Int) = ((2 ^ w - 1 : Nat) : Int) := by
    generalize 2 ^ w - 1 = y at *
    simp (disch := (first | omega | (simp only [List.length_append, List.length_set, List.length_cons, List.length_nil, List.length_replicate, List.length_take, List.length_drop, List.length_map, List.length_range, true_and, and_true]; (try omega); done) | fail)) only [go_sem, Int.reduceEq, Int.reduceToNat, Nat.reduceAdd, Nat.reduceMul, Nat.reduceEqDiff, ↓reduceIte]
  simp (disch := (first | omega | (simp only [List.length_append, List.length_set, List.length_cons, List.length_nil, List.length_replicate, List.length_take, List.length_drop, List.length_map, List.length_range, true_and, and_true]; (try omega); done) | fail)) only [go_sem, hs, hc, hww, Int.reduceEq, Int.reduceToNat, Nat.reduceAdd, Nat.reduceMul, Nat.reduceEqDiff, ↓reduceIte]
  exact endW [] hQ
theorem place_fn {n w i : Nat} {L : List Int} (hn : n ≤ 256) (hw : 1 ≤ w ∧ w ≤ 32) (hi : i ≤ 256) : Fn1 Try.prog 71 [vecP n w L, .lit (.int .i64 i)] [] (.tup [.lit (.int .i64 (i * w / 64 : Nat)), .lit (.int .i64 (i * w % 64 : Nat))]) [] := by
  refine fn1_of pl71 (by kernel_rfl) Try.call71 Try.func71 rfl (by kernel_rfl) rfl [.tmp 4, .tmp 5] (by kernel_rfl) fun Q hQ => ?_
  have hp : i * w ≤ 256 * 32 := Nat.mul_le_mul hi hw.2
  have hc : (i : Int) * (w : Int) = ((i * w : Nat) : Int) := by simp
  simp (disch := (first | omega | (simp only [List.length_append, List.length_set, List.length_cons, List.length_nil, List.length_replicate, List.length_take, List.length_drop, List.length_map, List.length_range, true_and, and_true]; (try omega); done) | fail)) only [go_sem, hc, Int.reduceEq, Int.reduceToNat, Nat.reduceAdd, Nat.reduceMul, Nat.reduceEqDiff, ↓reduceIte]
  exact endW [] hQ
theorem get_fn {n w X i : Nat} (hn : n ≤ 256) (hw : 1 ≤ w ∧ w ≤ 32) (hi : i < n) : Fn1 Try.prog 68 [vecP n w (words (nwd n w) X), .lit (.int .i64 i)] [] (.tup [.lit (.int .u64 (X / 2 ^ (i * w) % 2 ^ w : Nat)), .lit (.int .i64 0)]) [] := by
  refine fn1_of pl68 (by kernel_rfl) Try.call68 Try.func68 rfl (by kernel_rfl) rfl [.tmp 4, .tmp 5] (by kernel_rfl) fun Q hQ => ?_
  simp (disch := (first | omega | (simp only [List.length_append, List.length_set, List.length_cons, List.length_nil, List.length_replicate, List.length_take, List.length_drop, List.length_map, List.length_range, true_and, and_true]; (try omega); done) | fail)) only [go_sem, Int.reduceEq, Int.reduceToNat, Nat.reduceAdd, Nat.reduceMul, Nat.reduceEqDiff, ↓reduceIte]
  refine callT (place_fn (n := n) (w := w) (L := words (nwd n w) X) (i := i) hn hw (by omega)) ?_
  have hlw := words_len (nwd n w) X
  have hm : i * w + w ≤ n * w := mulP_lt hi
  have hk : i * w / 64 < nwd n w := by unfold nwd; omega
  have hg := getW X (i * w / 64) (i * w % 64) w (Nat.mod_lt _ (by decide)) hw.2
  rw [Nat.div_add_mod] at hg
  have hg0 := words_get (X := X) hk
  have hl0 := wordOf_lt X (i * w / 64)
  have hl1 := wordOf_lt X (i * w / 64 + 1)
  generalize hkk : i * w / 64 = k at *
  generalize hbb : i * w % 64 = b at *
  have hb64 : b < 64 := by omega
  have hnw : n * w ≤ 256 * 32 := Nat.mul_le_mul hn hw.2
  have hkb : k ≤ 200 := by unfold nwd at hk; omega
  have hpw := pow_w hw
  have hdv := div_nat (wordOf X k) b
  have hd64 := div_lt64 (k := b) hl0
  by_cases hbw : 64 < b + w
  · rw [if_pos hbw] at hg
    have hk1 : k + 1 < nwd n w := by unfold nwd; omega
    have hg1 := words_get (X := X) hk1
    have hk2 : ((k : Int) + 1).toNat = k + 1 := by omega
    have hb2 : ((64 : Int) - (b : Int)).toNat = 64 - b := by omega
    simp (disch := (first | omega | (simp only [List.length_append, List.length_set, List.length_cons, List.length_nil, List.length_replicate, List.length_take, List.length_drop, List.length_map, List.length_range, true_and, and_true]; (try omega); done) | fail)) only [go_sem, hg0, hg1, hk2, hdv, hb2, wrap_mul, or_u64 hd64 (mod_lt64 (wordOf X (k + 1) * 2 ^ (64 - b))), Int.reduceEq, Int.reduceToNat, Nat.reduceAdd, Nat.reduceMul, Nat.reduceEqDiff, ↓reduceIte]
    refine callT (mask_fn (n := n) (w := w) (L := words (nwd n w) X) hw) ?_
    simp (disch := (first | omega | (simp only [List.length_append, List.length_set, List.length_cons, List.length_nil, List.length_replicate, List.length_take, List.length_drop, List.length_map, List.length_range, true_and, and_true]; (try omega); done) | fail)) only [go_sem, hg0, and_mask (or_lt64 hd64 (mod_lt64 (wordOf X (k + 1) * 2 ^ (64 - b)))) hpw.2, hg, Int.reduceEq, Int.reduceToNat, Nat.reduceAdd, Nat.reduceMul, Nat.reduceEqDiff, ↓reduceIte]
    exact endW [] hQ
  · rw [if_neg hbw, Nat.or_zero] at hg
    simp (disch := (first | omega | (simp only [List.length_append, List.length_set, List.length_cons, List.length_nil, List.length_replicate, List.length_take, List.length_drop, List.length_map, List.length_range, true_and, and_true]; (try omega); done) | fail)) only [go_sem, hg0, hdv, Int.reduceEq, Int.reduceToNat, Nat.reduceAdd, Nat.reduceMul, Nat.reduceEqDiff, ↓reduceIte]
    refine callT (mask_fn (n := n) (w := w) (L := words (nwd n w) X) hw) ?_
    simp (disch := (first | omega | (simp only [List.length_append, List.length_set, List.length_cons, List.length_nil, List.length_replicate, List.length_take, List.length_drop, List.length_map, List.length_range, true_and, and_true]; (try omega); done) | fail)) only [go_sem, hg0, and_mask hd64 hpw.2, hg, Int.reduceEq, Int.reduceToNat, Nat.reduceAdd, Nat.reduceMul, Nat.reduceEqDiff, ↓reduceIte]
    exact endW [] hQ
theorem getN_fn {n w i : Nat} {N : List Nat} (hn : n ≤ 256) (hw : 1 ≤ w ∧ w ≤ 32) (hi : i < n) (hl : ∀ x ∈ N, x < 2 ^ w) : Fn1 Try.prog 68 [vecP n w (words (nwd n w) (packN w N)), .lit (.int .i64 i)] [] (.tup [.lit (.int .u64 (N.getD i 0 : Nat)), .lit (.int .i64 0)]) [] := by
  rw [← packN_get (by omega) hl]
  exact get_fn hn hw hi
theorem getB_fn {n w : Nat} {L : List Int} {i : Int} (hn : n ≤ 256) (hi : i < 0 ∨ n ≤ i) : Fn1 Try.prog 68 [vecP n w L, .lit (.int .i64 i)] [] (.tup [.lit (.int .u64 0), .lit (.int .i64 1)]) [] := by
  refine fn1_of pl68 (by kernel_rfl) Try.call68 Try.func68 rfl (by kernel_rfl) rfl [.tmp 4, .tmp 5] (by kernel_rfl) fun Q hQ => ?_
  by_cases h : i < 0
  · simp (disch := (first | omega | (simp only [List.length_append, List.length_set, List.length_cons, List.length_nil, List.length_replicate, List.length_take, List.length_drop, List.length_map, List.length_range, true_and, and_true]; (try omega); done) | fail)) only [go_sem, Int.reduceEq, Int.reduceToNat, Nat.reduceAdd, Nat.reduceMul, Nat.reduceEqDiff, ↓reduceIte]
    exact endW [] hQ
  · simp (disch := (first | omega | (simp only [List.length_append, List.length_set, List.length_cons, List.length_nil, List.length_replicate, List.length_take, List.length_drop, List.length_map, List.length_range, true_and, and_true]; (try omega); done) | fail)) only [go_sem, Int.reduceEq, Int.reduceToNat, Nat.reduceAdd, Nat.reduceMul, Nat.reduceEqDiff, ↓reduceIte]
    exact endW [] hQ
theorem set_fn {n w X Y i x : Nat} (hn : n ≤ 256) (hw : 1 ≤ w ∧ w ≤ 32) (hi : i < n) (hx : x < 2 ^ w) (hS : SetBits X Y (i * w) w x) : Fn1 Try.prog 49 [.ref 0 0 0 0, .lit (.int .i64 i), .lit (.int .u64 x)] [some (vcC 1 n w), some (vcR n w X)] (.lit (.int .i64 0)) [some (vcC 1 n w), some (vcR n w Y)] := by
  refine fn1_of pl49 (by kernel_rfl) Try.call49 Try.func49 rfl (by kernel_rfl) rfl [.tmp 6] (by kernel_rfl) fun Q hQ => ?_
  have hlw := words_len (nwd n w) X
  simp (disch := (first | omega | (simp only [List.length_append, List.length_set, List.length_cons, List.length_nil, List.length_replicate, List.length_take, List.length_drop, List.length_map, List.length_range, true_and, and_true]; (try omega); done) | fail)) only [go_sem, Int.reduceEq, Int.reduceToNat, Nat.reduceAdd, Nat.reduceMul, Nat.reduceEqDiff, ↓reduceIte]
  refine callT (mask_fn (n := n) (w := w) (L := words (nwd n w) X) hw) ?_
  have hpw := pow_w hw
  simp (disch := (first | omega | (simp only [List.length_append, List.length_set, List.length_cons, List.length_nil, List.length_replicate, List.length_take, List.length_drop, List.length_map, List.length_range, true_and, and_true]; (try omega); done) | fail)) only [go_sem, Int.reduceEq, Int.reduceToNat, Nat.reduceAdd, Nat.reduceMul, Nat.reduceEqDiff, ↓reduceIte]
  refine callT (place_fn (n := n) (w := w) (L := words (nwd n w) X) (i := i) hn hw (by omega)) ?_
  have hlw := words_len (nwd n w) X
  have hm : i * w + w ≤ n * w := mulP_lt hi
  have hk : i * w / 64 < nwd n w := by unfold nwd; omega
  have hnw : n * w ≤ 256 * 32 := Nat.mul_le_mul hn hw.2
  have hdm := Nat.div_add_mod (i * w) 64
  have hg0 := words_get (X := X) hk
  have hl0 := wordOf_lt X (i * w / 64)
  have hl1 := wordOf_lt X (i * w / 64 + 1)
  rw [← hdm] at hS
  generalize hkk : i * w / 64 = k at *
  generalize hbb : i * w % 64 = b at *
  have hb64 : b < 64 := by omega
  have hkb : k ≤ 200 := by unfold nwd at hk; omega
  have hw0 := setW0 hS hb64 hx
  have ha0 := andn_eq hl0 (mod_lt64 ((2 ^ w - 1) * 2 ^ b))
  have ho0 := or_u64 (xor_lt64 hl0 (mod_lt64 ((2 ^ w - 1) * 2 ^ b))) (mod_lt64 (x * 2 ^ b))
  rw [hw0] at ho0
  by_cases hbw : 64 < b + w
  · have hk1 : k + 1 < nwd n w := by unfold nwd; omega
    have hg1 := words_get (X := X) hk1
    have hw1 := setW1 hS hb64 hw.2 hbw hx
    have hxl : x < 18446744073709551616 := by omega
    have hml : 2 ^ w - 1 < 18446744073709551616 := by omega
    have ha1 := andn_eq hl1 (div_lt64 (k := 64 - b) hml)
    have ho1 := or_u64 (xor_lt64 hl1 (div_lt64 (k := 64 - b) hml)) (div_lt64 (k := 64 - b) hxl)
    rw [hw1] at ho1
    have hk2 : ((k : Int) + 1).toNat = k + 1 := by omega
    have hb2 : ((64 : Int) - (b : Int)).toNat = 64 - b := by omega
    have hd1 := div_nat (2 ^ w - 1) (64 - b)
    have hd2 := div_nat x (64 - b)
    have hws := words_set2 hk1 hS hb64 hw.2
    have hgs : ((words (nwd n w) X).set k (wordOf Y k : Int)).getD (k + 1) 0 = (wordOf X (k + 1) : Int) := by rw [getD_set_ne (by omega), hg1]
    simp (disch := (first | omega | (simp only [List.length_append, List.length_set, List.length_cons, List.length_nil, List.length_replicate, List.length_take, List.length_drop, List.length_map, List.length_range, true_and, and_true]; (try omega); done) | fail)) only [go_sem, hg0, wrap_mul, Int.reduceEq, Int.reduceToNat, Nat.reduceAdd, Nat.reduceMul, Nat.reduceEqDiff, ↓reduceIte]
    refine callT (mask_fn (n := n) (w := w) (L := words (nwd n w) X) hw) ?_
    simp (disch := (first | omega | (simp only [List.length_append, List.length_set, List.length_cons, List.length_nil, List.length_replicate, List.length_take, List.length_drop, List.length_map, List.length_range, true_and, and_true]; (try omega); done) | fail)) only [go_sem, hg0, wrap_mul, ha0, ho0, hk2, hgs, hb2, Int.reduceEq, Int.reduceToNat, Nat.reduceAdd, Nat.reduceMul, Nat.reduceEqDiff, ↓reduceIte]
    refine callT (mask_fn (n := n) (w := w) (L := (words (nwd n w) X).set k (wordOf Y k : Int)) hw) ?_
    simp (disch := (first | omega | (simp only [List.length_append, List.length_set, List.length_cons, List.length_nil, List.length_replicate, List.length_take, List.length_drop, List.length_map, List.length_range, true_and, and_true]; (try omega); done) | fail)) only [go_sem, hk2, hgs, hb2, hd1, hd2, ha1, ho1, hws, Int.reduceEq, Int.reduceToNat, Nat.reduceAdd, Nat.reduceMul, Nat.reduceEqDiff, ↓reduceIte]
    exact endW [some 0, some 1] hQ
  · have hws := words_set1 hk hS hb64 hw.2 hbw
    simp (disch := (first | omega | (simp only [List.length_append, List.length_set, List.length_cons, List.length_nil, List.length_replicate, List.length_take, List.length_drop, List.length_map, List.length_range, true_and, and_true]; (try omega); done) | fail)) only [go_sem, hg0, wrap_mul, Int.reduceEq, Int.reduceToNat, Nat.reduceAdd, Nat.reduceMul, Nat.reduceEqDiff, ↓reduceIte]
    refine callT (mask_fn (n := n) (w := w) (L := words (nwd n w) X) hw) ?_
    simp (disch := (first | omega | (simp only [List.length_append, List.length_set, List.length_cons, List.length_nil, List.length_replicate, List.length_take, List.length_drop, List.length_map, List.length_range, true_and, and_true]; (try omega); done) | fail)) only [go_sem, hg0, wrap_mul, ha0, ho0, hws, Int.reduceEq, Int.reduceToNat, Nat.reduceAdd, Nat.reduceMul, Nat.reduceEqDiff, ↓reduceIte]
    exact endW [some 0, some 1] hQ
theorem setN_fn {n w i x : Nat} {N : List Nat} (hn : n ≤ 256) (hw : 1 ≤ w ∧ w ≤ 32) (hi : i < n) (hx : x < 2 ^ w) (hN : N.length = n) (hl : ∀ x ∈ N, x < 2 ^ w) : Fn1 Try.prog 49 [.ref 0 0 0 0, .lit (.int .i64 i), .lit (.int .u64 x)] [some (vcC 1 n w), some (vcR n w (packN w N))] (.lit (.int .i64 0)) [some (vcC 1 n w), some (vcR n w (packN w (N.set i x)))] :=
  set_fn hn hw hi hx (packN_set (by omega) (by omega) hl hx)
theorem setB_fn {n w X x : Nat} {i : Int} (hn : n ≤ 256) (hi : i < 0 ∨ n ≤ i) : Fn1 Try.prog 49 [.ref 0 0 0 0, .lit (.int .i64 i), .lit (.int .u64 x)] [some (vcC 1 n w), some (vcR n w X)] (.lit (.int .i64 1)) [some (vcC 1 n w), some (vcR n w X)] := by
  refine fn1_of pl49 (by kernel_rfl) Try.call49 Try.func49 rfl (by kernel_rfl) rfl [.tmp 6] (by kernel_rfl) fun Q hQ => ?_
  by_cases h : i < 0
  · simp (disch := (first | omega | (simp only [List.length_append, List.length_set, List.length_cons, List.length_nil, List.length_replicate, List.length_take, List.length_drop, List.length_map, List.length_range, true_and, and_true]; (try omega); done) | fail)) only [go_sem, Int.reduceEq, Int.reduceToNat, Nat.reduceAdd, Nat.reduceMul, Nat.reduceEqDiff, ↓reduceIte]
    exact endW [some 0, some 1] hQ
  · simp (disch := (first | omega | (simp only [List.length_append, List.length_set, List.length_cons, List.length_nil, List.length_replicate, List.length_take, List.length_drop, List.length_map, List.length_range, true_and, and_true]; (try omega); done) | fail)) only [go_sem, Int.reduceEq, Int.reduceToNat, Nat.reduceAdd, Nat.reduceMul, Nat.reduceEqDiff, ↓reduceIte]
    exact endW [some 0, some 1] hQ
theorem setR_fn {n w X i x : Nat} (hn : n ≤ 256) (hw : 1 ≤ w ∧ w ≤ 32) (hi : i < n) (hx : 2 ^ w ≤ x) : Fn1 Try.prog 49 [.ref 0 0 0 0, .lit (.int .i64 i), .lit (.int .u64 x)] [some (vcC 1 n w), some (vcR n w X)] (.lit (.int .i64 2)) [some (vcC 1 n w), some (vcR n w X)] := by
  refine fn1_of pl49 (by kernel_rfl) Try.call49 Try.func49 rfl (by kernel_rfl) rfl [.tmp 6] (by kernel_rfl) fun Q hQ => ?_
  have hlw := words_len (nwd n w) X
  simp (disch := (first | omega | (simp only [List.length_append, List.length_set, List.length_cons, List.length_nil, List.length_replicate, List.length_take, List.length_drop, List.length_map, List.length_range, true_and, and_true]; (try omega); done) | fail)) only [go_sem, Int.reduceEq, Int.reduceToNat, Nat.reduceAdd, Nat.reduceMul, Nat.reduceEqDiff, ↓reduceIte]
  refine callT (mask_fn (n := n) (w := w) (L := words (nwd n w) X) hw) ?_
  have hpw := pow_w hw
  simp (disch := (first | omega | (simp only [List.length_append, List.length_set, List.length_cons, List.length_nil, List.length_replicate, List.length_take, List.length_drop, List.length_map, List.length_range, true_and, and_true]; (try omega); done) | fail)) only [go_sem, Int.reduceEq, Int.reduceToNat, Nat.reduceAdd, Nat.reduceMul, Nat.reduceEqDiff, ↓reduceIte]
  exact endW [some 0, some 1] hQ
theorem vlen_fn {n w : Nat} {L : List Int} : Fn1 Try.prog 54 [vecP n w L] [] (.lit (.int .i64 n)) [] := by
  refine fn1_of pl54 (by kernel_rfl) Try.call54 Try.func54 rfl (by kernel_rfl) rfl [.tmp 2] (by kernel_rfl) fun Q hQ => ?_
  simp (disch := (first | omega | (simp only [List.length_append, List.length_set, List.length_cons, List.length_nil, List.length_replicate, List.length_take, List.length_drop, List.length_map, List.length_range, true_and, and_true]; (try omega); done) | fail)) only [go_sem, Int.reduceEq, Int.reduceToNat, Nat.reduceAdd, Nat.reduceMul, Nat.reduceEqDiff, ↓reduceIte]
  exact endW [] hQ
theorem width_fn {n w : Nat} {L : List Int} : Fn1 Try.prog 47 [vecP n w L] [] (.lit (.int .i64 w)) [] := by
  refine fn1_of pl47 (by kernel_rfl) Try.call47 Try.func47 rfl (by kernel_rfl) rfl [.tmp 2] (by kernel_rfl) fun Q hQ => ?_
  simp (disch := (first | omega | (simp only [List.length_append, List.length_set, List.length_cons, List.length_nil, List.length_replicate, List.length_take, List.length_drop, List.length_map, List.length_range, true_and, and_true]; (try omega); done) | fail)) only [go_sem, Int.reduceEq, Int.reduceToNat, Nat.reduceAdd, Nat.reduceMul, Nat.reduceEqDiff, ↓reduceIte]
  exact endW [] hQ
theorem equalU_fn {A B : List Int} (hA : A.length ≤ 1099511627776) (hB : B.length ≤ 1099511627776) : Fn1 Try.prog 73 [.row 1 (A.map (ie .u64)), .row 1 (B.map (ie .u64))] [] (.lit (.bool (decide (A = B)))) [] := by
  refine fn1_of pl73 (by kernel_rfl) Try.call73 Try.func73 rfl (by kernel_rfl) rfl [.tmp 4] (by kernel_rfl) fun Q hQ => ?_
  by_cases hl : A.length = B.length
  · simp (disch := (first | omega | (simp only [List.length_append, List.length_set, List.length_cons, List.length_nil, List.length_replicate, List.length_take, List.length_drop, List.length_map, List.length_range, true_and, and_true]; (try omega); done) | fail)) only [go_sem, Int.reduceEq, Int.reduceToNat, Nat.reduceAdd, Nat.reduceMul, Nat.reduceEqDiff, ↓reduceIte]
    refine LoopV_of (X := Nat) (st := fun i => ([(0, .row 1 (A.map (ie .u64))), (1, .row 1 (B.map (ie .u64))), (12, .lit (.int .i64 (A.length : Int))), (13, .lit (.int .i64 (i : Int)))], []))
      (inv := fun i => i ≤ A.length ∧ A.take i = B.take i) (m := fun i => A.length - i) 0 [] rfl (by simp (disch := (first | omega | (simp only [List.length_append, List.length_set, List.length_cons, List.length_nil, List.length_replicate, List.length_take, List.length_drop, List.length_map, List.length_range, true_and, and_true]; (try omega); done) | fail)) only [go_sem, Int.reduceEq, Int.reduceToNat, Nat.reduceAdd, Nat.reduceMul, Nat.reduceEqDiff, ↓reduceIte, true_and, and_true, and_self, List.drop_zero, List.take_length, Nat.le_refl, V.lit.injEq, Value.int.injEq, Value.bool.injEq]; try (first | omega | (simp; done) | (simp; omega))) (by simp (disch := (first | omega | (simp only [List.length_append, List.length_set, List.length_cons, List.length_nil, List.length_replicate, List.length_take, List.length_drop, List.length_map, List.length_range, true_and, and_true]; (try omega); done) | fail)) only [go_sem, Int.reduceEq, Int.reduceToNat, Nat.reduceAdd, Nat.reduceMul, Nat.reduceEqDiff, ↓reduceIte, true_and, and_true, and_self, List.drop_zero, List.take_length, Nat.le_refl, V.lit.injEq, Value.int.injEq, Value.bool.injEq]; try (first | omega | (simp; done) | (simp; omega))) ⟨by omega, by simp⟩ ?_
    rintro i ⟨hi, ht⟩
    by_cases h : i < A.length
    · have hs := takeI_succ h (show i < B.length by omega)
      by_cases he : A.getD i 0 = B.getD i 0
      · simp (disch := (first | omega | (simp only [List.length_append, List.length_set, List.length_cons, List.length_nil, List.length_replicate, List.length_take, List.length_drop, List.length_map, List.length_range, true_and, and_true]; (try omega); done) | fail)) only [go_sem, Int.reduceEq, Int.reduceToNat, Nat.reduceAdd, Nat.reduceMul, Nat.reduceEqDiff, ↓reduceIte]
        refine nextW (i + 1) [] ⟨by omega, hs.2 ⟨ht, he⟩⟩ (by omega)
      · simp (disch := (first | omega | (simp only [List.length_append, List.length_set, List.length_cons, List.length_nil, List.length_replicate, List.length_take, List.length_drop, List.length_map, List.length_range, true_and, and_true]; (try omega); done) | fail)) only [go_sem, Int.reduceEq, Int.reduceToNat, Nat.reduceAdd, Nat.reduceMul, Nat.reduceEqDiff, ↓reduceIte]
        rw [decide_eq_false (fun e => he (by rw [e]))] at hQ
        exact endW [] hQ
    · obtain rfl : i = A.length := by omega
      rw [List.take_length, hl, List.take_length] at ht
      rw [decide_eq_true ht] at hQ
      simp (disch := (first | omega | (simp only [List.length_append, List.length_set, List.length_cons, List.length_nil, List.length_replicate, List.length_take, List.length_drop, List.length_map, List.length_range, true_and, and_true]; (try omega); done) | fail)) only [go_sem, Int.reduceEq, Int.reduceToNat, Nat.reduceAdd, Nat.reduceMul, Nat.reduceEqDiff, ↓reduceIte]
      exact endW [] hQ
  · rw [decide_eq_false (fun e => hl (by rw [e]))] at hQ
    simp (disch := (first | omega | (simp only [List.length_append, List.length_set, List.length_cons, List.length_nil, List.length_replicate, List.length_take, List.length_drop, List.length_map, List.length_range, true_and, and_true]; (try omega); done) | fail)) only [go_sem, Int.reduceEq, Int.reduceToNat, Nat.reduceAdd, Nat.reduceMul, Nat.reduceEqDiff, ↓reduceIte]
    exact endW [] hQ
theorem sameV_fn {n w X Y : Nat} (hn : n ≤ 256) (hw : 1 ≤ w ∧ w ≤ 32) : Fn1 Try.prog 52 [vecP n w (words (nwd n w) X), vecP n w (words (nwd n w) Y)] [] (.lit (.bool (decide (words (nwd n w) X = words (nwd n w) Y)))) [] := by
  refine fn1_of pl52 (by kernel_rfl) Try.call52 Try.func52 rfl (by kernel_rfl) rfl [.tmp 4] (by kernel_rfl) fun Q hQ => ?_
  have hnw : n * w ≤ 256 * 32 := Nat.mul_le_mul hn hw.2
  have hk : nwd n w ≤ 200 := by unfold nwd; omega
  simp (disch := (first | omega | (simp only [List.length_append, List.length_set, List.length_cons, List.length_nil, List.length_replicate, List.length_take, List.length_drop, List.length_map, List.length_range, true_and, and_true]; (try omega); done) | fail)) only [go_sem, Int.reduceEq, Int.reduceToNat, Nat.reduceAdd, Nat.reduceMul, Nat.reduceEqDiff, ↓reduceIte]
  refine callT (equalU_fn (A := words (nwd n w) X) (B := words (nwd n w) Y) (by rw [words_len]; omega) (by rw [words_len]; omega)) ?_
  simp (disch := (first | omega | (simp only [List.length_append, List.length_set, List.length_cons, List.length_nil, List.length_replicate, List.length_take, List.length_drop, List.length_map, List.length_range, true_and, and_true]; (try omega); done) | fail)) only [go_sem, Int.reduceEq, Int.reduceToNat, Nat.reduceAdd, Nat.reduceMul, Nat.reduceEqDiff, ↓reduceIte]
  exact endW [] hQ
theorem cloneU_fn {A : List Int} (hA : A.length ≤ 1000000) : Fn1 Try.prog 69 [.row 1 (A.map (ie .u64))] [] (.sl 0 1 0 A.length) [some (.row 1 (A.map (ie .u64)))] := by
  refine fn1_of pl69 (by kernel_rfl) Try.call69 Try.func69 rfl (by kernel_rfl) rfl [.tmp 2] (by kernel_rfl) fun Q hQ => ?_
  by_cases h : A = []
  · subst h
    simp (disch := (first | omega | (simp only [List.length_append, List.length_set, List.length_cons, List.length_nil, List.length_replicate, List.length_take, List.length_drop, List.length_map, List.length_range, true_and, and_true]; (try omega); done) | fail)) only [go_sem, List.isEmpty_nil, Int.reduceEq, Int.reduceToNat, Nat.reduceAdd, Nat.reduceMul, Nat.reduceEqDiff, ↓reduceIte]
    refine nilB_both ?_ ?_
    · simp (disch := (first | omega | (simp only [List.length_append, List.length_set, List.length_cons, List.length_nil, List.length_replicate, List.length_take, List.length_drop, List.length_map, List.length_range, true_and, and_true]; (try omega); done) | fail)) only [go_sem, Int.reduceEq, Int.reduceToNat, Nat.reduceAdd, Nat.reduceMul, Nat.reduceEqDiff, ↓reduceIte]
      exact endW [none] hQ
    · simp (disch := (first | omega | (simp only [List.length_append, List.length_set, List.length_cons, List.length_nil, List.length_replicate, List.length_take, List.length_drop, List.length_map, List.length_range, true_and, and_true]; (try omega); done) | fail)) only [go_sem, Int.reduceEq, Int.reduceToNat, Nat.reduceAdd, Nat.reduceMul, Nat.reduceEqDiff, ↓reduceIte]
      exact endW [some 1] hQ
  · have he : (A.map (ie .u64)).isEmpty = false := by simp [h]
    have hpos : 0 < A.length := by cases A with | nil => exact absurd rfl h | cons _ _ => simp
    simp (disch := (first | omega | (simp only [List.length_append, List.length_set, List.length_cons, List.length_nil, List.length_replicate, List.length_take, List.length_drop, List.length_map, List.length_range, true_and, and_true]; (try omega); done) | fail)) only [go_sem, he, Int.reduceEq, Int.reduceToNat, Nat.reduceAdd, Nat.reduceMul, Nat.reduceEqDiff, ↓reduceIte]
    exact endW [some 1] hQ
theorem cloneV_fn {n w X : Nat} (hn : n ≤ 256) (hw : 1 ≤ w ∧ w ≤ 32) : Fn1 Try.prog 48 [vecP n w (words (nwd n w) X)] [] (.ref 0 0 0 0) [some (vcC 1 n w), some (vcR n w X)] := by
  refine fn1_of pl48 (by kernel_rfl) Try.call48 Try.func48 rfl (by kernel_rfl) rfl [.tmp 2] (by kernel_rfl) fun Q hQ => ?_
  have hnw : n * w ≤ 256 * 32 := Nat.mul_le_mul hn hw.2
  have hk : nwd n w ≤ 200 := by unfold nwd; omega
  have hlw := words_len (nwd n w) X
  simp (disch := (first | omega | (simp only [List.length_append, List.length_set, List.length_cons, List.length_nil, List.length_replicate, List.length_take, List.length_drop, List.length_map, List.length_range, true_and, and_true]; (try omega); done) | fail)) only [go_sem, Int.reduceEq, Int.reduceToNat, Nat.reduceAdd, Nat.reduceMul, Nat.reduceEqDiff, ↓reduceIte]
  refine callF (cloneU_fn (A := words (nwd n w) X) (by omega)) ?_
  simp (disch := (first | omega | (simp only [List.length_append, List.length_set, List.length_cons, List.length_nil, List.length_replicate, List.length_take, List.length_drop, List.length_map, List.length_range, true_and, and_true]; (try omega); done) | fail)) only [go_sem, Int.reduceEq, Int.reduceToNat, Nat.reduceAdd, Nat.reduceMul, Nat.reduceEqDiff, ↓reduceIte]
  exact endW [some 1, some 0] hQ
end Go.Proofs.Ythbcfjlalmhabaa
