import Derived.Test.YtdohmppildfjhaaGreatDoorFw
import Derived.Test.YtdohmppildfjhaaGreatDoorD3
import Derived.Test.YtdohmppildfjhaaGreatDoorE7
import Derived.Test.YtdohmppildfjhaaGreatDoorE6
import Derived.Test.YtdohmppildfjhaaGreatDoorN1
import Derived.Test.YtdohmppildfjhaaGreatDoorNe
import Derived.Test.YtdohmppildfjhaaGreatDoorKp
namespace Go.Proofs.YtdohmppildfjhaaGreatDoor
open Go.Eng Go.Vx
set_option linter.unusedSimpArgs false
set_option linter.unusedVariables false
set_option maxRecDepth 100000
theorem shl_fn {v N : Nat} (hN : N ≤ 8192) (hv : (wg v).length ≤ 1000000) : Fn1 Tryz.prog 89 [NV v, .lit (.int .i64 (N : Int))] [] (.tup [NV (v * 2 ^ N), .lit (.int .i64 0)]) [] := by
 refine fn1N_of pl89 (by kernel_rfl) Tryz.call89 Tryz.func89 rfl (by kernel_rfl) rfl [.cell 4 31, .tmp 5] (by kernel_rfl) fun Q hQ => ?_
 have hnl := nl_len (wg v)
 have hq : (N : Int) / 64 = ((N / 64 : Nat) : Int) := by omega
 have hs : (N : Int) % 64 = ((N % 64 : Nat) : Int) := by omega
 have hm := moved_fn (W := wg v) (s := N % 64) (wg_lt v) (by omega) (by omega)
 rw [wg_val] at hm
 have hF := fw_len (B := 18446744073709551616) ((wg v).length + 1) (v * 2 ^ (N % 64))
 have hFl := fw_lt (B := 18446744073709551616) (by decide) ((wg v).length + 1) (v * 2 ^ (N % 64))
 have hFv : valB 18446744073709551616 (fw 18446744073709551616 ((wg v).length + 1) (v * 2 ^ (N % 64))) = v * 2 ^ (N % 64) := by
  rw [fw_val (by decide), Nat.mod_eq_of_lt]
  have h1 : v < 18446744073709551616 ^ (wg v).length := dgB_lt_pow (B := 18446744073709551616) (by decide) v
  have h2 : 2 ^ (N % 64) ≤ 18446744073709551616 := by
   rw [show (18446744073709551616 : Nat) = 2 ^ 64 from rfl]
   exact Nat.pow_le_pow_right (by decide) (by omega)
  rw [Nat.pow_succ]
  exact Nat.lt_of_lt_of_le (Nat.mul_lt_mul_of_pos_right h1 (Nat.pow_pos (by decide))) (Nat.mul_le_mul_left _ h2)
 have hval : valB 18446744073709551616 (List.replicate (N / 64) 0 ++ fw 18446744073709551616 ((wg v).length + 1) (v * 2 ^ (N % 64))) = v * 2 ^ N := by
  rw [valB_app, valB_rep, List.length_replicate, Nat.zero_add, hFv, show (18446744073709551616 : Nat) = 2 ^ 64 from rfl, ← Nat.pow_mul, Nat.mul_left_comm, ← Nat.pow_add, Nat.div_add_mod]
 have hall : ∀ d ∈ List.replicate (N / 64) 0 ++ fw 18446744073709551616 ((wg v).length + 1) (v * 2 ^ (N % 64)), d < 18446744073709551616 := fun d hd => by
  rcases List.mem_append.1 hd with h | h
  ·
   rw [List.eq_of_mem_replicate h]; decide
  ·
   exact hFl d h
 have hlen : (List.replicate (N / 64) 0 ++ fw 18446744073709551616 ((wg v).length + 1) (v * 2 ^ (N % 64))).length ≤ 4000000 := by
  rw [List.length_append, List.length_replicate, hF]; omega
 have hsplit : nl (List.replicate (N / 64) 0 ++ fw 18446744073709551616 ((wg v).length + 1) (v * 2 ^ (N % 64))) = nl (List.replicate (N / 64) 0) ++ nl (fw 18446744073709551616 ((wg v).length + 1) (v * 2 ^ (N % 64))) := by unfold nl; rw [List.map_append]
 have hrep := nl_rep (N / 64)
 generalize fw 18446744073709551616 ((wg v).length + 1) (v * 2 ^ (N % 64)) = F at *
 clear hFv
 generalize N / 64 = q at *
 generalize N % 64 = s at *
 have hnF := nl_len F
 rw [← hF] at hm
 simp (maxSteps := 1000000) (disch := (first | omega | (simp only [lnA, List.length_map, List.length_range, true_and, and_true]; (try omega); done) | fail)) only [go_sem, hq, hs, Int.reduceEq, Int.reduceToNat, Nat.reduceAdd, Nat.reduceMul, Nat.reduceEqDiff, ↓reduceIte]
 refine callF (hm) ?_
 have htk : List.take F.length (nl F) = nl F := List.take_of_length_le (by omega)
 have happ : List.map (ie .u64) (List.replicate q 0 ++ nl F) = List.map (ie .u64) (nl (List.replicate q 0 ++ F)) := by
  rw [hsplit, hrep]
 have hll : q + (nl F).length = (List.replicate q 0 ++ F).length := by rw [List.length_append, List.length_replicate, hnF]
 simp (maxSteps := 1000000) (disch := (first | omega | (simp only [lnA, List.length_map, List.length_range, true_and, and_true]; (try omega); done) | fail)) only [go_sem, hq, hs, htk, happ, hll, Int.reduceEq, Int.reduceToNat, Nat.reduceAdd, Nat.reduceMul, Nat.reduceEqDiff, ↓reduceIte]
 have hnl4 := nl_len (List.replicate q 0 ++ F)
 refine callW [] [4] (trimmed_fn (l := List.replicate q 0 ++ F) hall hlen) ?_
 rw [hval]
 refine runW ?_
 exact endW [] hQ
def vcC (o n w : Nat) : Ob := .cells [.sl o 1 0 (nwd n w), .lit (.int .i64 (n : Int)), .lit (.int .i64 (w : Int))]
def vcR (n w X : Nat) : Ob := .row 1 ((words (nwd n w) X).map (ie .u64))
attribute [go_sem] vcC vcR
def vecP (n w : Nat) (L : List Int) : V := .rref 3 [[.row 1 (L.map (ie .u64)), .lit (.int .i64 (n : Int)), .lit (.int .i64 (w : Int))]] 0 0
attribute [go_sem] vecP
def tpC (L : List Bool) (p : Nat) (d : Bool) : Ob := .cells [.lit (.int .i64 (p : Int)), .lit (.bool d), .row 1 (L.map be)]
def tpP (L : List Bool) (p : Nat) (d : Bool) : V := .rref 3 [[.lit (.int .i64 (p : Int)), .lit (.bool d), .row 1 (L.map be)]] 0 0
attribute [go_sem] tpC tpP
def halfX (L : List Bool) : Nat → Nat → Bool × Int × Nat × Bool
 | 0, p => (true, 0, p, false)
 | k + 1, p => if p < L.length then (if L.getD p false then halfX L k (p + 1) else (false, 0, p + 1, false)) else (false, 8, L.length, true)
def ratR (L : List Bool) (D : Nat) : Nat → Nat → Nat → Bool × Int × Nat × Bool
 | 0, _, _ => (false, 8, L.length, true)
 | f + 1, r, p => if p < L.length then
   (if L.getD p false = decide (D ≤ r + r) ∧ (if D ≤ r + r then r + r - D else r + r) ≠ 0 then ratR L D f (if D ≤ r + r then r + r - D else r + r) (p + 1) else (decide (D ≤ r + r) && !L.getD p false, 0, p + 1, false))
   else (false, 8, L.length, true)
theorem ratR_succ (L : List Bool) (D f r p : Nat) : ratR L D (f + 1) r p = if p < L.length then
   (if L.getD p false = decide (D ≤ r + r) ∧ (if D ≤ r + r then r + r - D else r + r) ≠ 0 then ratR L D f (if D ≤ r + r then r + r - D else r + r) (p + 1) else (decide (D ≤ r + r) && !L.getD p false, 0, p + 1, false))
   else (false, 8, L.length, true) := by conv => lhs; unfold ratR
def ratX (L : List Bool) (P D p : Nat) : Bool × Int × Nat × Bool :=
 if D = 0 ∨ D < P then (false, 2, p, false) else if P = 0 then (false, 0, p, false) else if P = D then (true, 0, p, false) else ratR L D (L.length + 1 - p) P p
def rndX (L : List Bool) (n d p : Nat) : Int × Int × Nat × Bool :=
 let r := ratX L (n % d) d p
 (if r.2.1 = 0 then ((n / d + (if r.1 then 1 else 0) : Nat) : Int) else 0, r.2.1, r.2.2.1, r.2.2.2)
theorem cmpQ_neg {x y : Rat} : cmpQ x y < 0 ↔ x < y := by
 unfold cmpQ
 split
 ·
  rename_i h; simp [h]
 ·
  rename_i h; split <;> simp [h]
theorem cmpQ_pos {x y : Rat} : 0 < cmpQ x y ↔ y < x := by
 unfold cmpQ
 split
 ·
  rename_i h
  have := Rat.not_lt.2 (Rat.le_of_lt h)
  simp [this]
 ·
  rename_i h; split <;> simp [*]
theorem cmpQ_zero {x y : Rat} : cmpQ x y = 0 ↔ x = y := by
 unfold cmpQ
 constructor
 ·
  intro h
  split at h
  ·
   simp at h
  ·
   rename_i h1
   split at h
   ·
    simp at h
   ·
    rename_i h2
    exact Rat.le_antisymm (Rat.not_lt.1 h2) (Rat.not_lt.1 h1)
 ·
  rintro rfl
  rw [if_neg Rat.lt_irrefl, if_neg Rat.lt_irrefl]
theorem num_nonneg' {x : Rat} (h : 0 ≤ x) : ¬ x.num < 0 := by have := Rat.num_nonneg.2 h; omega
theorem rwhole_fn {x : Rat} (hx : RS 1000000 x) : Fn1 Tryz.prog 53 [RV x] [] (.lit (.bool (decide (x.den = 1)))) [] := by
 have hd := x.den_nz
 have hl : (wg (x.den - 1)).length ≤ 1000000 := Nat.le_trans (wg_mono (by omega)) hx.2
 have z := zero_fn (n := x.den - 1) (by omega)
 rw [show decide (x.den - 1 = 0) = decide (x.den = 1) by congr 1; exact propext ⟨fun h => by omega, fun h => by omega⟩] at z
 refine fn1N_of pl53 (by kernel_rfl) Tryz.call53 Tryz.func53 rfl (by kernel_rfl) rfl [.tmp 2] (by kernel_rfl) fun Q hQ => ?_
 repeat (first | (refine callV0 (z) rfl rfl ?_) | (refine runW ?_))
 exact endW [] hQ
theorem rtxt_fn {x : Rat} (hx : RS 5000 x) : Fn1 Tryz.prog 17 [RV x] [] (.lit (.string (bs (qS x)))) [] := by
 obtain ⟨hx1, hx2⟩ := hx
 have w := rwhole_fn (x := x) ⟨Nat.le_trans hx1 (by decide), Nat.le_trans hx2 (by decide)⟩
 have t := wtext_fn (x := x.num) (by omega)
 have dn := rden_fn (x := x) (by omega)
 have td := ntext_fn (n := x.den) (by omega)
 have s1 := decS_wg hx1
 have s2 := decS_wg hx2
 have s3 : (zS x.num).length ≤ (decS x.num.natAbs).length + 1 := by unfold zS; split <;> simp
 unfold qS
 by_cases h : x.den = 1
 ·
  rw [if_pos h, List.append_nil]
  rw [decide_eq_true h] at w
  generalize zS x.num = sn at *
  refine fn1N_of pl17 (by kernel_rfl) Tryz.call17 Tryz.func17 rfl (by kernel_rfl) rfl [.tmp 2] (by kernel_rfl) fun Q hQ => ?_
  repeat (first | (refine callV0 (w) rfl rfl ?_) | (refine callV0 (t) rfl rfl ?_) | (refine runW ?_))
  exact endW [] hQ
 ·
  rw [if_neg h]
  rw [decide_eq_false h] at w
  generalize zS x.num = sn at *
  refine fn1N_of pl17 (by kernel_rfl) Tryz.call17 Tryz.func17 rfl (by kernel_rfl) rfl [.tmp 2] (by kernel_rfl) fun Q hQ => ?_
  repeat (first | (refine callV0 (w) rfl rfl ?_) | (refine callV0 (t) rfl rfl ?_) | (refine callV0 (dn) rfl rfl ?_) | (refine callV0 (td) rfl rfl ?_) | (simp (maxSteps := 1000000) (disch := (first | omega | (simp only [lnA, List.length_map, List.length_range, true_and, and_true]; (try omega); done) | fail)) only [go_sem, List.append_assoc, List.cons_append, List.nil_append, Int.reduceEq, Int.reduceToNat, Nat.reduceAdd, Nat.reduceMul, Nat.reduceEqDiff, ↓reduceIte]))
  exact endW [] hQ
end Go.Proofs.YtdohmppildfjhaaGreatDoor
