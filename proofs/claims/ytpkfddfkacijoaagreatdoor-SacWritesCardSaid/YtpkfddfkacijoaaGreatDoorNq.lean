import Derived.Test.YtpkfddfkacijoaaGreatDoorFw
import Derived.Test.YtpkfddfkacijoaaGreatDoorOa
import Derived.Test.YtpkfddfkacijoaaGreatDoorRb
import Derived.Test.YtpkfddfkacijoaaGreatDoorD3
namespace Go.Proofs.YtpkfddfkacijoaaGreatDoor
open Go.Eng Go.Vx
set_option linter.unusedSimpArgs false
set_option linter.unusedVariables false
set_option maxRecDepth 100000
theorem rndX_scale {L : List Bool} {a b g p : Nat} (hg : 0 < g) : rndX L (g * a) (g * b) p = rndX L a b p := by
 unfold rndX
 rw [Nat.mul_mod_mul_left, Nat.mul_div_mul_left _ _ hg, ratX_scale hg]
theorem rndX_frac {L : List Bool} {A B p : Nat} (hB : B ≠ 0) : rndX L (((A : Int) : Rat) / ((B : Int) : Rat)).num.natAbs (((A : Int) : Rat) / ((B : Int) : Rat)).den p = rndX L A B p := by
 have h := frac_eq (p := (A : Int)) (q := (B : Int)) (by omega)
 rw [decide_eq_false (show ¬ (A : Int) < 0 by omega), decide_eq_false (show ¬ (B : Int) < 0 by omega)] at h
 rw [← h, Int.natAbs_natCast, Int.natAbs_natCast]
 show rndX L (mkRat (A : Int) B).num.natAbs (mkRat (A : Int) B).den p = _
 rw [mkRat_numG hB, mkRat_denG hB, sg_abs, Int.natAbs_natCast]
 have hg : 0 < Nat.gcd A B := Nat.gcd_pos_of_pos_right _ (by omega)
 have h2 := rndX_scale (L := L) (a := A / Nat.gcd A B) (b := B / Nat.gcd A B) (p := p) hg
 rw [Nat.mul_div_cancel' (Nat.gcd_dvd_left A B), Nat.mul_div_cancel' (Nat.gcd_dvd_right A B)] at h2
 exact h2.symm
theorem frac_bounds {A B : Nat} (hB : B ≠ 0) (hA : A ≤ 1099511627776) : ¬ ((A : Int) : Rat) / ((B : Int) : Rat) < 0 ∧ ¬ ((1099511627776 : Int) : Rat) < ((A : Int) : Rat) / ((B : Int) : Rat) := by
 have hB' : (0 : Rat) < ((B : Int) : Rat) := Rat.intCast_pos.2 (by omega)
 constructor
 ·
  rw [Rat.not_lt, ← Rat.num_nonneg]
  have := num_nonnegR (A := A) hB
  omega
 ·
  rw [Rat.lt_div_iff hB', ← Rat.intCast_mul, Rat.intCast_lt_intCast]
  have := Nat.mul_le_mul_left 1099511627776 (show 1 ≤ B by omega)
  omega
end Go.Proofs.YtpkfddfkacijoaaGreatDoor

namespace Go.Proofs.YtpkfddfkacijoaaGreatDoor
open Go.Eng Go.Vx
set_option linter.unusedSimpArgs false
set_option linter.unusedVariables false
set_option maxRecDepth 100000
theorem ratioD_fn {L : List Bool} {P D p : Nat} (hL : L.length ≤ 1048576) (hD : ¬ (D = 0 ∨ D < P)) (hPD : P ≠ D) (hP : (wg P).length ≤ 500000) (hD1 : (wg D).length ≤ 500000) : Fn1 Tryz.prog 165 [.ref 0 0 0 0, NV P, NV D] [some (tpC L p true)]
  (.tup [.lit (.bool false), .lit (.int .i64 (if P = 0 then 0 else 8))]) [some (tpC L p true)] := by
 refine fn1N_of pl165 (by kernel_rfl) Tryz.call165 Tryz.func165 rfl (by kernel_rfl) rfl [.tmp 6, .tmp 7] (by kernel_rfl) fun Q hQ => ?_
 refine runW ?_
 refine callV0 (good_fn (P := P) (D := D) (by omega) (by omega)) rfl rfl ?_
 rw [decide_eq_true hD]
 refine runW ?_
 refine callV0 (zero_fn (n := P) (by omega)) rfl rfl ?_
 by_cases h2 : P = 0
 ·
  rw [decide_eq_true h2]
  rw [if_pos h2] at hQ
  refine runW ?_
  exact endW [some 0] hQ
 ·
  rw [decide_eq_false h2]
  rw [if_neg h2] at hQ
  refine runW ?_
  refine loopW (X := Unit) (st := fun z => ([(0, .ref 0 0 0 0), (4, .ref 1 0 0 0), (5, .ref 2 0 0 0), (8, .ref 3 0 0 0)], [some (tpC L p true), some (.cells [.row 1 ((nl (wg P)).map (ie .u64))]), some (.cells [.row 1 ((nl (wg D)).map (ie .u64))]), some (.cells [.row 1 ((nl (wg P)).map (ie .u64))])]))
   (inv := fun _ => True) (m := fun _ => 0) () [some 0, some 1, some 2, some 3] trivial ?_
  intro _ _
  have hc := cmpI_neg.2 (show P < D by omega)
  refine runW ?_
  refine callV0 (ncmp_fn (a := P) (b := D) (by omega) (by omega)) rfl rfl ?_
  simp (maxSteps := 1000000) (disch := (first | omega | (simp only [lnA, List.length_map, List.length_range, true_and, and_true]; (try omega); done) | fail)) only [go_sem, decide_eq_true hc, Int.reduceEq, Int.reduceToNat, Nat.reduceAdd, Nat.reduceMul, Nat.reduceEqDiff, ↓reduceIte]
  refine callW [some 0] [] (flipE_fn (L := L) (p := p) (d := true) hL (.inl rfl)) ?_
  refine runW ?_
  exact endW [some 0] hQ
end Go.Proofs.YtpkfddfkacijoaaGreatDoor

namespace Go.Proofs.YtpkfddfkacijoaaGreatDoor
open Go.Eng Go.Vx
set_option linter.unusedSimpArgs false
set_option linter.unusedVariables false
set_option maxRecDepth 100000
theorem shl_fn {v N : Nat} (hN : N ≤ 8192) (hv : (wg v).length ≤ 1000000) : Fn1 Tryz.prog 116 [NV v, .lit (.int .i64 (N : Int))] [] (.tup [NV (v * 2 ^ N), .lit (.int .i64 0)]) [] := by
 refine fn1N_of pl116 (by kernel_rfl) Tryz.call116 Tryz.func116 rfl (by kernel_rfl) rfl [.cell 4 56, .tmp 5] (by kernel_rfl) fun Q hQ => ?_
 have hnl := nl_len (wg v)
 have hq : (N : Int) / 64 = ((N / 64 : Nat) : Int) := by omega
 have hs : (N : Int) % 64 = ((N % 64 : Nat) : Int) := by omega
 have hm := moved_fn (W := wg v) (s := N % 64) (wg_lt v) (by omega) (by omega)
 rw [wg_val] at hm
 have hF := fw_len (B := 18446744073709551616) ((wg v).length + 1) (v * 2 ^ (N % 64))
 have hFl := fw_lt (B := 18446744073709551616) (by decide) ((wg v).length + 1) (v * 2 ^ (N % 64))
 have hFv : valB 18446744073709551616 (fw 18446744073709551616 ((wg v).length + 1) (v * 2 ^ (N % 64))) = v * 2 ^ (N % 64) := by
  rw [fw_val (by decide), Nat.mod_eq_of_lt]
  have h1 : v < 18446744073709551616 ^ (wg v).length := dgB_lt_pow (B := 18446744073709551616) (by decide) v
  have h2 : 2 ^ (N % 64) ≤ 18446744073709551616 := by
   rw [show (18446744073709551616 : Nat) = 2 ^ 64 from rfl]
   exact Nat.pow_le_pow_right (by decide) (by omega)
  rw [Nat.pow_succ]
  exact Nat.lt_of_lt_of_le (Nat.mul_lt_mul_of_pos_right h1 (Nat.pow_pos (by decide))) (Nat.mul_le_mul_left _ h2)
 have hval : valB 18446744073709551616 (List.replicate (N / 64) 0 ++ fw 18446744073709551616 ((wg v).length + 1) (v * 2 ^ (N % 64))) = v * 2 ^ N := by
  rw [valB_app, valB_rep, List.length_replicate, Nat.zero_add, hFv, show (18446744073709551616 : Nat) = 2 ^ 64 from rfl, ← Nat.pow_mul, Nat.mul_left_comm, ← Nat.pow_add, Nat.div_add_mod]
 have hall : ∀ d ∈ List.replicate (N / 64) 0 ++ fw 18446744073709551616 ((wg v).length + 1) (v * 2 ^ (N % 64)), d < 18446744073709551616 := fun d hd => by
  rcases List.mem_append.1 hd with h | h
  ·
   rw [List.eq_of_mem_replicate h]; decide
  ·
   exact hFl d h
 have hlen : (List.replicate (N / 64) 0 ++ fw 18446744073709551616 ((wg v).length + 1) (v * 2 ^ (N % 64))).length ≤ 4000000 := by
  rw [List.length_append, List.length_replicate, hF]; omega
 have hsplit : nl (List.replicate (N / 64) 0 ++ fw 18446744073709551616 ((wg v).length + 1) (v * 2 ^ (N % 64))) = nl (List.replicate (N / 64) 0) ++ nl (fw 18446744073709551616 ((wg v).length + 1) (v * 2 ^ (N % 64))) := by unfold nl; rw [List.map_append]
 have hrep := nl_rep (N / 64)
 generalize fw 18446744073709551616 ((wg v).length + 1) (v * 2 ^ (N % 64)) = F at *
 clear hFv
 generalize N / 64 = q at *
 generalize N % 64 = s at *
 have hnF := nl_len F
 rw [← hF] at hm
 simp (maxSteps := 1000000) (disch := (first | omega | (simp only [lnA, List.length_map, List.length_range, true_and, and_true]; (try omega); done) | fail)) only [go_sem, hq, hs, Int.reduceEq, Int.reduceToNat, Nat.reduceAdd, Nat.reduceMul, Nat.reduceEqDiff, ↓reduceIte]
 refine callF (hm) ?_
 have htk : List.take F.length (nl F) = nl F := List.take_of_length_le (by omega)
 have happ : List.map (ie .u64) (List.replicate q 0 ++ nl F) = List.map (ie .u64) (nl (List.replicate q 0 ++ F)) := by
  rw [hsplit, hrep]
 have hll : q + (nl F).length = (List.replicate q 0 ++ F).length := by rw [List.length_append, List.length_replicate, hnF]
 simp (maxSteps := 1000000) (disch := (first | omega | (simp only [lnA, List.length_map, List.length_range, true_and, and_true]; (try omega); done) | fail)) only [go_sem, hq, hs, htk, happ, hll, Int.reduceEq, Int.reduceToNat, Nat.reduceAdd, Nat.reduceMul, Nat.reduceEqDiff, ↓reduceIte]
 have hnl4 := nl_len (List.replicate q 0 ++ F)
 refine callW [] [4] (trimmed_fn (l := List.replicate q 0 ++ F) hall hlen) ?_
 rw [hval]
 refine runW ?_
 exact endW [] hQ
end Go.Proofs.YtpkfddfkacijoaaGreatDoor
