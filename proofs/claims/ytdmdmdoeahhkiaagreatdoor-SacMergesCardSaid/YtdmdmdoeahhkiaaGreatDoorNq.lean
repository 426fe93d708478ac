import Derived.Test.YtdmdmdoeahhkiaaGreatDoorFw
import Derived.Test.YtdmdmdoeahhkiaaGreatDoorD3
import Derived.Test.YtdmdmdoeahhkiaaGreatDoorFb
namespace Go.Proofs.YtdmdmdoeahhkiaaGreatDoor
open Go.Eng Go.Vx
set_option linter.unusedSimpArgs false
set_option linter.unusedVariables false
set_option maxRecDepth 100000
theorem shl_fn {v N : Nat} (hN : N ≤ 8192) (hv : (wg v).length ≤ 1000000) : Fn1 Tryz.prog 140 [NV v, .lit (.int .i64 (N : Int))] [] (.tup [NV (v * 2 ^ N), .lit (.int .i64 0)]) [] := by
  refine fn1N_of pl140 (by kernel_rfl) Tryz.call140 Tryz.func140 rfl (by kernel_rfl) rfl [.cell 4 42, .tmp 5] (by kernel_rfl) fun Q hQ => ?_
  have hnl := nl_len (wg v)
  have hq : (N : Int) / 64 = ((N / 64 : Nat) : Int) := by omega
  have hs : (N : Int) % 64 = ((N % 64 : Nat) : Int) := by omega
  have hm := moved_fn (W := wg v) (s := N % 64) (wg_lt v) (by omega) (by omega)
  rw [wg_val] at hm
  have hF := fw_len (B := 18446744073709551616) ((wg v).length + 1) (v * 2 ^ (N % 64))
  have hFl := fw_lt (B := 18446744073709551616) (by decide) ((wg v).length + 1) (v * 2 ^ (N % 64))
  have hFv : valB 18446744073709551616 (fw 18446744073709551616 ((wg v).length + 1) (v * 2 ^ (N % 64))) = v * 2 ^ (N % 64) := by
    rw [fw_val (by decide), Nat.mod_eq_of_lt]
    have h1 : v < 18446744073709551616 ^ (wg v).length := dgB_lt_pow (B := 18446744073709551616) (by decide) v
    have h2 : 2 ^ (N % 64) ≤ 18446744073709551616 := by
      rw [show (18446744073709551616 : Nat) = 2 ^ 64 from rfl]
      exact Nat.pow_le_pow_right (by decide) (by omega)
    rw [Nat.pow_succ]
    exact Nat.lt_of_lt_of_le (Nat.mul_lt_mul_of_pos_right h1 (Nat.pow_pos (by decide))) (Nat.mul_le_mul_left _ h2)
  have hval : valB 18446744073709551616 (List.replicate (N / 64) 0 ++ fw 18446744073709551616 ((wg v).length + 1) (v * 2 ^ (N % 64))) = v * 2 ^ N := by
    rw [valB_app, valB_rep, List.length_replicate, Nat.zero_add, hFv, show (18446744073709551616 : Nat) = 2 ^ 64 from rfl, ← Nat.pow_mul, Nat.mul_left_comm, ← Nat.pow_add, Nat.div_add_mod]
  have hall : ∀ d ∈ List.replicate (N / 64) 0 ++ fw 18446744073709551616 ((wg v).length + 1) (v * 2 ^ (N % 64)), d < 18446744073709551616 := fun d hd => by
    rcases List.mem_append.1 hd with h | h
    · rw [List.eq_of_mem_replicate h]; decide
    · exact hFl d h
  have hlen : (List.replicate (N / 64) 0 ++ fw 18446744073709551616 ((wg v).length + 1) (v * 2 ^ (N % 64))).length ≤ 4000000 := by
    rw [List.length_append, List.length_replicate, hF]; omega
  have hsplit : nl (List.replicate (N / 64) 0 ++ fw 18446744073709551616 ((wg v).length + 1) (v * 2 ^ (N % 64))) = nl (List.replicate (N / 64) 0) ++ nl (fw 18446744073709551616 ((wg v).length + 1) (v * 2 ^ (N % 64))) := by unfold nl; rw [List.map_append]
  have hrep := nl_rep (N / 64)
  generalize fw 18446744073709551616 ((wg v).length + 1) (v * 2 ^ (N % 64)) = F at *
  clear hFv
  generalize N / 64 = q at *
  generalize N % 64 = s at *
  have hnF := nl_len F
  rw [← hF] at hm
  simp (maxSteps := 1000000) (disch := (first | omega | (simp only [lnA, List.length_map, List.length_range, true_and, and_true]; (try omega); done) | fail)) only [go_sem, hq, hs, Int.reduceEq, Int.reduceToNat, Nat.reduceAdd, Nat.reduceMul, Nat.reduceEqDiff, ↓reduceIte]
  refine callF (hm) ?_
  have htk : List.take F.length (nl F) = nl F := List.take_of_length_le (by omega)
  have happ : List.map (ie .u64) (List.replicate q 0 ++ nl F) = List.map (ie .u64) (nl (List.replicate q 0 ++ F)) := by
    rw [hsplit, hrep]
  have hll : q + (nl F).length = (List.replicate q 0 ++ F).length := by rw [List.length_append, List.length_replicate, hnF]
  simp (maxSteps := 1000000) (disch := (first | omega | (simp only [lnA, List.length_map, List.length_range, true_and, and_true]; (try omega); done) | fail)) only [go_sem, hq, hs, htk, happ, hll, Int.reduceEq, Int.reduceToNat, Nat.reduceAdd, Nat.reduceMul, Nat.reduceEqDiff, ↓reduceIte]
  have hnl4 := nl_len (List.replicate q 0 ++ F)
  refine callW [] [4] (trimmed_fn (l := List.replicate q 0 ++ F) hall hlen) ?_
  rw [hval]
  refine runW ?_
  exact endW [] hQ
end Go.Proofs.YtdmdmdoeahhkiaaGreatDoor

namespace Go.Proofs.YtdmdmdoeahhkiaaGreatDoor
open Go.Eng Go.Vx
set_option linter.unusedSimpArgs false
set_option linter.unusedVariables false
set_option maxRecDepth 100000
theorem slHasPrefix_fn {S p : List UInt8} (hS : S.length ≤ 9223372036854775807) (hp : p.length ≤ 9223372036854775807) : Fn1 Tryz.prog 172 [.lit (.string (bs S)), .lit (.string (bs p))] [] (.lit (.bool (decide (p.length ≤ S.length ∧ S.take p.length = p)))) [] := by
  refine fn1N_of pl172 (by kernel_rfl) Tryz.call172 Tryz.func172 rfl (by kernel_rfl) rfl [.tmp 4] (by kernel_rfl) fun Q hQ => ?_
  by_cases h : p.length ≤ S.length
  · have e : decide (p.length ≤ S.length ∧ S.take p.length = p) = decide (S.take p.length = p) := by simp [h]
    rw [e] at hQ
    simp (maxSteps := 1000000) (disch := (first | omega | (simp only [lnA, List.length_map, List.length_range, true_and, and_true]; (try omega); done) | fail)) only [go_sem, List.drop_zero, Int.reduceEq, Int.reduceToNat, Nat.reduceAdd, Nat.reduceMul, Nat.reduceEqDiff, ↓reduceIte]
    exact endW [] hQ
  · rw [decide_eq_false (fun e => h e.1)] at hQ
    refine runW ?_
    exact endW [] hQ
theorem hasPrefix_fn {S p : List UInt8} (hS : S.length ≤ 9223372036854775807) (hp : p.length ≤ 9223372036854775807) : Fn1 Tryz.prog 134 [.lit (.string (bs S)), .lit (.string (bs p))] [] (.lit (.bool (decide (p.length ≤ S.length ∧ S.take p.length = p)))) [] := by
  refine fn1N_of pl134 (by kernel_rfl) Tryz.call134 Tryz.func134 rfl (by kernel_rfl) rfl [.tmp 4] (by kernel_rfl) fun Q hQ => ?_
  refine runW ?_
  refine callV0 (slHasPrefix_fn hS hp) rfl rfl ?_
  refine runW ?_
  exact endW [] hQ
theorem hasPrefixB_fn {S p : List UInt8} {b : Bool} (hS : decide (S.length ≤ 9223372036854775807) = true) (hp : decide (p.length ≤ 9223372036854775807) = true) (hb : decide (p.length ≤ S.length ∧ S.take p.length = p) = b) : Fn1 Tryz.prog 134 [.lit (.string (bs S)), .lit (.string (bs p))] [] (.lit (.bool b)) [] := by
  rw [← hb]
  exact hasPrefix_fn (of_decide_eq_true hS) (of_decide_eq_true hp)
theorem bmul_fn {x y : Nat} (hx : x < 18446744073709551616) (hy : y < 18446744073709551616) : Fn1 Tryz.prog 133 [.lit (.int .u64 (x : Int)), .lit (.int .u64 (y : Int))] [] (.tup [.lit (.int .u64 ((x * y / 18446744073709551616 : Nat) : Int)), .lit (.int .u64 ((x * y % 18446744073709551616 : Nat) : Int))]) [] := by
  refine fn1N_of pl133 (by kernel_rfl) Tryz.call133 Tryz.func133 rfl (by kernel_rfl) rfl [.tmp 4, .tmp 5] (by kernel_rfl) fun Q hQ => ?_
  refine runW ?_
  refine callV0 (mul64_fn (x := x) (y := y) hx hy) rfl rfl ?_
  refine runW ?_
  exact endW [] hQ
theorem repeat0_fn {c : Nat} (hc : c ≤ 64) : Fn1 Tryz.prog 84 [.lit (.string (bs [48])), .lit (.int .i64 (c : Int))] [] (.lit (.string (bs (List.replicate c 48)))) [] := by
  refine fn1N_of pl84 (by kernel_rfl) Tryz.call84 Tryz.func84 rfl (by kernel_rfl) rfl [.tmp 4] (by kernel_rfl) fun Q hQ => ?_
  by_cases h0 : c = 0
  · subst h0
    refine runW ?_
    exact endW [] hQ
  · by_cases h1 : c = 1
    · subst h1
      refine runW ?_
      exact endW [] hQ
    · have hm := bmul_fn (x := 1) (y := c) (by decide) (by omega)
      rw [Nat.one_mul, Nat.div_eq_of_lt (by omega), Nat.mod_eq_of_lt (by omega)] at hm
      refine runW ?_
      have hg : ((([48] : List UInt8).getD 0 0).toNat : Int) = 48 := rfl
      refine callV0 (hm) rfl rfl ?_
      simp (maxSteps := 1000000) (disch := (first | omega | (simp only [lnA, List.length_map, List.length_range, true_and, and_true]; (try omega); done) | fail)) only [go_sem, hg, Int.reduceEq, Int.reduceToNat, Nat.reduceAdd, Nat.reduceMul, Nat.reduceEqDiff, ↓reduceIte]
      refine callV0 (hasPrefixB_fn (b := false) (by kernel_rfl) (by kernel_rfl) (by kernel_rfl)) rfl rfl ?_
      refine runW ?_
      refine callV0 (hasPrefixB_fn (b := false) (by kernel_rfl) (by kernel_rfl) (by kernel_rfl)) rfl rfl ?_
      refine runW ?_
      refine callV0 (hasPrefixB_fn (b := true) (by kernel_rfl) (by kernel_rfl) (by kernel_rfl)) rfl rfl ?_
      refine runW ?_
      have hend : EndV 0 Q (.lit (.string (bs (List.replicate c 48)))) [] := by exact endW [] hQ
      refine cast (congrArg (fun l => EndV 0 Q (.lit (.string (bs l))) []) ?_) hend
      show List.replicate c 48 = List.take c (List.replicate 64 48)
      rw [List.take_replicate, Nat.min_eq_left hc]
end Go.Proofs.YtdmdmdoeahhkiaaGreatDoor
