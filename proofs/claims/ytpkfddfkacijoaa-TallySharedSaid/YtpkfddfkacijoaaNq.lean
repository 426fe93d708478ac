import Derived.Test.YtpkfddfkacijoaaFb
import Derived.Test.YtpkfddfkacijoaaD3
namespace Go.Proofs.Ytpkfddfkacijoaa
open Go.Eng Go.Vx
set_option linter.unusedSimpArgs false
set_option linter.unusedVariables false
set_option maxRecDepth 100000
theorem shl_fn {v N : Nat} (hN : N ≤ 8192) (hv : (wg v).length ≤ 1000000) : Fn1 Try.prog 74 [NV v, .lit (.int .i64 (N : Int))] [] (.tup [NV (v * 2 ^ N), .lit (.int .i64 0)]) [] := by
  refine fn1N_of pl74 (by kernel_rfl) Try.call74 Try.func74 rfl (by kernel_rfl) rfl [.cell 4 26, .tmp 5] (by kernel_rfl) fun Q hQ => ?_
  have hnl := nl_len (wg v)
  have hq : (N : Int) / 64 = ((N / 64 : Nat) : Int) := by omega
  have hs : (N : Int) % 64 = ((N % 64 : Nat) : Int) := by omega
  have hm := moved_fn (W := wg v) (s := N % 64) (wg_lt v) (by omega) (by omega)
  rw [wg_val] at hm
  have hF := fw_len (B := 18446744073709551616) ((wg v).length + 1) (v * 2 ^ (N % 64))
  have hFl := fw_lt (B := 18446744073709551616) (by decide) ((wg v).length + 1) (v * 2 ^ (N % 64))
  have hFv : valB 18446744073709551616 (fw 18446744073709551616 ((wg v).length + 1) (v * 2 ^ (N % 64))) = v * 2 ^ (N % 64) := by
    rw [fw_val (by decide), Nat.mod_eq_of_lt]
    have h1 : v < 18446744073709551616 ^ (wg v).length := dgB_lt_pow (B := 18446744073709551616) (by decide) v
    have h2 : 2 ^ (N % 64) ≤ 18446744073709551616 := by
      rw [show (18446744073709551616 : Nat) = 2 ^ 64 from rfl]
      exact Nat.pow_le_pow_right (by decide) (by omega)
    rw [Nat.pow_succ]
    exact Nat.lt_of_lt_of_le (Nat.mul_lt_mul_of_pos_right h1 (Nat.pow_pos (by decide))) (Nat.mul_le_mul_left _ h2)
  have hval : valB 18446744073709551616 (List.replicate (N / 64) 0 ++ fw 18446744073709551616 ((wg v).length + 1) (v * 2 ^ (N % 64))) = v * 2 ^ N := by
    rw [valB_app, valB_rep, List.length_replicate, Nat.zero_add, hFv, show (18446744073709551616 : Nat) = 2 ^ 64 from rfl, ← Nat.pow_mul, Nat.mul_left_comm, ← Nat.pow_add, Nat.div_add_mod]
  have hall : ∀ d ∈ List.replicate (N / 64) 0 ++ fw 18446744073709551616 ((wg v).length + 1) (v * 2 ^ (N % 64)), d < 18446744073709551616 := fun d hd => by
    rcases List.mem_append.1 hd with h | h
    · rw [List.eq_of_mem_replicate h]; decide
    · exact hFl d h
  have hlen : (List.replicate (N / 64) 0 ++ fw 18446744073709551616 ((wg v).length + 1) (v * 2 ^ (N % 64))).length ≤ 4000000 := by
    rw [List.length_append, List.length_replicate, hF]; omega
  have hsplit : nl (List.replicate (N / 64) 0 ++ fw 18446744073709551616 ((wg v).length + 1) (v * 2 ^ (N % 64))) = nl (List.replicate (N / 64) 0) ++ nl (fw 18446744073709551616 ((wg v).length + 1) (v * 2 ^ (N % 64))) := by unfold nl; rw [List.map_append]
  have hrep := nl_rep (N / 64)
  generalize fw 18446744073709551616 ((wg v).length + 1) (v * 2 ^ (N % 64)) = F at *
  clear hFv
  generalize N / 64 = q at *
  generalize N % 64 = s at *
  have hnF := nl_len F
  rw [← hF] at hm
  simp (maxSteps := 1000000) (disch := (first | omega | (simp only [lnA, List.length_map, List.length_range, true_and, and_true]; (try omega); done) | fail)) only [go_sem, hq, hs, Int.reduceEq, Int.reduceToNat, Nat.reduceAdd, Nat.reduceMul, Nat.reduceEqDiff, ↓reduceIte]
  refine callF (hm) ?_
  have htk : List.take F.length (nl F) = nl F := List.take_of_length_le (by omega)
  have happ : List.map (ie .u64) (List.replicate q 0 ++ nl F) = List.map (ie .u64) (nl (List.replicate q 0 ++ F)) := by
    rw [hsplit, hrep]
  have hll : q + (nl F).length = (List.replicate q 0 ++ F).length := by rw [List.length_append, List.length_replicate, hnF]
  simp (maxSteps := 1000000) (disch := (first | omega | (simp only [lnA, List.length_map, List.length_range, true_and, and_true]; (try omega); done) | fail)) only [go_sem, hq, hs, htk, happ, hll, Int.reduceEq, Int.reduceToNat, Nat.reduceAdd, Nat.reduceMul, Nat.reduceEqDiff, ↓reduceIte]
  have hnl4 := nl_len (List.replicate q 0 ++ F)
  refine callW [] [4] (trimmed_fn (l := List.replicate q 0 ++ F) hall hlen) ?_
  rw [hval]
  refine runW ?_
  exact endW [] hQ
end Go.Proofs.Ytpkfddfkacijoaa
