import Derived.Test.YtnfmpphlkalbfaaGreatDoorYl
import Derived.Test.YtnfmpphlkalbfaaGreatDoorNe
import Derived.Test.YtnfmpphlkalbfaaGreatDoorD3
/-! Package nat: powers that fail; sizes of powers. -/
namespace Go.Proofs.YtnfmpphlkalbfaaGreatDoor
open Go.Eng Go.Vx
set_option linter.unusedSimpArgs false
set_option linter.unusedVariables false
set_option maxRecDepth 100000
theorem npowE_fn {a : Nat} {n : Int} (hn : n < 0) (ha : (wg a).length ≤ 4000000) : Fn1 Tryz.prog 45 [NV a, .lit (.int .i64 n)] [] (.tup [NV 0, .lit (.int .i64 2)]) [] := by
  rw [NV_zero]
  refine fn1N_of pl45 (by kernel_rfl) Tryz.call45 Tryz.func45 rfl (by kernel_rfl) rfl [.cell 4 27, .tmp 5] (by kernel_rfl) fun Q hQ => ?_
  simp (maxSteps := 1000000) (disch := (first | omega | (simp only [lnA, List.length_map, List.length_range, true_and, and_true]; (try omega); done) | fail)) only [go_sem, Int.reduceEq, Int.reduceToNat, Nat.reduceAdd, Nat.reduceMul, Nat.reduceEqDiff, ↓reduceIte]
  exact endW [] hQ
theorem npowS_fn {a n : Nat} (hb : 1 < bl a) (ha : bl a ≤ 8192) (hn : n < 9223372036854775808) (h : 8192 / bl a < n) : Fn1 Tryz.prog 45 [NV a, .lit (.int .i64 (n : Int))] [] (.tup [NV 0, .lit (.int .i64 3)]) [] := by
  have wa : (wg a).length ≤ 128 := wg_bl (by omega)
  rw [NV_zero]
  refine fn1N_of pl45 (by kernel_rfl) Tryz.call45 Tryz.func45 rfl (by kernel_rfl) rfl [.cell 4 27, .tmp 5] (by kernel_rfl) fun Q hQ => ?_
  have hdd : (8192 : Int) / (bl a : Int) = ((8192 / bl a : Nat) : Int) := by simp
  generalize 8192 / bl a = g at *
  simp (maxSteps := 1000000) (disch := (first | omega | (simp only [lnA, List.length_map, List.length_range, true_and, and_true]; (try omega); done) | fail)) only [go_sem, Int.reduceEq, Int.reduceToNat, Nat.reduceAdd, Nat.reduceMul, Nat.reduceEqDiff, ↓reduceIte]
  refine callV0 (bits_fn (n := a) (by omega)) rfl rfl ?_
  simp (maxSteps := 1000000) (disch := (first | omega | (simp only [lnA, List.length_map, List.length_range, true_and, and_true]; (try omega); done) | fail)) only [go_sem, Int.reduceEq, Int.reduceToNat, Nat.reduceAdd, Nat.reduceMul, Nat.reduceEqDiff, ↓reduceIte]
  refine callV0 (bits_fn (n := a) (by omega)) rfl rfl ?_
  simp (maxSteps := 1000000) (disch := (first | omega | (simp only [lnA, List.length_map, List.length_range, true_and, and_true]; (try omega); done) | fail)) only [go_sem, hdd, Int.reduceEq, Int.reduceToNat, Nat.reduceAdd, Nat.reduceMul, Nat.reduceEqDiff, ↓reduceIte]
  exact endW [] hQ
theorem pow_min {a : Nat} (h : bl a ≤ 1) (n : Nat) : a ^ n = a ^ min n 1 := by
  have h2 := bl_lt a
  have h3 : 2 ^ bl a ≤ 2 ^ 1 := Nat.pow_le_pow_right (by decide) h
  have h4 : a = 0 ∨ a = 1 := by omega
  rcases h4 with rfl | rfl
  · rcases Nat.eq_zero_or_pos n with rfl | hp
    · rfl
    · rw [Nat.zero_pow hp, Nat.min_eq_right (by omega)]
  · rw [Nat.one_pow, Nat.one_pow]
theorem pow_bl7 {a n K i : Nat} (h : n * bl a ≤ K) (hi : i ≤ n) : bl (a ^ i) ≤ K + 1 := by
  refine Nat.le_trans (pow_bl_le a i) ?_
  have h6 := Nat.mul_le_mul_left (bl a) hi
  rw [Nat.mul_comm (bl a) n] at h6
  omega
end Go.Proofs.YtnfmpphlkalbfaaGreatDoor

/-! Package nat: moved up. -/
namespace Go.Proofs.YtnfmpphlkalbfaaGreatDoor
open Go.Eng Go.Vx
set_option linter.unusedSimpArgs false
set_option linter.unusedVariables false
set_option maxRecDepth 100000
theorem shl_fn {v N : Nat} (hN : N ≤ 8192) (hv : (wg v).length ≤ 1000000) : Fn1 Tryz.prog 50 [NV v, .lit (.int .i64 (N : Int))] [] (.tup [NV (v * 2 ^ N), .lit (.int .i64 0)]) [] := by
  refine fn1N_of pl50 (by kernel_rfl) Tryz.call50 Tryz.func50 rfl (by kernel_rfl) rfl [.cell 4 27, .tmp 5] (by kernel_rfl) fun Q hQ => ?_
  have hnl := nl_len (wg v)
  have hq : (N : Int) / 64 = ((N / 64 : Nat) : Int) := by omega
  have hs : (N : Int) % 64 = ((N % 64 : Nat) : Int) := by omega
  have hm := moved_fn (W := wg v) (s := N % 64) (wg_lt v) (by omega) (by omega)
  rw [wg_val] at hm
  have hF := fw_len (B := 18446744073709551616) ((wg v).length + 1) (v * 2 ^ (N % 64))
  have hFl := fw_lt (B := 18446744073709551616) (by decide) ((wg v).length + 1) (v * 2 ^ (N % 64))
  have hFv : valB 18446744073709551616 (fw 18446744073709551616 ((wg v).length + 1) (v * 2 ^ (N % 64))) = v * 2 ^ (N % 64) := by
    rw [fw_val (by decide), Nat.mod_eq_of_lt]
    have h1 : v < 18446744073709551616 ^ (wg v).length := dgB_lt_pow (B := 18446744073709551616) (by decide) v
    have h2 : 2 ^ (N % 64) ≤ 18446744073709551616 := by
      rw [show (18446744073709551616 : Nat) = 2 ^ 64 from rfl]
      exact Nat.pow_le_pow_right (by decide) (by omega)
    rw [Nat.pow_succ]
    exact Nat.lt_of_lt_of_le (Nat.mul_lt_mul_of_pos_right h1 (Nat.pow_pos (by decide))) (Nat.mul_le_mul_left _ h2)
  have hval : valB 18446744073709551616 (List.replicate (N / 64) 0 ++ fw 18446744073709551616 ((wg v).length + 1) (v * 2 ^ (N % 64))) = v * 2 ^ N := by
    rw [valB_app, valB_rep, List.length_replicate, Nat.zero_add, hFv, show (18446744073709551616 : Nat) = 2 ^ 64 from rfl, ← Nat.pow_mul, Nat.mul_left_comm, ← Nat.pow_add, Nat.div_add_mod]
  have hall : ∀ d ∈ List.replicate (N / 64) 0 ++ fw 18446744073709551616 ((wg v).length + 1) (v * 2 ^ (N % 64)), d < 18446744073709551616 := fun d hd => by
    rcases List.mem_append.1 hd with h | h
    · rw [List.eq_of_mem_replicate h]; decide
    · exact hFl d h
  have hlen : (List.replicate (N / 64) 0 ++ fw 18446744073709551616 ((wg v).length + 1) (v * 2 ^ (N % 64))).length ≤ 4000000 := by
    rw [List.length_append, List.length_replicate, hF]; omega
  have hsplit : nl (List.replicate (N / 64) 0 ++ fw 18446744073709551616 ((wg v).length + 1) (v * 2 ^ (N % 64))) = nl (List.replicate (N / 64) 0) ++ nl (fw 18446744073709551616 ((wg v).length + 1) (v * 2 ^ (N % 64))) := by unfold nl; rw [List.map_append]
  have hrep := nl_rep (N / 64)
  generalize fw 18446744073709551616 ((wg v).length + 1) (v * 2 ^ (N % 64)) = F at *
  clear hFv
  generalize N / 64 = q at *
  generalize N % 64 = s at *
  have hnF := nl_len F
  rw [← hF] at hm
  simp (maxSteps := 1000000) (disch := (first | omega | (simp only [lnA, List.length_map, List.length_range, true_and, and_true]; (try omega); done) | fail)) only [go_sem, hq, hs, Int.reduceEq, Int.reduceToNat, Nat.reduceAdd, Nat.reduceMul, Nat.reduceEqDiff, ↓reduceIte]
  refine callF (hm) ?_
  have htk : List.take F.length (nl F) = nl F := List.take_of_length_le (by omega)
  have happ : List.map (ie .u64) (List.replicate q 0 ++ nl F) = List.map (ie .u64) (nl (List.replicate q 0 ++ F)) := by
    rw [hsplit, hrep]
  have hll : q + (nl F).length = (List.replicate q 0 ++ F).length := by rw [List.length_append, List.length_replicate, hnF]
  simp (maxSteps := 1000000) (disch := (first | omega | (simp only [lnA, List.length_map, List.length_range, true_and, and_true]; (try omega); done) | fail)) only [go_sem, hq, hs, htk, happ, hll, Int.reduceEq, Int.reduceToNat, Nat.reduceAdd, Nat.reduceMul, Nat.reduceEqDiff, ↓reduceIte]
  have hnl4 := nl_len (List.replicate q 0 ++ F)
  refine callW [] [4] (trimmed_fn (l := List.replicate q 0 ++ F) hall hlen) ?_
  rw [hval]
  simp (maxSteps := 1000000) (disch := (first | omega | (simp only [lnA, List.length_map, List.length_range, true_and, and_true]; (try omega); done) | fail)) only [go_sem, Int.reduceEq, Int.reduceToNat, Nat.reduceAdd, Nat.reduceMul, Nat.reduceEqDiff, ↓reduceIte]
  exact endW [] hQ
end Go.Proofs.YtnfmpphlkalbfaaGreatDoor
