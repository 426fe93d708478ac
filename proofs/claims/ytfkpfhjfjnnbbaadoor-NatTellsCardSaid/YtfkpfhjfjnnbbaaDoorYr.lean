import Derived.Test.YtfkpfhjfjnnbbaaDoorYo
import Derived.Test.YtfkpfhjfjnnbbaaDoorD3
import Derived.Test.YtfkpfhjfjnnbbaaDoorYq
/-! Package nat: moved up; bits. -/
namespace Go.Proofs.YtfkpfhjfjnnbbaaDoor
open Go.Eng Go.Vx
set_option linter.unusedSimpArgs false
set_option linter.unusedVariables false
set_option maxRecDepth 100000
theorem wg_getD (v i : Nat) : (wg v).getD i 0 = v / 18446744073709551616 ^ i % 18446744073709551616 := by
  by_cases h : i < (wg v).length
  · have h1 := wg_fw (B := 18446744073709551616) (n := v) (by decide)
    have h2 := fw_getD (B := 18446744073709551616) (k := (wg v).length) (i := i) v h
    unfold wg at *
    rw [h1] at h2
    exact h2
  · rw [getD_out (by omega), Nat.div_eq_of_lt (b := 18446744073709551616 ^ i) ?_]
    · exact Nat.lt_of_lt_of_le (dgB_lt_pow (B := 18446744073709551616) (by decide) v) (Nat.pow_le_pow_right (by decide) (by unfold wg at h; omega))
theorem bit_of {x s : Nat} (hs : s < 64) : x % 18446744073709551616 / 2 ^ s % 2 = x / 2 ^ s % 2 := by
  have e : (18446744073709551616 : Nat) = 2 ^ s * 2 ^ (64 - s) := by rw [← Nat.pow_add, show s + (64 - s) = 64 by omega]
  have e2 : 2 ^ (64 - s) = 2 * 2 ^ (63 - s) := by rw [show 64 - s = 63 - s + 1 by omega, Nat.pow_succ, Nat.mul_comm]
  rw [e, Nat.mod_mul_right_div_self, e2, Nat.mod_mul_right_mod]
theorem wg_bit (v I : Nat) : (wg v).getD (I / 64) 0 / 2 ^ (I % 64) % 2 = v / 2 ^ I % 2 := by
  rw [wg_getD, bit_of (by omega), Nat.div_div_eq_div_mul, show (18446744073709551616 : Nat) = 2 ^ 64 from rfl, ← Nat.pow_mul, ← Nat.pow_add, Nat.div_add_mod]
theorem nbitE_fn {v : Nat} {i : Int} (hi : i < 0) : Fn1 Tryd.prog 30 [NV v, .lit (.int .i64 i)] [] (.lit (.bool false)) [] := by
  refine fn1N_of pl30 (by kernel_rfl) Tryd.call30 Tryd.func30 rfl (by kernel_rfl) rfl [.tmp 4] (by kernel_rfl) fun Q hQ => ?_
  simp (maxSteps := 1000000) (disch := (first | omega | (simp only [lnA, List.length_map, List.length_range, true_and, and_true]; (try omega); done) | fail)) only [go_sem, Int.reduceEq, Int.reduceToNat, Nat.reduceAdd, Nat.reduceMul, Nat.reduceEqDiff, ↓reduceIte]
  exact endW [] hQ
theorem nbit_fn {v I : Nat} (hI : I < 9223372036854775808) (hv : (wg v).length ≤ 1000000) : Fn1 Tryd.prog 30 [NV v, .lit (.int .i64 (I : Int))] [] (.lit (.bool (decide (v / 2 ^ I % 2 = 1)))) [] := by
  refine fn1N_of pl30 (by kernel_rfl) Tryd.call30 Tryd.func30 rfl (by kernel_rfl) rfl [.tmp 4] (by kernel_rfl) fun Q hQ => ?_
  have hnl := nl_len (wg v)
  have hq : (I : Int) / 64 = ((I / 64 : Nat) : Int) := by omega
  have hr : (I : Int) % 64 = ((I % 64 : Nat) : Int) := by omega
  rw [← wg_bit] at hQ
  have hg := nl_get (wg v) (I / 64)
  have ho : (wg v).length ≤ I / 64 → (wg v).getD (I / 64) 0 = 0 := getD_out
  have hl := getD_ltB (by decide) (wg_lt v) (I / 64)
  obtain ⟨x, hx⟩ : ∃ x, (wg v).getD (I / 64) 0 = x := ⟨_, rfl⟩
  rw [hx] at hg ho hl hQ
  have hs : I % 64 < 64 := Nat.mod_lt _ (by decide)
  have hdv : (x : Int) / 2 ^ (I % 64) = ((x / 2 ^ (I % 64) : Nat) : Int) := div_nat x (I % 64)
  have hle : x / 2 ^ (I % 64) ≤ x := Nat.div_le_self _ _
  by_cases h : I / 64 < (wg v).length
  · obtain ⟨y, hy⟩ : ∃ y, x / 2 ^ (I % 64) = y := ⟨_, rfl⟩
    rw [hy] at hdv hQ hle
    generalize I / 64 = q at *
    generalize I % 64 = s at *
    by_cases hb : y % 2 = 1
    · rw [decide_eq_true hb] at hQ
      have hd : decide ((y : Int) % 2 = 1) = true := decide_eq_true (by omega)
      simp (maxSteps := 1000000) (disch := (first | omega | (simp only [lnA, List.length_map, List.length_range, true_and, and_true]; (try omega); done) | fail)) only [go_sem, hq, hr, hg, hdv, hd, Int.reduceEq, Int.reduceToNat, Nat.reduceAdd, Nat.reduceMul, Nat.reduceEqDiff, ↓reduceIte]
      exact endW [] hQ
    · rw [decide_eq_false hb] at hQ
      have hd : decide ((y : Int) % 2 = 1) = false := decide_eq_false (by omega)
      simp (maxSteps := 1000000) (disch := (first | omega | (simp only [lnA, List.length_map, List.length_range, true_and, and_true]; (try omega); done) | fail)) only [go_sem, hq, hr, hg, hdv, hd, Int.reduceEq, Int.reduceToNat, Nat.reduceAdd, Nat.reduceMul, Nat.reduceEqDiff, ↓reduceIte]
      exact endW [] hQ
  · have hz := ho (by omega)
    rw [hz, Nat.zero_div, decide_eq_false (by decide)] at hQ
    generalize I / 64 = q at *
    generalize I % 64 = s at *
    simp (maxSteps := 1000000) (disch := (first | omega | (simp only [lnA, List.length_map, List.length_range, true_and, and_true]; (try omega); done) | fail)) only [go_sem, hq, hr, Int.reduceEq, Int.reduceToNat, Nat.reduceAdd, Nat.reduceMul, Nat.reduceEqDiff, ↓reduceIte]
    exact endW [] hQ
theorem shlE_fn {v : Nat} {n : Int} (hn : n < 0 ∨ 8192 < n) : Fn1 Tryd.prog 27 [NV v, .lit (.int .i64 n)] [] (.tup [NV 0, .lit (.int .i64 2)]) [] := by
  rw [NV_zero]
  refine fn1N_of pl27 (by kernel_rfl) Tryd.call27 Tryd.func27 rfl (by kernel_rfl) rfl [.cell 4 26, .tmp 5] (by kernel_rfl) fun Q hQ => ?_
  rcases hn with hn | hn
  · simp (maxSteps := 1000000) (disch := (first | omega | (simp only [lnA, List.length_map, List.length_range, true_and, and_true]; (try omega); done) | fail)) only [go_sem, Int.reduceEq, Int.reduceToNat, Nat.reduceAdd, Nat.reduceMul, Nat.reduceEqDiff, ↓reduceIte]
    exact endW [] hQ
  · simp (maxSteps := 1000000) (disch := (first | omega | (simp only [lnA, List.length_map, List.length_range, true_and, and_true]; (try omega); done) | fail)) only [go_sem, Int.reduceEq, Int.reduceToNat, Nat.reduceAdd, Nat.reduceMul, Nat.reduceEqDiff, ↓reduceIte]
    exact endW [] hQ
theorem shl_fn {v N : Nat} (hN : N ≤ 8192) (hv : (wg v).length ≤ 1000000) : Fn1 Tryd.prog 27 [NV v, .lit (.int .i64 (N : Int))] [] (.tup [NV (v * 2 ^ N), .lit (.int .i64 0)]) [] := by
  refine fn1N_of pl27 (by kernel_rfl) Tryd.call27 Tryd.func27 rfl (by kernel_rfl) rfl [.cell 4 26, .tmp 5] (by kernel_rfl) fun Q hQ => ?_
  have hnl := nl_len (wg v)
  have hq : (N : Int) / 64 = ((N / 64 : Nat) : Int) := by omega
  have hs : (N : Int) % 64 = ((N % 64 : Nat) : Int) := by omega
  have hm := moved_fn (W := wg v) (s := N % 64) (wg_lt v) (by omega) (by omega)
  rw [wg_val] at hm
  have hF := fw_len (B := 18446744073709551616) ((wg v).length + 1) (v * 2 ^ (N % 64))
  have hFl := fw_lt (B := 18446744073709551616) (by decide) ((wg v).length + 1) (v * 2 ^ (N % 64))
  have hFv : valB 18446744073709551616 (fw 18446744073709551616 ((wg v).length + 1) (v * 2 ^ (N % 64))) = v * 2 ^ (N % 64) := by
    rw [fw_val (by decide), Nat.mod_eq_of_lt]
    have h1 : v < 18446744073709551616 ^ (wg v).length := dgB_lt_pow (B := 18446744073709551616) (by decide) v
    have h2 : 2 ^ (N % 64) ≤ 18446744073709551616 := by
      rw [show (18446744073709551616 : Nat) = 2 ^ 64 from rfl]
      exact Nat.pow_le_pow_right (by decide) (by omega)
    rw [Nat.pow_succ]
    exact Nat.lt_of_lt_of_le (Nat.mul_lt_mul_of_pos_right h1 (Nat.pow_pos (by decide))) (Nat.mul_le_mul_left _ h2)
  have hval : valB 18446744073709551616 (List.replicate (N / 64) 0 ++ fw 18446744073709551616 ((wg v).length + 1) (v * 2 ^ (N % 64))) = v * 2 ^ N := by
    rw [valB_app, valB_rep, List.length_replicate, Nat.zero_add, hFv, show (18446744073709551616 : Nat) = 2 ^ 64 from rfl, ← Nat.pow_mul, Nat.mul_left_comm, ← Nat.pow_add, Nat.div_add_mod]
  have hall : ∀ d ∈ List.replicate (N / 64) 0 ++ fw 18446744073709551616 ((wg v).length + 1) (v * 2 ^ (N % 64)), d < 18446744073709551616 := fun d hd => by
    rcases List.mem_append.1 hd with h | h
    · rw [List.eq_of_mem_replicate h]; decide
    · exact hFl d h
  have hlen : (List.replicate (N / 64) 0 ++ fw 18446744073709551616 ((wg v).length + 1) (v * 2 ^ (N % 64))).length ≤ 4000000 := by
    rw [List.length_append, List.length_replicate, hF]; omega
  have hsplit : nl (List.replicate (N / 64) 0 ++ fw 18446744073709551616 ((wg v).length + 1) (v * 2 ^ (N % 64))) = nl (List.replicate (N / 64) 0) ++ nl (fw 18446744073709551616 ((wg v).length + 1) (v * 2 ^ (N % 64))) := by unfold nl; rw [List.map_append]
  have hrep := nl_rep (N / 64)
  generalize fw 18446744073709551616 ((wg v).length + 1) (v * 2 ^ (N % 64)) = F at *
  clear hFv
  generalize N / 64 = q at *
  generalize N % 64 = s at *
  have hnF := nl_len F
  rw [← hF] at hm
  simp (maxSteps := 1000000) (disch := (first | omega | (simp only [lnA, List.length_map, List.length_range, true_and, and_true]; (try omega); done) | fail)) only [go_sem, hq, hs, Int.reduceEq, Int.reduceToNat, Nat.reduceAdd, Nat.reduceMul, Nat.reduceEqDiff, ↓reduceIte]
  refine callF (hm) ?_
  have htk : List.take F.length (nl F) = nl F := List.take_of_length_le (by omega)
  have happ : List.map (ie .u64) (List.replicate q 0 ++ nl F) = List.map (ie .u64) (nl (List.replicate q 0 ++ F)) := by
    rw [hsplit, hrep]
  have hll : q + (nl F).length = (List.replicate q 0 ++ F).length := by rw [List.length_append, List.length_replicate, hnF]
  simp (maxSteps := 1000000) (disch := (first | omega | (simp only [lnA, List.length_map, List.length_range, true_and, and_true]; (try omega); done) | fail)) only [go_sem, hq, hs, htk, happ, hll, Int.reduceEq, Int.reduceToNat, Nat.reduceAdd, Nat.reduceMul, Nat.reduceEqDiff, ↓reduceIte]
  have hnl4 := nl_len (List.replicate q 0 ++ F)
  refine callW [] [4] (trimmed_fn (l := List.replicate q 0 ++ F) hall hlen) ?_
  rw [hval]
  simp (maxSteps := 1000000) (disch := (first | omega | (simp only [lnA, List.length_map, List.length_range, true_and, and_true]; (try omega); done) | fail)) only [go_sem, Int.reduceEq, Int.reduceToNat, Nat.reduceAdd, Nat.reduceMul, Nat.reduceEqDiff, ↓reduceIte]
  exact endW [] hQ
end Go.Proofs.YtfkpfhjfjnnbbaaDoor
