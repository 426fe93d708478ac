import Derived.Test.YtdmdmdoeahhkiaaGreatDoorZ4
import Derived.Test.YtdmdmdoeahhkiaaGreatDoorE6
import Derived.Test.YtdmdmdoeahhkiaaGreatDoorRc
import Derived.Test.YtdmdmdoeahhkiaaGreatDoorD3
import Derived.Test.YtdmdmdoeahhkiaaGreatDoorN1
import Derived.Test.YtdmdmdoeahhkiaaGreatDoorFb
import Derived.Test.YtdmdmdoeahhkiaaGreatDoorE7
import Derived.Test.YtdmdmdoeahhkiaaGreatDoorNi
namespace Go.Proofs.YtdmdmdoeahhkiaaGreatDoor
open Go.Eng Go.Vx
set_option linter.unusedSimpArgs false
set_option linter.unusedVariables false
set_option maxRecDepth 100000
theorem num_nonnegR {A B : Nat} (hB : B ≠ 0) : ¬ (((A : Int) : Rat) / ((B : Int) : Rat)).num < 0 := by
  have h := frac_eq (p := (A : Int)) (q := (B : Int)) (by omega)
  rw [decide_eq_false (show ¬ (A : Int) < 0 by omega), decide_eq_false (show ¬ (B : Int) < 0 by omega)] at h
  rw [← h]
  exact mk_nonneg hB
theorem RS_one {a : Int} (h0 : -9223372036854775808 ≤ a) (h1 : a ≤ 9223372036854775807) : RS 1 (a : Rat) := RS_int (wg_int h0 h1) (by decide)
end Go.Proofs.YtdmdmdoeahhkiaaGreatDoor

namespace Go.Proofs.YtdmdmdoeahhkiaaGreatDoor
open Go.Eng Go.Vx
set_option linter.unusedSimpArgs false
set_option linter.unusedVariables false
set_option maxRecDepth 100000
end Go.Proofs.YtdmdmdoeahhkiaaGreatDoor

namespace Go.Proofs.YtdmdmdoeahhkiaaGreatDoor
open Go.Eng Go.Vx
set_option linter.unusedSimpArgs false
set_option linter.unusedVariables false
set_option maxRecDepth 100000
theorem ws_nat {l : List Int} (h : ∀ x ∈ l, 0 ≤ x ∧ x ≤ 18446744073709551615) : ∃ W : List Nat, l = nl W ∧ ∀ d ∈ W, d < 18446744073709551616 := by
  refine ⟨l.map Int.toNat, ?_, fun d hd => ?_⟩
  · unfold nl
    rw [List.map_map]
    conv => lhs; rw [← List.map_id l]
    exact List.map_congr_left fun x hx => by have := h x hx; simp; omega
  · obtain ⟨x, hx, rfl⟩ := List.mem_map.1 hd
    have := h x hx
    omega
theorem cmpI_gt {a b : Nat} (h : b < a) : cmpI a b = 1 := by unfold cmpI; rw [if_neg (by omega), if_pos h]
end Go.Proofs.YtdmdmdoeahhkiaaGreatDoor

namespace Go.Proofs.YtdmdmdoeahhkiaaGreatDoor
open Go.Eng
set_option linter.unusedSimpArgs false
set_option linter.unusedVariables false
theorem log_ok : ∀ b : Fin 65, 1 ≤ b.val → 2 ^ b.val ≤ 10 ^ (b.val * 78913 / 262144 + 1) ∧ (b.val * 78913 / 262144 = 0 ∨ 10 ^ (b.val * 78913 / 262144 - 1) ≤ 2 ^ (b.val - 1)) ∧ b.val * 78913 / 262144 < 20 := by decide +kernel
theorem nd10_log {d : Nat} (h0 : d ≠ 0) (h : d < 18446744073709551616) : nd10 d = bl d * 78913 / 262144 + (if 10 ^ (bl d * 78913 / 262144) ≤ d then 1 else 0) ∧ bl d * 78913 / 262144 < 20 := by
  have h1 := bl_lt d
  have h2 := bl_le (n := d) h0
  have h3 := bl_le_of (n := d) (k := 64) (by omega)
  have h4 : 1 ≤ bl d := by
    rcases Nat.eq_zero_or_pos (bl d) with e | e
    · rw [e] at h1; simp at h1; omega
    · exact e
  obtain ⟨k1, k2, k3⟩ := log_ok ⟨bl d, by omega⟩ h4
  simp only at k1 k2 k3
  refine ⟨?_, k3⟩
  generalize bl d * 78913 / 262144 = k at *
  by_cases hc : 10 ^ k ≤ d
  · rw [if_pos hc]
    exact nd10_eq (by omega) (Nat.lt_of_lt_of_le h1 k1) (.inl (by rw [Nat.add_sub_cancel]; exact hc))
  · rw [if_neg hc, Nat.add_zero]
    have hk : k ≠ 0 := fun e => by subst e; simp at hc; omega
    exact nd10_eq (by omega) (by omega) (.inl (Nat.le_trans (k2.resolve_left hk) h2))
end Go.Proofs.YtdmdmdoeahhkiaaGreatDoor

namespace Go.Proofs.YtdmdmdoeahhkiaaGreatDoor
open Go.Eng Go.Vx
set_option linter.unusedSimpArgs false
set_option linter.unusedVariables false
set_option maxRecDepth 100000
theorem log10_fn {x : Nat} (hx : x ≤ 64) : Fn1 Tryz.prog 188 [.lit (.int .i64 (x : Int))] [] (.lit (.int .i64 ((x * 78913 / 262144 : Nat) : Int))) [] := by
  refine fn1N_of pl188 (by kernel_rfl) Tryz.call188 Tryz.func188 rfl (by kernel_rfl) rfl [.tmp 2] (by kernel_rfl) fun Q hQ => ?_
  refine runW ?_
  exact endW [] hQ
theorem bool2_fn {b : Bool} : Fn1 Tryz.prog 189 [.lit (.bool b)] [] (.lit (.int .i64 (if b then 1 else 0))) [] := by
  refine fn1N_of pl189 (by kernel_rfl) Tryz.call189 Tryz.func189 rfl (by kernel_rfl) rfl [.tmp 2] (by kernel_rfl) fun Q hQ => ?_
  cases b
  · refine runW ?_
    exact endW [] hQ
  · refine runW ?_
    exact endW [] hQ
theorem numDigits_fn {d : Nat} (h0 : d ≠ 0) (h : d < 18446744073709551616) : Fn1 Tryz.prog 168 [.lit (.int .u64 (d : Int))] [] (.lit (.int .i64 (nd10 d : Int))) [] := by
  refine fn1N_of pl168 (by kernel_rfl) Tryz.call168 Tryz.func168 rfl (by kernel_rfl) rfl [.tmp 2] (by kernel_rfl) fun Q hQ => ?_
  obtain ⟨h1, h2⟩ := nd10_log h0 h
  have hb := bl_le_of (n := d) (k := 64) (by omega)
  have hl := log10_fn hb
  rw [h1] at hQ
  generalize bl d * 78913 / 262144 = k at *
  have hidx := fun (F : Bool → V → Prop) => idxV_lay (P := Tryz.prog) (t := 256) (len := 20) (et := 108) (m := k) (kd := .i64) (F := F) (g := 2) (by kernel_rfl) h2
  have hag : agOf Tryz.prog 108 = some none := by kernel_rfl
  refine runW ?_
  refine callV0 (len64_fn h) rfl rfl ?_
  refine runW ?_
  refine callV0 (hl) rfl rfl ?_
  simp (maxSteps := 1000000) (disch := (first | omega | (simp only [lnA, List.length_map, List.length_range, true_and, and_true]; (try omega); done) | fail)) only [go_sem, hidx, ldV_of hag, layK_pow h2, Int.reduceEq, Int.reduceToNat, Nat.reduceAdd, Nat.reduceMul, Nat.reduceEqDiff, ↓reduceIte]
  by_cases hc : 10 ^ k ≤ d
  · rw [if_pos hc] at hQ
    have hd : decide (((10 ^ k : Nat) : Int) ≤ (d : Int)) = true := decide_eq_true (by omega)
    simp (maxSteps := 1000000) (disch := (first | omega | (simp only [lnA, List.length_map, List.length_range, true_and, and_true]; (try omega); done) | fail)) only [go_sem, hd, Int.reduceEq, Int.reduceToNat, Nat.reduceAdd, Nat.reduceMul, Nat.reduceEqDiff, ↓reduceIte]
    refine callV0 (bool2_fn (b := true)) rfl rfl ?_
    refine runW ?_
    exact endW [] hQ
  · rw [if_neg hc] at hQ
    have hd : decide (((10 ^ k : Nat) : Int) ≤ (d : Int)) = false := decide_eq_false (by omega)
    simp (maxSteps := 1000000) (disch := (first | omega | (simp only [lnA, List.length_map, List.length_range, true_and, and_true]; (try omega); done) | fail)) only [go_sem, hd, Int.reduceEq, Int.reduceToNat, Nat.reduceAdd, Nat.reduceMul, Nat.reduceEqDiff, ↓reduceIte]
    refine callV0 (bool2_fn (b := false)) rfl rfl ?_
    refine runW ?_
    exact endW [] hQ
end Go.Proofs.YtdmdmdoeahhkiaaGreatDoor
