import Derived.Test.YtdmdmdoeahhkiaaDoorYb
import Derived.Test.YtdmdmdoeahhkiaaDoorE7
namespace Go.Proofs.YtdmdmdoeahhkiaaDoor
open Go.Eng
set_option linter.unusedSimpArgs false
set_option linter.unusedVariables false
theorem log_ok : ∀ b : Fin 65, 1 ≤ b.val → 2 ^ b.val ≤ 10 ^ (b.val * 78913 / 262144 + 1) ∧ (b.val * 78913 / 262144 = 0 ∨ 10 ^ (b.val * 78913 / 262144 - 1) ≤ 2 ^ (b.val - 1)) ∧ b.val * 78913 / 262144 < 20 := by decide +kernel
theorem nd10_log {d : Nat} (h0 : d ≠ 0) (h : d < 18446744073709551616) : nd10 d = bl d * 78913 / 262144 + (if 10 ^ (bl d * 78913 / 262144) ≤ d then 1 else 0) ∧ bl d * 78913 / 262144 < 20 := by
  have h1 := bl_lt d
  have h2 := bl_le (n := d) h0
  have h3 := bl_le_of (n := d) (k := 64) (by omega)
  have h4 : 1 ≤ bl d := by
    rcases Nat.eq_zero_or_pos (bl d) with e | e
    · rw [e] at h1; simp at h1; omega
    · exact e
  obtain ⟨k1, k2, k3⟩ := log_ok ⟨bl d, by omega⟩ h4
  simp only at k1 k2 k3
  refine ⟨?_, k3⟩
  generalize bl d * 78913 / 262144 = k at *
  by_cases hc : 10 ^ k ≤ d
  · rw [if_pos hc]
    exact nd10_eq (by omega) (Nat.lt_of_lt_of_le h1 k1) (.inl (by rw [Nat.add_sub_cancel]; exact hc))
  · rw [if_neg hc, Nat.add_zero]
    have hk : k ≠ 0 := fun e => by subst e; simp at hc; omega
    exact nd10_eq (by omega) (by omega) (.inl (Nat.le_trans (k2.resolve_left hk) h2))
end Go.Proofs.YtdmdmdoeahhkiaaDoor
