import Derived.Test.YtfemchdaoihogaaDc
/-! A digit of a quotient, of the highest words: plain facts. -/
namespace Go.Proofs.Ytfemchdaoihogaa
open Go.Eng
set_option linter.unusedSimpArgs false
set_option linter.unusedVariables false
theorem guess_ge {U D P : Nat} (hP : 0 < P) (h : 0 < D / P) : U / D ≤ U / P / (D / P) := by
  rw [Nat.le_div_iff_mul_le h, Nat.le_div_iff_mul_le hP]
  have h1 := Nat.div_mul_le_self D P
  have h2 := Nat.div_mul_le_self U D
  have h3 := Nat.mul_le_mul_left (U / D) h1
  rw [← Nat.mul_assoc] at h3
  exact Nat.le_trans h3 h2
/-- The two highest of n + 1 words, and the highest of n. -/
theorem tops {B n U D : Nat} (hB : 0 < B) (hn : 0 < n) (hU : U < B ^ (n + 1)) (hD : D < B ^ n) :
    U / B ^ n % B = U / B ^ n ∧ D / B ^ (n - 1) % B = D / B ^ (n - 1) ∧ U / B ^ n * B + U / B ^ (n - 1) % B = U / B ^ (n - 1) := by
  obtain ⟨m, rfl⟩ : ∃ m, n = m + 1 := ⟨n - 1, by omega⟩
  rw [Nat.add_sub_cancel]
  refine ⟨?_, ?_, ?_⟩
  · refine Nat.mod_eq_of_lt ?_
    rw [Nat.div_lt_iff_lt_mul (Nat.pow_pos hB), Nat.mul_comm, ← Nat.pow_succ]
    exact hU
  · refine Nat.mod_eq_of_lt ?_
    rw [Nat.div_lt_iff_lt_mul (Nat.pow_pos hB), Nat.mul_comm, ← Nat.pow_succ]
    exact hD
  · rw [show U / B ^ (m + 1) = U / B ^ m / B by rw [Nat.pow_succ, Nat.div_div_eq_div_mul], Nat.mul_comm, Nat.div_add_mod]
/-- A step back: what stands there, V, is U less g times D, and B to the n + 1 more. -/
theorem back_last {U D Q X V g : Nat} (hQ : Q = U / D) (h : V + g * D = U + X) (hg : g = Q + 1) : V + D = U % D + X := by
  have := Nat.div_add_mod U D
  subst hg
  rw [Nat.add_mul, Nat.one_mul] at h
  rw [← hQ, Nat.mul_comm] at this
  omega
theorem back_more {U D X V g : Nat} (hD : 0 < D) (hQ : U / D + 1 < g) (h : V + g * D = U + X) : V + D < X ∧ (V + D) + (g - 1) * D = U + X := by
  obtain ⟨k, rfl⟩ : ∃ k, g = k + 1 := ⟨g - 1, by have := Nat.zero_le (U / D); omega⟩
  rw [Nat.add_sub_cancel]
  rw [Nat.add_mul, Nat.one_mul] at h
  have h1 : U < k * D := by
    rw [← Nat.div_lt_iff_lt_mul hD]
    omega
  exact ⟨by omega, by omega⟩
/-- The highest word of what is still too little isn't 0. -/
theorem back_top {B n U D V g : Nat} (hB : 0 < B) (hD : D < B ^ n) (hg : g < B) (h : V + g * D = U + B ^ (n + 1)) : B ^ n ≤ V := by
  have h1 : g * D ≤ (B - 1) * B ^ n := Nat.mul_le_mul (by omega) (Nat.le_of_lt hD)
  have h2 : B ^ (n + 1) = (B - 1) * B ^ n + B ^ n := by
    obtain ⟨k, rfl⟩ : ∃ k, B = k + 1 := ⟨B - 1, by omega⟩
    rw [Nat.add_sub_cancel, Nat.pow_succ, Nat.mul_comm, Nat.add_mul, Nat.one_mul]
  omega
end Go.Proofs.Ytfemchdaoihogaa
