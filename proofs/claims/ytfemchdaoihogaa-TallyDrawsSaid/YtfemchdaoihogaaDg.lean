import Derived.Test.YtfemchdaoihogaaDc
/-! Long division, digit by digit: plain facts. -/
namespace Go.Proofs.Ytfemchdaoihogaa
open Go.Eng
set_option linter.unusedSimpArgs false
set_option linter.unusedVariables false
/-- What is left when the k lowest digits are to come. -/
def longV (B A D k : Nat) : Nat := A / B ^ k % D * B ^ k + A % B ^ k
theorem long_div {B A D i : Nat} (hB : 0 < B) : longV B A D (i + 1) / B ^ i = A / B ^ (i + 1) % D * B + A / B ^ i % B := by
  unfold longV
  have hP : 0 < B ^ i := Nat.pow_pos hB
  have e : A % B ^ (i + 1) = A % B ^ i + B ^ i * (A / B ^ i % B) := Nat.mod_pow_succ
  rw [e, Nat.pow_succ]
  generalize A / (B ^ i * B) % D = r
  have hm := Nat.mod_lt A hP
  generalize A % B ^ i = x at *
  generalize A / B ^ i % B = y at *
  have e2 : r * (B ^ i * B) + (x + B ^ i * y) = x + B ^ i * (r * B + y) := by
    rw [Nat.mul_left_comm r, Nat.mul_add, Nat.add_left_comm]
  rw [e2, Nat.add_mul_div_left _ _ hP, Nat.div_eq_of_lt hm, Nat.zero_add]
theorem long_mod {B A D i : Nat} (hB : 0 < B) : longV B A D (i + 1) % B ^ i = A % B ^ i := by
  unfold longV
  have e : A % B ^ (i + 1) = A % B ^ i + B ^ i * (A / B ^ i % B) := Nat.mod_pow_succ
  rw [e, Nat.pow_succ]
  generalize A / (B ^ i * B) % D = r
  generalize hy : A / B ^ i % B = y
  have hx := Nat.mod_mod A (B ^ i)
  generalize A % B ^ i = x at *
  have e2 : r * (B ^ i * B) + (x + B ^ i * y) = x + B ^ i * (r * B + y) := by
    rw [Nat.mul_left_comm r, Nat.mul_add, Nat.add_left_comm]
  rw [e2, Nat.add_mul_mod_self_left, hx]
theorem long_lt {B A D i : Nat} (hB : 0 < B) (hD : 0 < D) : longV B A D (i + 1) / B ^ i < D * B := by
  rw [long_div hB]
  have h1 := Nat.mod_lt (A / B ^ (i + 1)) hD
  have h2 := Nat.mod_lt (A / B ^ i) hB
  generalize A / B ^ (i + 1) % D = r at *
  generalize A / B ^ i % B = y at *
  have := Nat.mul_le_mul_right B (show r + 1 ≤ D from h1)
  rw [Nat.add_mul, Nat.one_mul] at this
  omega
theorem long_split {B A i : Nat} (hB : 0 < B) : A / B ^ i = A / B ^ (i + 1) * B + A / B ^ i % B := by
  rw [Nat.pow_succ, ← Nat.div_div_eq_div_mul, Nat.div_add_mod']
theorem long_next {B A D i : Nat} (hB : 0 < B) : longV B A D (i + 1) / B ^ i % D * B ^ i + A % B ^ i = longV B A D i := by
  rw [long_div hB]
  unfold longV
  congr 2
  conv => rhs; rw [long_split (i := i) (A := A) hB]
  have h := Nat.div_add_mod (A / B ^ (i + 1)) D
  generalize A / B ^ i % B = y
  generalize A / B ^ (i + 1) % D = r at *
  generalize A / B ^ (i + 1) / D = q at *
  rw [← h, Nat.add_mul, Nat.add_assoc, Nat.mul_assoc, Nat.mul_add_mod]
theorem long_quo {B A D i : Nat} (hB : 0 < B) (hD : 0 < D) : longV B A D (i + 1) / B ^ i / D + B * (A / B ^ (i + 1) / D) = A / B ^ i / D := by
  rw [long_div hB]
  conv => rhs; rw [long_split (i := i) (A := A) hB]
  have h := Nat.div_add_mod (A / B ^ (i + 1)) D
  generalize A / B ^ i % B = y
  generalize A / B ^ (i + 1) % D = r at *
  generalize A / B ^ (i + 1) / D = q at *
  rw [← h, Nat.add_mul, Nat.add_assoc, Nat.mul_assoc, Nat.mul_add_div hD, Nat.mul_comm q B, Nat.add_comm]
theorem long_first {B A D k : Nat} (h : A / B ^ k < D) : longV B A D k = A ∧ A / B ^ k / D = 0 := by
  unfold longV
  rw [Nat.mod_eq_of_lt h, Nat.div_eq_of_lt h, Nat.mul_comm, Nat.div_add_mod]
  exact ⟨rfl, rfl⟩
theorem long_last {B A D : Nat} : longV B A D 0 = A % D := by
  unfold longV
  rw [Nat.pow_zero, Nat.div_one, Nat.mod_one, Nat.mul_one, Nat.add_zero]
/-- The words of what is left, and of what is left behind a digit. -/
theorem long_words {B V i n e : Nat} : fw B (i + (n + 1 + e)) V = fw B i V ++ (fw B (n + 1) (V / B ^ i) ++ fw B e (V / B ^ i / B ^ (n + 1))) := by
  rw [fw_add, fw_add]
theorem long_back {B V W i n e : Nat} (hB : 0 < B) (hV : V / B ^ i < B ^ (n + 1)) (hW : W < B ^ (n + 1)) :
    fw B i V ++ (fw B (n + 1) W ++ fw B e (V / B ^ i / B ^ (n + 1))) = fw B (i + (n + 1 + e)) (W * B ^ i + V % B ^ i) := by
  have hP : 0 < B ^ i := Nat.pow_pos hB
  rw [fw_add i, fw_add (n + 1)]
  have e1 : fw B i (W * B ^ i + V % B ^ i) = fw B i V := by
    rw [← fw_mod hB i (W * B ^ i + V % B ^ i), Nat.mul_comm, Nat.mul_add_mod, Nat.mod_mod, fw_mod hB]
  have e2 : (W * B ^ i + V % B ^ i) / B ^ i = W := by
    rw [Nat.mul_comm, Nat.mul_add_div hP, Nat.div_eq_of_lt (Nat.mod_lt _ hP), Nat.add_zero]
  rw [e1, e2, Nat.div_eq_of_lt hV, Nat.div_eq_of_lt hW]
end Go.Proofs.Ytfemchdaoihogaa
