import Derived.Test.YtpkfddfkacijoaaDoorN1
import Derived.Test.YtpkfddfkacijoaaDoorT1
import Derived.Test.YtpkfddfkacijoaaDoorYb
import Derived.Test.YtpkfddfkacijoaaDoorE7
namespace Go.Proofs.YtpkfddfkacijoaaDoor
open Go.Eng Go.Vx
set_option linter.unusedSimpArgs false
set_option linter.unusedVariables false
set_option maxRecDepth 100000
def halfX (L : List Bool) : Nat → Nat → Bool × Int × Nat × Bool
  | 0, p => (true, 0, p, false)
  | k + 1, p => if p < L.length then (if L.getD p false then halfX L k (p + 1) else (false, 0, p + 1, false)) else (false, 8, L.length, true)
theorem halfX_zero (L : List Bool) (p : Nat) : halfX L 0 p = (true, 0, p, false) := by unfold halfX; rfl
theorem halfX_succ (L : List Bool) (k p : Nat) : halfX L (k + 1) p = if p < L.length then (if L.getD p false then halfX L k (p + 1) else (false, 0, p + 1, false)) else (false, 8, L.length, true) := by conv => lhs; unfold halfX
def ratR (L : List Bool) (D : Nat) : Nat → Nat → Nat → Bool × Int × Nat × Bool
  | 0, _, _ => (false, 8, L.length, true)
  | f + 1, r, p => if p < L.length then
      (if L.getD p false = decide (D ≤ r + r) ∧ (if D ≤ r + r then r + r - D else r + r) ≠ 0 then ratR L D f (if D ≤ r + r then r + r - D else r + r) (p + 1) else (decide (D ≤ r + r) && !L.getD p false, 0, p + 1, false))
      else (false, 8, L.length, true)
theorem ratR_succ (L : List Bool) (D f r p : Nat) : ratR L D (f + 1) r p = if p < L.length then
      (if L.getD p false = decide (D ≤ r + r) ∧ (if D ≤ r + r then r + r - D else r + r) ≠ 0 then ratR L D f (if D ≤ r + r then r + r - D else r + r) (p + 1) else (decide (D ≤ r + r) && !L.getD p false, 0, p + 1, false))
      else (false, 8, L.length, true) := by conv => lhs; unfold ratR
def ratX (L : List Bool) (P D p : Nat) : Bool × Int × Nat × Bool :=
  if D = 0 ∨ D < P then (false, 2, p, false) else if P = 0 then (false, 0, p, false) else if P = D then (true, 0, p, false) else ratR L D (L.length + 1 - p) P p
end Go.Proofs.YtpkfddfkacijoaaDoor

namespace Go.Proofs.YtpkfddfkacijoaaDoor
open Go.Eng
set_option linter.unusedSimpArgs false
set_option linter.unusedVariables false
theorem log_ok : ∀ b : Fin 65, 1 ≤ b.val → 2 ^ b.val ≤ 10 ^ (b.val * 78913 / 262144 + 1) ∧ (b.val * 78913 / 262144 = 0 ∨ 10 ^ (b.val * 78913 / 262144 - 1) ≤ 2 ^ (b.val - 1)) ∧ b.val * 78913 / 262144 < 20 := by decide +kernel
theorem nd10_log {d : Nat} (h0 : d ≠ 0) (h : d < 18446744073709551616) : nd10 d = bl d * 78913 / 262144 + (if 10 ^ (bl d * 78913 / 262144) ≤ d then 1 else 0) ∧ bl d * 78913 / 262144 < 20 := by
  have h1 := bl_lt d
  have h2 := bl_le (n := d) h0
  have h3 := bl_le_of (n := d) (k := 64) (by omega)
  have h4 : 1 ≤ bl d := by
    rcases Nat.eq_zero_or_pos (bl d) with e | e
    · rw [e] at h1; simp at h1; omega
    · exact e
  obtain ⟨k1, k2, k3⟩ := log_ok ⟨bl d, by omega⟩ h4
  simp only at k1 k2 k3
  refine ⟨?_, k3⟩
  generalize bl d * 78913 / 262144 = k at *
  by_cases hc : 10 ^ k ≤ d
  · rw [if_pos hc]
    exact nd10_eq (by omega) (Nat.lt_of_lt_of_le h1 k1) (.inl (by rw [Nat.add_sub_cancel]; exact hc))
  · rw [if_neg hc, Nat.add_zero]
    have hk : k ≠ 0 := fun e => by subst e; simp at hc; omega
    exact nd10_eq (by omega) (by omega) (.inl (Nat.le_trans (k2.resolve_left hk) h2))
end Go.Proofs.YtpkfddfkacijoaaDoor
