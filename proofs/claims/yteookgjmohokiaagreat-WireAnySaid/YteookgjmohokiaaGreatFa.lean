import Derived.Test.YteookgjmohokiaaGreatD1
import Derived.Test.YteookgjmohokiaaGreatE7
namespace Go.Proofs.YteookgjmohokiaaGreat
open Go.Eng
set_option linter.unusedSimpArgs false
set_option linter.unusedVariables false
def lgs (K : Nat) (s : Nat × Nat) : Nat × Nat := if 2 * K ≤ s.1 * s.1 / K then (s.1 * s.1 / K / 2, 2 * s.2 + 1) else (s.1 * s.1 / K, 2 * s.2)
def lgi (K : Nat) (s : Nat × Nat) : Nat → Nat × Nat
  | 0 => s
  | j + 1 => lgs K (lgi K s j)
theorem lgs_in {K : Nat} {s : Nat × Nat} (hK : 0 < K) (h : K ≤ s.1 ∧ s.1 < 2 * K) : K ≤ (lgs K s).1 ∧ (lgs K s).1 < 2 * K ∧ (lgs K s).2 ≤ 2 * s.2 + 1 := by
  have h1 : K * K ≤ s.1 * s.1 := Nat.mul_le_mul h.1 h.1
  have h2 : s.1 * s.1 < 4 * K * K := by
    have := Nat.mul_lt_mul'' h.2 h.2
    have e : 2 * K * (2 * K) = 4 * K * K := by rw [Nat.mul_mul_mul_comm, Nat.mul_assoc 4]
    omega
  have h3 : K ≤ s.1 * s.1 / K := (Nat.le_div_iff_mul_le hK).2 h1
  have h4 : s.1 * s.1 / K < 4 * K := (Nat.div_lt_iff_lt_mul hK).2 h2
  unfold lgs
  split
  · simp only; omega
  · simp only; omega
theorem lgi_in {K x o : Nat} (hK : 0 < K) (h : K ≤ x ∧ x < 2 * K) : ∀ j, K ≤ (lgi K (x, o) j).1 ∧ (lgi K (x, o) j).1 < 2 * K ∧ (lgi K (x, o) j).2 + 1 ≤ (o + 1) * 2 ^ j
  | 0 => ⟨h.1, h.2, by simp [lgi]⟩
  | j + 1 => by
    obtain ⟨a, b, c⟩ := lgi_in hK h j (o := o)
    have := lgs_in hK ⟨a, b⟩
    refine ⟨this.1, this.2.1, ?_⟩
    have h3 := this.2.2
    show (lgs K (lgi K (x, o) j)).2 + 1 ≤ _
    rw [Nat.pow_succ, ← Nat.mul_assoc]
    omega
def K62 : Nat := 4611686018427387904
def lgN (n : Nat) : Nat := (lgi K62 (n * 2 ^ (62 - (bl n - 1)), bl n - 1) 28).2
theorem lgs_low {K n x o t : Nat} (hK : 0 < K) (h : x * 2 ^ o ≤ n * K) : (lgs K (x, o)).1 * 2 ^ (lgs K (x, o)).2 ≤ n * n * K := by
  have h1 : x * x / K * K ≤ x * x := Nat.div_mul_le_self _ _
  have h2 : x * 2 ^ o * (x * 2 ^ o) ≤ n * K * (n * K) := Nat.mul_le_mul h h
  have e1 : x * 2 ^ o * (x * 2 ^ o) = x * x * 2 ^ (2 * o) := by rw [Nat.two_mul, Nat.pow_add]; simp only [Nat.mul_assoc, Nat.mul_left_comm]
  have e2 : n * K * (n * K) = n * n * K * K := by simp only [Nat.mul_assoc, Nat.mul_left_comm]
  rw [e1, e2] at h2
  have h3 : x * x / K * 2 ^ (2 * o) * K ≤ n * n * K * K := by
    have : x * x / K * 2 ^ (2 * o) * K = x * x / K * K * 2 ^ (2 * o) := by rw [Nat.mul_right_comm]
    rw [this]
    exact Nat.le_trans (Nat.mul_le_mul_right _ h1) h2
  have h4 := Nat.le_of_mul_le_mul_right h3 hK
  unfold lgs
  split
  · simp only
    have e3 : x * x / K / 2 * 2 ^ (2 * o + 1) = x * x / K / 2 * 2 * 2 ^ (2 * o) := by rw [Nat.pow_succ]; simp only [Nat.mul_assoc, Nat.mul_left_comm, Nat.mul_comm]
    rw [e3]
    exact Nat.le_trans (Nat.mul_le_mul_right _ (Nat.div_mul_le_self _ _)) h4
  · exact h4
theorem lgs_up {K x o : Nat} (hK : 0 < K) (hx : K ≤ x ∧ x < 2 * K) : x * x * 2 ^ (2 * o) ≤ (lgs K (x, o)).1 * 2 ^ (lgs K (x, o)).2 * (K + 1) := by
  have hin := lgs_in (s := (x, o)) hK hx
  have h1 : x * x < (x * x / K + 1) * K := by
    have := Nat.lt_div_mul_add hK (a := x * x)
    rw [Nat.add_mul, Nat.one_mul]
    omega
  unfold lgs at hin ⊢
  split
  · rename_i hc
    rw [if_pos hc] at hin
    simp only at hin ⊢
    generalize x * x / K = y at *
    have h2 : (y + 1) * K ≤ y / 2 * 2 * (K + 1) := by
      have a0 : 2 * K ≤ y / 2 * 2 ∧ y + 1 ≤ y / 2 * 2 + 2 := by omega
      generalize y / 2 * 2 = t at *
      have a1 : (y + 1) * K ≤ (t + 2) * K := Nat.mul_le_mul_right _ a0.2
      rw [Nat.add_mul t] at a1
      rw [Nat.mul_add, Nat.mul_one]
      omega
    have e : y / 2 * 2 ^ (2 * o + 1) * (K + 1) = y / 2 * 2 * (K + 1) * 2 ^ (2 * o) := by rw [Nat.pow_succ]; simp only [Nat.mul_assoc, Nat.mul_left_comm, Nat.mul_comm]
    rw [e]
    exact Nat.mul_le_mul_right _ (by omega)
  · rename_i hc
    rw [if_neg hc] at hin
    simp only at hin ⊢
    generalize x * x / K = y at *
    have h2 : (y + 1) * K ≤ y * (K + 1) := by
      rw [Nat.add_mul, Nat.mul_add, Nat.one_mul, Nat.mul_one]
      omega
    have e : y * 2 ^ (2 * o) * (K + 1) = y * (K + 1) * 2 ^ (2 * o) := by rw [Nat.mul_right_comm]
    rw [e]
    exact Nat.mul_le_mul_right _ (by omega)
def D28 : Nat := 268435456
end Go.Proofs.YteookgjmohokiaaGreat

namespace Go.Proofs.YteookgjmohokiaaGreat
open Go.Eng Go.Vx
set_option linter.unusedSimpArgs false
set_option linter.unusedVariables false
set_option maxRecDepth 100000
@[go_sem] theorem pk_nil : pk [] = [] := (rfl)
theorem rnumE_fn {B : List Int} {p w : Nat} (hI : IsB B) (hB : B.length ≤ 1099511627776) (hw : w ≤ 64) (hp : 8 * B.length < p + w) (hp2 : p ≤ 8 * B.length) : Fn1 Tryz.prog 37 [.ref 0 0 0 0, .lit (.int .i64 (w : Int))] [some (rdC B p)] (.tup [.lit (.int .u64 0), .lit (.int .i64 5)]) [some (rdC B p)] := by
  refine fn1N_of pl37 (by kernel_rfl) Tryz.call37 Tryz.func37 rfl (by kernel_rfl) rfl [.tmp 4, .tmp 5] (by kernel_rfl) fun Q hQ => ?_
  simp (maxSteps := 1000000) (disch := (first | omega | (simp only [lnA, List.length_map, List.length_range, true_and, and_true]; (try omega); done) | fail)) only [go_sem, Int.reduceEq, Int.reduceToNat, Nat.reduceAdd, Nat.reduceMul, Nat.reduceEqDiff, ↓reduceIte]
  refine callV0 (bgood_fn) rfl rfl ?_
  rw [decide_eq_true (show (0 : Int) ≤ (w : Int) ∧ (w : Int) ≤ 64 by omega)]
  simp (maxSteps := 1000000) (disch := (first | omega | (simp only [lnA, List.length_map, List.length_range, true_and, and_true]; (try omega); done) | fail)) only [go_sem, Bool.not_true, Int.reduceEq, Int.reduceToNat, Nat.reduceAdd, Nat.reduceMul, Nat.reduceEqDiff, ↓reduceIte]
  refine callW [some 0] [] (left_fn (p := p) hB (by omega)) ?_
  simp (maxSteps := 1000000) (disch := (first | omega | (simp only [lnA, List.length_map, List.length_range, true_and, and_true]; (try omega); done) | fail)) only [go_sem, Int.reduceEq, Int.reduceToNat, Nat.reduceAdd, Nat.reduceMul, Nat.reduceEqDiff, ↓reduceIte]
  exact endW [some 0] hQ
end Go.Proofs.YteookgjmohokiaaGreat

namespace Go.Proofs.YteookgjmohokiaaGreat
open Go.Eng Go.Vx
set_option linter.unusedSimpArgs false
set_option linter.unusedVariables false
set_option maxRecDepth 100000
def halfX (L : List Bool) : Nat → Nat → Bool × Int × Nat × Bool
  | 0, p => (true, 0, p, false)
  | k + 1, p => if p < L.length then (if L.getD p false then halfX L k (p + 1) else (false, 0, p + 1, false)) else (false, 8, L.length, true)
theorem halfX_zero (L : List Bool) (p : Nat) : halfX L 0 p = (true, 0, p, false) := by unfold halfX; rfl
theorem halfX_succ (L : List Bool) (k p : Nat) : halfX L (k + 1) p = if p < L.length then (if L.getD p false then halfX L k (p + 1) else (false, 0, p + 1, false)) else (false, 8, L.length, true) := by conv => lhs; unfold halfX
def ratR (L : List Bool) (D : Nat) : Nat → Nat → Nat → Bool × Int × Nat × Bool
  | 0, _, _ => (false, 8, L.length, true)
  | f + 1, r, p => if p < L.length then
      (if L.getD p false = decide (D ≤ r + r) ∧ (if D ≤ r + r then r + r - D else r + r) ≠ 0 then ratR L D f (if D ≤ r + r then r + r - D else r + r) (p + 1) else (decide (D ≤ r + r) && !L.getD p false, 0, p + 1, false))
      else (false, 8, L.length, true)
theorem ratR_succ (L : List Bool) (D f r p : Nat) : ratR L D (f + 1) r p = if p < L.length then
      (if L.getD p false = decide (D ≤ r + r) ∧ (if D ≤ r + r then r + r - D else r + r) ≠ 0 then ratR L D f (if D ≤ r + r then r + r - D else r + r) (p + 1) else (decide (D ≤ r + r) && !L.getD p false, 0, p + 1, false))
      else (false, 8, L.length, true) := by conv => lhs; unfold ratR
def ratX (L : List Bool) (P D p : Nat) : Bool × Int × Nat × Bool :=
  if D = 0 ∨ D < P then (false, 2, p, false) else if P = 0 then (false, 0, p, false) else if P = D then (true, 0, p, false) else ratR L D (L.length + 1 - p) P p
end Go.Proofs.YteookgjmohokiaaGreat
