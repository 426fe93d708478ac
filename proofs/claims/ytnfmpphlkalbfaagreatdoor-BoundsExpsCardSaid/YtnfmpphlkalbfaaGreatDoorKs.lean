import Derived.Test.YtnfmpphlkalbfaaGreatDoorKr
/-! Package bounds: e to the x and its double (plain). -/
namespace Go.Proofs.YtnfmpphlkalbfaaGreatDoor
set_option linter.unusedVariables false
def sm (f : Nat → Rat) : Nat → Rat
  | 0 => 0
  | n + 1 => sm f n + f n
theorem sm_congr {f g : Nat → Rat} {n : Nat} (h : ∀ i, i < n → f i = g i) : sm f n = sm g n := by
  induction n with
  | zero => rfl
  | succ n ih =>
    unfold sm
    rw [ih fun i hi => h i (by omega), h n (by omega)]
theorem sm_le {f g : Nat → Rat} {n : Nat} (h : ∀ i, i < n → f i ≤ g i) : sm f n ≤ sm g n := by
  induction n with
  | zero => exact Rat.le_refl
  | succ n ih =>
    unfold sm
    have := ih fun i hi => h i (by omega)
    have := h n (by omega)
    grind
theorem sm_mono {f : Nat → Rat} {n m : Nat} (h0 : ∀ i, 0 ≤ f i) (h : n ≤ m) : sm f n ≤ sm f m := by
  induction h with
  | refl => exact Rat.le_refl
  | step _ ih =>
    rename_i k _
    have := h0 k
    rw [show sm f (k + 1) = sm f k + f k from rfl]
    grind
theorem mul_cancel {k a b : Rat} (h : k ≠ 0) (e : k * a = k * b) : a = b := by
  have h1 : k⁻¹ * (k * a) = k⁻¹ * (k * b) := by rw [e]
  rw [← Rat.mul_assoc, ← Rat.mul_assoc, Rat.inv_mul_cancel _ h, Rat.one_mul, Rat.one_mul] at h1
  exact h1
theorem sm_add (f g : Nat → Rat) (n : Nat) : sm (fun i => f i + g i) n = sm f n + sm g n := by
  induction n with
  | zero => unfold sm; grind
  | succ n ih =>
    unfold sm
    rw [ih]
    grind
theorem sm_mulr (f : Nat → Rat) (c : Rat) (n : Nat) : sm (fun i => f i * c) n = sm f n * c := by
  induction n with
  | zero => unfold sm; grind
  | succ n ih =>
    unfold sm
    rw [ih]
    grind
/-- The first one taken off. -/
theorem sm_head (f : Nat → Rat) (n : Nat) : sm f (n + 1) = f 0 + sm (fun i => f (i + 1)) n := by
  induction n with
  | zero => unfold sm; unfold sm; grind
  | succ n ih =>
    rw [show sm f (n + 1 + 1) = sm f (n + 1) + f (n + 1) from rfl, ih]
    rw [show sm (fun i => f (i + 1)) (n + 1) = sm (fun i => f (i + 1)) n + f (n + 1) from rfl]
    grind
/-- From behind. -/
theorem sm_rev (f : Nat → Rat) (n : Nat) : sm (fun i => f (n - i)) (n + 1) = sm f (n + 1) := by
  induction n with
  | zero => rfl
  | succ n ih =>
    rw [sm_head, show sm f (n + 1 + 1) = sm f (n + 1) + f (n + 1) from rfl, ← ih]
    have : sm (fun i => f (n + 1 - (i + 1))) (n + 1) = sm (fun i => f (n - i)) (n + 1) := sm_congr fun i _ => by rw [Nat.add_sub_add_right]
    rw [this, Nat.sub_zero]
    grind
theorem Sx_sm (x : Rat) (n : Nat) : Sx x n = sm (tau x) (n + 1) := by
  induction n with
  | zero => unfold sm sm; rw [show Sx x 0 = 1 from rfl, show tau x 0 = 1 from rfl]; decide +kernel
  | succ n ih => rw [show Sx x (n + 1) = Sx x n + tau x (n + 1) from rfl, ih]; rfl
theorem cast_pos (n : Nat) : (0 : Rat) < (((n + 1 : Nat) : Int) : Rat) := by
  have : ((0 : Int) : Rat) < (((n + 1 : Nat) : Int) : Rat) := Rat.intCast_lt_intCast.2 (by omega)
  exact this
theorem tau_mul (x : Rat) (n : Nat) : (((n + 1 : Nat) : Int) : Rat) * tau x (n + 1) = x * tau x n := by
  have := cast_pos n
  rw [show tau x (n + 1) = tau x n * (x * (1 / ((n + 1 : Nat) : Int))) from rfl]
  generalize (((n + 1 : Nat) : Int) : Rat) = k at *
  grind
/-- The terms of a product. -/
def cv (x : Rat) (n : Nat) : Rat := sm (fun i => tau x i * tau x (n - i)) (n + 1)
theorem cv_succ (x : Rat) (n : Nat) : (((n + 1 : Nat) : Int) : Rat) * cv x (n + 1) = 2 * x * cv x n := by
  have h1 : cv x (n + 1) * (((n + 1 : Nat) : Int) : Rat) = sm (fun i => (((i : Nat) : Int) : Rat) * (tau x i * tau x (n + 1 - i))) (n + 2) + sm (fun i => (((n + 1 - i : Nat) : Int) : Rat) * (tau x i * tau x (n + 1 - i))) (n + 2) := by
    unfold cv
    rw [← sm_add, ← sm_mulr]
    refine sm_congr fun i hi => ?_
    have : (((n + 1 - i : Nat) : Int) : Rat) = (((n + 1 : Nat) : Int) : Rat) - (((i : Nat) : Int) : Rat) := by
      rw [← Rat.intCast_sub]
      congr 1
      omega
    rw [this]
    grind
  have h2 : sm (fun i => (((i : Nat) : Int) : Rat) * (tau x i * tau x (n + 1 - i))) (n + 2) = x * cv x n := by
    rw [sm_head]
    rw [show (((0 : Nat) : Int) : Rat) = 0 from rfl, Rat.zero_mul, Rat.zero_add, Rat.mul_comm x]
    unfold cv
    rw [← sm_mulr]
    refine sm_congr fun i hi => ?_
    have := tau_mul x i
    rw [Nat.add_sub_add_right, ← Rat.mul_assoc, this]
    grind
  have h3 : sm (fun i => (((n + 1 - i : Nat) : Int) : Rat) * (tau x i * tau x (n + 1 - i))) (n + 2) = sm (fun i => (((i : Nat) : Int) : Rat) * (tau x i * tau x (n + 1 - i))) (n + 2) := by
    rw [← sm_rev (fun i => (((i : Nat) : Int) : Rat) * (tau x i * tau x (n + 1 - i))) (n + 1)]
    refine sm_congr fun i hi => ?_
    rw [show n + 1 - (n + 1 - i) = i by omega]
    grind
  rw [Rat.mul_comm, h1, h3, h2]
  grind
theorem cv_eq (x : Rat) (n : Nat) : cv x n = tau (2 * x) n := by
  induction n with
  | zero => unfold cv sm sm; rw [show tau x 0 = 1 from rfl, show tau (2 * x) 0 = 1 from rfl]; decide +kernel
  | succ n ih =>
    have h1 := cv_succ x n
    have h2 := tau_mul (2 * x) n
    rw [ih] at h1
    have h3 := cast_pos n
    rw [← h2] at h1
    exact mul_cancel (fun e => by rw [e] at h3; exact Rat.lt_irrefl h3) h1
/-- Summed up by triangles. -/
theorem tri (x : Rat) (K : Nat) : sm (cv x) K = sm (fun i => tau x i * sm (tau x) (K - i)) K := by
  induction K with
  | zero => rfl
  | succ K ih =>
    rw [show sm (cv x) (K + 1) = sm (cv x) K + cv x K from rfl, ih]
    have h1 : sm (fun i => tau x i * sm (tau x) (K + 1 - i)) (K + 1) = sm (fun i => tau x i * sm (tau x) (K - i)) (K + 1) + sm (fun i => tau x i * tau x (K - i)) (K + 1) := by
      rw [← sm_add]
      refine sm_congr fun i hi => ?_
      rw [show K + 1 - i = K - i + 1 by omega, show sm (tau x) (K - i + 1) = sm (tau x) (K - i) + tau x (K - i) from rfl]
      grind
    rw [h1, show sm (fun i => tau x i * sm (tau x) (K - i)) (K + 1) = sm (fun i => tau x i * sm (tau x) (K - i)) K + tau x K * sm (tau x) (K - K) from rfl, Nat.sub_self, show sm (tau x) 0 = 0 from rfl]
    unfold cv
    grind
theorem sq_ge {x : Rat} (h0 : 0 ≤ x) (K : Nat) : sm (tau (2 * x)) K ≤ sm (tau x) K * sm (tau x) K := by
  have e : sm (tau (2 * x)) K = sm (cv x) K := sm_congr fun i _ => (cv_eq x i).symm
  rw [e, tri, ← sm_mulr]
  refine sm_le fun i hi => ?_
  exact Rat.mul_le_mul_of_nonneg_left (sm_mono (tau_nonneg h0) (by omega)) (tau_nonneg h0 i)
theorem sq_le {x : Rat} (h0 : 0 ≤ x) (K : Nat) : sm (tau x) K * sm (tau x) K ≤ sm (tau (2 * x)) (2 * K) := by
  have e : sm (tau (2 * x)) (2 * K) = sm (cv x) (2 * K) := sm_congr fun i _ => (cv_eq x i).symm
  have hp : ∀ n, 0 ≤ sm (tau x) n := fun n => sm_mono (n := 0) (tau_nonneg h0) (Nat.zero_le n)
  rw [e, tri, ← sm_mulr]
  have h1 : sm (fun i => tau x i * sm (tau x) K) K ≤ sm (fun i => tau x i * sm (tau x) (2 * K - i)) K := sm_le fun i hi =>
    Rat.mul_le_mul_of_nonneg_left (sm_mono (tau_nonneg h0) (by omega)) (tau_nonneg h0 i)
  have h2 : sm (fun i => tau x i * sm (tau x) (2 * K - i)) K ≤ sm (fun i => tau x i * sm (tau x) (2 * K - i)) (2 * K) := sm_mono (fun i => Rat.mul_nonneg (tau_nonneg h0 i) (hp _)) (by omega)
  grind
theorem Sx_sq_ge {x : Rat} (h0 : 0 ≤ x) (N : Nat) : Sx (2 * x) N ≤ Sx x N * Sx x N := by
  rw [Sx_sm, Sx_sm]
  exact sq_ge h0 _
theorem Sx_sq_le {x : Rat} (h0 : 0 ≤ x) (N : Nat) : Sx x N * Sx x N ≤ Sx (2 * x) (2 * N + 1) := by
  rw [Sx_sm, Sx_sm]
  exact sq_le h0 _
def dbl (x : Rat) : Nat → Rat
  | 0 => x
  | i + 1 => 2 * dbl x i
theorem dbl_nonneg {x : Rat} (h : 0 ≤ x) (i : Nat) : 0 ≤ dbl x i := by
  induction i with
  | zero => exact h
  | succ i ih => unfold dbl; grind
theorem pw2_ge {y : Rat} (h0 : 0 ≤ y) (N : Nat) : ∀ i, Sx (dbl y i) N ≤ pw2 (Sx y N) i := by
  intro i
  induction i with
  | zero => exact Rat.le_refl
  | succ i ih =>
    have h1 := Sx_sq_ge (dbl_nonneg h0 i) N
    have h2 := Sx_pos (dbl_nonneg h0 i) N
    have h3 := mul_le_mul' ih ih h2 (by grind)
    rw [show pw2 (Sx y N) (i + 1) = pw2 (Sx y N) i * pw2 (Sx y N) i from rfl, show dbl y (i + 1) = 2 * dbl y i from rfl]
    grind
theorem pw2_le {y : Rat} (h0 : 0 ≤ y) (N : Nat) : ∀ i, ∃ M, pw2 (Sx y N) i ≤ Sx (dbl y i) M := by
  intro i
  induction i with
  | zero => exact ⟨N, Rat.le_refl⟩
  | succ i ih =>
    obtain ⟨M, hM⟩ := ih
    refine ⟨2 * M + 1, ?_⟩
    have h1 := Sx_sq_le (dbl_nonneg h0 i) M
    have h2 := pw2_nonneg (Sx_pos h0 N) i
    have h3 := mul_le_mul' hM hM h2 (by grind)
    rw [show pw2 (Sx y N) (i + 1) = pw2 (Sx y N) i * pw2 (Sx y N) i from rfl, show dbl y (i + 1) = 2 * dbl y i from rfl]
    grind
theorem dbl_half (x : Rat) (i : Nat) : dbl (x * hf i) i = x := by
  have : ∀ j z, dbl z j * hf j = z := by
    intro j
    induction j with
    | zero => intro z; rw [hf_zero]; unfold dbl; grind
    | succ j ih =>
      intro z
      have := ih z
      rw [hf_succ]
      unfold dbl
      grind
  have h1 := this i (x * hf i)
  have h2 := hf_pos i
  refine mul_cancel (k := hf i) (fun e => by rw [e] at h2; exact Rat.lt_irrefl h2) ?_
  rw [Rat.mul_comm, h1, Rat.mul_comm]
/-- Of e to the x. -/
structure ExpB (x : Rat) (L H : Rat) : Prop where
  lo : ∃ N, L ≤ Sx x N
  hi : ∀ N, Sx x N ≤ H
theorem PowE.expB {x : Rat} {b i : Nat} {L H : Rat} (h0 : 0 ≤ x) (h : PowE (x * hf i) b i L H) : ExpB x L H := by
  have hy : 0 ≤ x * hf i := Rat.mul_nonneg h0 (Rat.le_of_lt (hf_pos i))
  constructor
  · obtain ⟨n0, hn⟩ := h.lo
    obtain ⟨M, hM⟩ := pw2_le hy n0 i
    rw [dbl_half] at hM
    exact ⟨M, Rat.le_trans (hn n0 (Nat.le_refl _)) hM⟩
  · intro N
    have := pw2_ge hy N i
    rw [dbl_half] at this
    exact Rat.le_trans this (h.hi N)
end Go.Proofs.YtnfmpphlkalbfaaGreatDoor
