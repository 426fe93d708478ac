import Derived.Test.YtdohmppildfjhaaGreatKr
namespace Go.Proofs.YtdohmppildfjhaaGreat
set_option linter.unusedVariables false
def sm (f : Nat → Rat) : Nat → Rat
 | 0 => 0
 | n + 1 => sm f n + f n
theorem sm_congr {f g : Nat → Rat} {n : Nat} (h : ∀ i, i < n → f i = g i) : sm f n = sm g n := by
 induction n with
 | zero => rfl
 | succ n ih =>
  unfold sm
  rw [ih fun i hi => h i (by omega), h n (by omega)]
theorem sm_le {f g : Nat → Rat} {n : Nat} (h : ∀ i, i < n → f i ≤ g i) : sm f n ≤ sm g n := by
 induction n with
 | zero => exact Rat.le_refl
 | succ n ih =>
  unfold sm
  have := ih fun i hi => h i (by omega)
  have := h n (by omega)
  grind
theorem sm_mono {f : Nat → Rat} {n m : Nat} (h0 : ∀ i, 0 ≤ f i) (h : n ≤ m) : sm f n ≤ sm f m := by
 induction h with
 | refl => exact Rat.le_refl
 | step _ ih =>
  rename_i k _
  have := h0 k
  rw [show sm f (k + 1) = sm f k + f k from rfl]
  grind
theorem mul_cancel {k a b : Rat} (h : k ≠ 0) (e : k * a = k * b) : a = b := by
 have h1 : k⁻¹ * (k * a) = k⁻¹ * (k * b) := by rw [e]
 rw [← Rat.mul_assoc, ← Rat.mul_assoc, Rat.inv_mul_cancel _ h, Rat.one_mul, Rat.one_mul] at h1
 exact h1
theorem sm_add (f g : Nat → Rat) (n : Nat) : sm (fun i => f i + g i) n = sm f n + sm g n := by
 induction n with
 | zero => unfold sm; grind
 | succ n ih =>
  unfold sm
  rw [ih]
  grind
theorem sm_mulr (f : Nat → Rat) (c : Rat) (n : Nat) : sm (fun i => f i * c) n = sm f n * c := by
 induction n with
 | zero => unfold sm; grind
 | succ n ih =>
  unfold sm
  rw [ih]
  grind
theorem sm_head (f : Nat → Rat) (n : Nat) : sm f (n + 1) = f 0 + sm (fun i => f (i + 1)) n := by
 induction n with
 | zero => unfold sm; unfold sm; grind
 | succ n ih =>
  rw [show sm f (n + 1 + 1) = sm f (n + 1) + f (n + 1) from rfl, ih]
  rw [show sm (fun i => f (i + 1)) (n + 1) = sm (fun i => f (i + 1)) n + f (n + 1) from rfl]
  grind
theorem sm_rev (f : Nat → Rat) (n : Nat) : sm (fun i => f (n - i)) (n + 1) = sm f (n + 1) := by
 induction n with
 | zero => rfl
 | succ n ih =>
  rw [sm_head, show sm f (n + 1 + 1) = sm f (n + 1) + f (n + 1) from rfl, ← ih]
  have : sm (fun i => f (n + 1 - (i + 1))) (n + 1) = sm (fun i => f (n - i)) (n + 1) := sm_congr fun i _ => by rw [Nat.add_sub_add_right]
  rw [this, Nat.sub_zero]
  grind
theorem Sx_sm (x : Rat) (n : Nat) : Sx x n = sm (tau x) (n + 1) := by
 induction n with
 | zero => unfold sm sm; rw [show Sx x 0 = 1 from rfl, show tau x 0 = 1 from rfl]; decide +kernel
 | succ n ih => rw [show Sx x (n + 1) = Sx x n + tau x (n + 1) from rfl, ih]; rfl
theorem cast_pos (n : Nat) : (0 : Rat) < (((n + 1 : Nat) : Int) : Rat) := by
 have : ((0 : Int) : Rat) < (((n + 1 : Nat) : Int) : Rat) := Rat.intCast_lt_intCast.2 (by omega)
 exact this
theorem tau_mul (x : Rat) (n : Nat) : (((n + 1 : Nat) : Int) : Rat) * tau x (n + 1) = x * tau x n := by
 have := cast_pos n
 rw [show tau x (n + 1) = tau x n * (x * (1 / ((n + 1 : Nat) : Int))) from rfl]
 generalize (((n + 1 : Nat) : Int) : Rat) = k at *
 grind
def cv (x : Rat) (n : Nat) : Rat := sm (fun i => tau x i * tau x (n - i)) (n + 1)
theorem cv_succ (x : Rat) (n : Nat) : (((n + 1 : Nat) : Int) : Rat) * cv x (n + 1) = 2 * x * cv x n := by
 have h1 : cv x (n + 1) * (((n + 1 : Nat) : Int) : Rat) = sm (fun i => (((i : Nat) : Int) : Rat) * (tau x i * tau x (n + 1 - i))) (n + 2) + sm (fun i => (((n + 1 - i : Nat) : Int) : Rat) * (tau x i * tau x (n + 1 - i))) (n + 2) := by
  unfold cv
  rw [← sm_add, ← sm_mulr]
  refine sm_congr fun i hi => ?_
  have : (((n + 1 - i : Nat) : Int) : Rat) = (((n + 1 : Nat) : Int) : Rat) - (((i : Nat) : Int) : Rat) := by
   rw [← Rat.intCast_sub]
   congr 1
   omega
  rw [this]
  grind
 have h2 : sm (fun i => (((i : Nat) : Int) : Rat) * (tau x i * tau x (n + 1 - i))) (n + 2) = x * cv x n := by
  rw [sm_head]
  rw [show (((0 : Nat) : Int) : Rat) = 0 from rfl, Rat.zero_mul, Rat.zero_add, Rat.mul_comm x]
  unfold cv
  rw [← sm_mulr]
  refine sm_congr fun i hi => ?_
  have := tau_mul x i
  rw [Nat.add_sub_add_right, ← Rat.mul_assoc, this]
  grind
 have h3 : sm (fun i => (((n + 1 - i : Nat) : Int) : Rat) * (tau x i * tau x (n + 1 - i))) (n + 2) = sm (fun i => (((i : Nat) : Int) : Rat) * (tau x i * tau x (n + 1 - i))) (n + 2) := by
  rw [← sm_rev (fun i => (((i : Nat) : Int) : Rat) * (tau x i * tau x (n + 1 - i))) (n + 1)]
  refine sm_congr fun i hi => ?_
  rw [show n + 1 - (n + 1 - i) = i by omega]
  grind
 rw [Rat.mul_comm, h1, h3, h2]
 grind
theorem cv_eq (x : Rat) (n : Nat) : cv x n = tau (2 * x) n := by
 induction n with
 | zero => unfold cv sm sm; rw [show tau x 0 = 1 from rfl, show tau (2 * x) 0 = 1 from rfl]; decide +kernel
 | succ n ih =>
  have h1 := cv_succ x n
  have h2 := tau_mul (2 * x) n
  rw [ih] at h1
  have h3 := cast_pos n
  rw [← h2] at h1
  exact mul_cancel (fun e => by rw [e] at h3; exact Rat.lt_irrefl h3) h1
theorem tri (x : Rat) (K : Nat) : sm (cv x) K = sm (fun i => tau x i * sm (tau x) (K - i)) K := by
 induction K with
 | zero => rfl
 | succ K ih =>
  rw [show sm (cv x) (K + 1) = sm (cv x) K + cv x K from rfl, ih]
  have h1 : sm (fun i => tau x i * sm (tau x) (K + 1 - i)) (K + 1) = sm (fun i => tau x i * sm (tau x) (K - i)) (K + 1) + sm (fun i => tau x i * tau x (K - i)) (K + 1) := by
   rw [← sm_add]
   refine sm_congr fun i hi => ?_
   rw [show K + 1 - i = K - i + 1 by omega, show sm (tau x) (K - i + 1) = sm (tau x) (K - i) + tau x (K - i) from rfl]
   grind
  rw [h1, show sm (fun i => tau x i * sm (tau x) (K - i)) (K + 1) = sm (fun i => tau x i * sm (tau x) (K - i)) K + tau x K * sm (tau x) (K - K) from rfl, Nat.sub_self, show sm (tau x) 0 = 0 from rfl]
  unfold cv
  grind
theorem sq_ge {x : Rat} (h0 : 0 ≤ x) (K : Nat) : sm (tau (2 * x)) K ≤ sm (tau x) K * sm (tau x) K := by
 have e : sm (tau (2 * x)) K = sm (cv x) K := sm_congr fun i _ => (cv_eq x i).symm
 rw [e, tri, ← sm_mulr]
 refine sm_le fun i hi => ?_
 exact Rat.mul_le_mul_of_nonneg_left (sm_mono (tau_nonneg h0) (by omega)) (tau_nonneg h0 i)
theorem sq_le {x : Rat} (h0 : 0 ≤ x) (K : Nat) : sm (tau x) K * sm (tau x) K ≤ sm (tau (2 * x)) (2 * K) := by
 have e : sm (tau (2 * x)) (2 * K) = sm (cv x) (2 * K) := sm_congr fun i _ => (cv_eq x i).symm
 have hp : ∀ n, 0 ≤ sm (tau x) n := fun n => sm_mono (n := 0) (tau_nonneg h0) (Nat.zero_le n)
 rw [e, tri, ← sm_mulr]
 have h1 : sm (fun i => tau x i * sm (tau x) K) K ≤ sm (fun i => tau x i * sm (tau x) (2 * K - i)) K := sm_le fun i hi =>
  Rat.mul_le_mul_of_nonneg_left (sm_mono (tau_nonneg h0) (by omega)) (tau_nonneg h0 i)
 have h2 : sm (fun i => tau x i * sm (tau x) (2 * K - i)) K ≤ sm (fun i => tau x i * sm (tau x) (2 * K - i)) (2 * K) := sm_mono (fun i => Rat.mul_nonneg (tau_nonneg h0 i) (hp _)) (by omega)
 grind
theorem Sx_sq_ge {x : Rat} (h0 : 0 ≤ x) (N : Nat) : Sx (2 * x) N ≤ Sx x N * Sx x N := by
 rw [Sx_sm, Sx_sm]
 exact sq_ge h0 _
theorem Sx_sq_le {x : Rat} (h0 : 0 ≤ x) (N : Nat) : Sx x N * Sx x N ≤ Sx (2 * x) (2 * N + 1) := by
 rw [Sx_sm, Sx_sm]
 exact sq_le h0 _
def dbl (x : Rat) : Nat → Rat
 | 0 => x
 | i + 1 => 2 * dbl x i
theorem dbl_nonneg {x : Rat} (h : 0 ≤ x) (i : Nat) : 0 ≤ dbl x i := by
 induction i with
 | zero => exact h
 | succ i ih => unfold dbl; grind
theorem pw2_ge {y : Rat} (h0 : 0 ≤ y) (N : Nat) : ∀ i, Sx (dbl y i) N ≤ pw2 (Sx y N) i := by
 intro i
 induction i with
 | zero => exact Rat.le_refl
 | succ i ih =>
  have h1 := Sx_sq_ge (dbl_nonneg h0 i) N
  have h2 := Sx_pos (dbl_nonneg h0 i) N
  have h3 := mul_le_mul' ih ih h2 (by grind)
  rw [show pw2 (Sx y N) (i + 1) = pw2 (Sx y N) i * pw2 (Sx y N) i from rfl, show dbl y (i + 1) = 2 * dbl y i from rfl]
  grind
theorem pw2_le {y : Rat} (h0 : 0 ≤ y) (N : Nat) : ∀ i, ∃ M, pw2 (Sx y N) i ≤ Sx (dbl y i) M := by
 intro i
 induction i with
 | zero => exact ⟨N, Rat.le_refl⟩
 | succ i ih =>
  obtain ⟨M, hM⟩ := ih
  refine ⟨2 * M + 1, ?_⟩
  have h1 := Sx_sq_le (dbl_nonneg h0 i) M
  have h2 := pw2_nonneg (Sx_pos h0 N) i
  have h3 := mul_le_mul' hM hM h2 (by grind)
  rw [show pw2 (Sx y N) (i + 1) = pw2 (Sx y N) i * pw2 (Sx y N) i from rfl, show dbl y (i + 1) = 2 * dbl y i from rfl]
  grind
theorem dbl_half (x : Rat) (i : Nat) : dbl (x * hf i) i = x := by
 have : ∀ j z, dbl z j * hf j = z := by
  intro j
  induction j with
  | zero => intro z; rw [hf_zero]; unfold dbl; grind
  | succ j ih =>
   intro z
   have := ih z
   rw [hf_succ]
   unfold dbl
   grind
 have h1 := this i (x * hf i)
 have h2 := hf_pos i
 refine mul_cancel (k := hf i) (fun e => by rw [e] at h2; exact Rat.lt_irrefl h2) ?_
 rw [Rat.mul_comm, h1, Rat.mul_comm]
structure ExpB (x : Rat) (L H : Rat) : Prop where
 lo : ∃ N, L ≤ Sx x N
 hi : ∀ N, Sx x N ≤ H
theorem PowE.expB {x : Rat} {b i : Nat} {L H : Rat} (h0 : 0 ≤ x) (h : PowE (x * hf i) b i L H) : ExpB x L H := by
 have hy : 0 ≤ x * hf i := Rat.mul_nonneg h0 (Rat.le_of_lt (hf_pos i))
 constructor
 ·
  obtain ⟨n0, hn⟩ := h.lo
  obtain ⟨M, hM⟩ := pw2_le hy n0 i
  rw [dbl_half] at hM
  exact ⟨M, Rat.le_trans (hn n0 (Nat.le_refl _)) hM⟩
 ·
  intro N
  have := pw2_ge hy N i
  rw [dbl_half] at this
  exact Rat.le_trans this (h.hi N)
end Go.Proofs.YtdohmppildfjhaaGreat

namespace Go.Proofs.YtdohmppildfjhaaGreat
set_option linter.unusedVariables false
abbrev Q4 := Rat × Rat × Rat × Rat
def fac (x : Rat) (n : Nat) : Rat := x * (1 / ((n + 1 : Nat) : Int))
def serN (x : Rat) (b n : Nat) (s : Q4) : Q4 := (dn (s.1 * fac x n) b, up (s.2.1 * fac x n) b, s.2.2.1 + dn (s.1 * fac x n) b, s.2.2.2 + up (s.2.1 * fac x n) b)
def serM (x : Rat) (b : Nat) : Nat → Nat → Q4 → Rat × Rat
 | 0, _, s => (s.2.2.1, s.2.2.2 + s.2.1)
 | f + 1, n, s => if (serN x b n s).2.1 ≤ hf (b - 8) then ((serN x b n s).2.2.1, (serN x b n s).2.2.2 + (serN x b n s).2.1) else serM x b f (n + 1) (serN x b n s)
theorem serN_ok {x : Rat} {b n : Nat} {s : Q4} (h0 : 0 ≤ x) (h1 : x ≤ 1 / 2) (h : SerI x b n s.1 s.2.1 s.2.2.1 s.2.2.2) : SerI x b (n + 1) (serN x b n s).1 (serN x b n s).2.1 (serN x b n s).2.2.1 (serN x b n s).2.2.2 := h.next h0 h1
theorem serM_ok {x : Rat} {b : Nat} (h0 : 0 ≤ x) (h1 : x ≤ 1 / 2) (hb : 200 ≤ b) (hb2 : b ≤ 300) : ∀ f n s, n + f = b → 0 < f → SerI x b n s.1 s.2.1 s.2.2.1 s.2.2.2 → SerE x b (serM x b f n s).1 (serM x b f n s).2 := by
 intro f
 induction f with
 | zero => intro n s hn h; omega
 | succ f ih =>
  intro n s hn _ h
  have h2 := serN_ok h0 h1 h
  unfold serM
  split
  ·
   rename_i hc
   exact h2.done h0 h1 hb hb2 (by omega) hc
  ·
   rename_i hc
   have := h2.lt (by omega) hc
   exact ih (n + 1) _ (by omega) (by omega) h2
def serX (x : Rat) (b : Nat) : Rat × Rat := serM x b b 0 (1, 1, 1, 1)
theorem serX_ok {x : Rat} {b : Nat} (h0 : 0 ≤ x) (h1 : x ≤ 1 / 2) (hb : 200 ≤ b) (hb2 : b ≤ 300) : SerE x b (serX x b).1 (serX x b).2 :=
 serM_ok h0 h1 hb hb2 b 0 _ (by omega) (by omega) (SerI.start x b)
def sqX (b : Nat) (p : Rat × Rat) : Nat → Rat × Rat
 | 0 => p
 | i + 1 => (dn ((sqX b p i).1 * (sqX b p i).1) b, up ((sqX b p i).2 * (sqX b p i).2) b)
theorem sqX_ok {y : Rat} {b : Nat} {p : Rat × Rat} (h0 : 0 ≤ y) (h : SerE y b p.1 p.2) (hb : 200 ≤ b) : ∀ i, i ≤ 7 → PowE y b i (sqX b p i).1 (sqX b p i).2 := by
 intro i
 induction i with
 | zero => intro _; exact h.pow hb
 | succ i ih => intro hi; exact (ih (by omega)).next h0 hb (by omega)
theorem halves_of {x : Rat} (h1 : x ≤ 64) : ∃ T, T ≤ 7 ∧ x * hf T ≤ 1 / 2 ∧ ∀ j, j < T → ¬ x * hf j ≤ 1 / 2 := by
 have key : ∀ k, k ≤ 7 → (∃ T, T ≤ 7 ∧ x * hf T ≤ 1 / 2 ∧ ∀ j, j < T → ¬ x * hf j ≤ 1 / 2) ∨ ∀ j, j < k → ¬ x * hf j ≤ 1 / 2 := by
  intro k
  induction k with
  | zero => intro _; exact .inr fun j hj => by omega
  | succ k ih =>
   intro hk
   rcases ih (by omega) with h | h
   ·
    exact .inl h
   ·
    by_cases hc : x * hf k ≤ 1 / 2
    ·
     exact .inl ⟨k, by omega, hc, h⟩
    ·
     refine .inr fun j hj => ?_
     by_cases e : j = k
     ·
      rw [e]; exact hc
     ·
      exact h j (by omega)
 rcases key 7 (Nat.le_refl _) with h | h
 ·
  exact h
 ·
  refine ⟨7, Nat.le_refl _, ?_, h⟩
  rw [show hf 7 = 1 / 128 by decide +kernel]
  grind
theorem hf_1 : hf 1 = 1 / 2 := by decide +kernel
structure PowR (x : Rat) (b : Nat) (L H : Rat) : Prop where
 bnd : ExpB x L H
 one : 1 ≤ L
 le : L ≤ H
 wid : H ≤ L * (1 + 2187 * (2048 * hf b))
 top : H ≤ 162259276829213363391578010288128
theorem PowE.res {x : Rat} {b T : Nat} {L H : Rat} (h0 : 0 ≤ x) (hT : T ≤ 7) (h : PowE (x * hf T) b T L H) : PowR x b L H := by
 refine ⟨h.expB h0, h.one, h.le, ?_, ?_⟩
 ·
  have h1 := h.wid
  have h2 := h.one
  have h3 := hf_pos b
  have hk : (((3 ^ T : Nat) : Int) : Rat) ≤ 2187 := nat_le (show 3 ^ T ≤ 2187 from Nat.le_trans (Nat.pow_le_pow_right (by decide) hT) (by decide))
  generalize (((3 ^ T : Nat) : Int) : Rat) = k at *
  have h4 := Rat.mul_le_mul_of_nonneg_right (c := 2048 * hf b) hk (by grind)
  have h5 : L * (1 + k * (2048 * hf b)) ≤ L * (1 + 2187 * (2048 * hf b)) := Rat.mul_le_mul_of_nonneg_left (by grind) (by grind)
  grind
 ·
  have h1 := h.top
  have h2 : cap T ≤ 162259276829213363391578010288128 := by
   have h : T = 0 ∨ T = 1 ∨ T = 2 ∨ T = 3 ∨ T = 4 ∨ T = 5 ∨ T = 6 ∨ T = 7 := by omega
   rcases h with rfl | rfl | rfl | rfl | rfl | rfl | rfl | rfl <;> decide +kernel
  grind
theorem hf_mono_pow {k : Nat} {c : Rat} (hc : hf k ≤ c) {b : Nat} (h : k ≤ b) : hf b ≤ c := Rat.le_trans (hf_anti h) hc
theorem inv_le {a b : Rat} (ha : 0 < a) (h : a ≤ b) : 1 / b ≤ 1 / a := by
 have hb : 0 < b := by grind
 have e1 : 1 / b * b = 1 := by grind
 have e2 : 1 / a * a = 1 := by grind
 have p1 : 0 < 1 / b := by
  by_cases h : 0 < 1 / b
  ·
   exact h
  ·
   have := Rat.mul_le_mul_of_nonneg_right (c := b) (show 1 / b ≤ 0 by grind) (by grind)
   grind
 have p2 : 0 < 1 / a := by
  by_cases h : 0 < 1 / a
  ·
   exact h
  ·
   have := Rat.mul_le_mul_of_nonneg_right (c := a) (show 1 / a ≤ 0 by grind) (by grind)
   grind
 generalize 1 / b = u at *
 generalize 1 / a = v at *
 have h3 : u * a ≤ u * b := Rat.mul_le_mul_of_nonneg_left h (by grind)
 have h4 : v * (u * a) ≤ v * 1 := Rat.mul_le_mul_of_nonneg_left (by grind) (by grind)
 have h5 : v * (u * a) = u * (v * a) := by grind
 rw [h5, e2] at h4
 grind
theorem inv_pos' {a : Rat} (ha : 0 < a) : 0 < 1 / a := by
 by_cases h : 0 < 1 / a
 ·
  exact h
 ·
  have := Rat.mul_le_mul_of_nonneg_right (c := a) (show 1 / a ≤ 0 by grind) (by grind)
  grind
structure NegR (x : Rat) (bits : Nat) (L H : Rat) : Prop where
 pos : 0 < L
 le : L ≤ H
 one : H ≤ 1
 wid : H - L ≤ hf bits
theorem up_one (b : Nat) : up 1 b = 1 := by
 have h := hf_tw b
 unfold up dn
 rw [show (0 - 1 : Rat) * tw b = (((-(2 ^ b : Nat) : Int)) : Rat) by unfold tw; rw [Rat.intCast_neg]; grind, Rat.floor_intCast]
 unfold tw at h
 rw [Rat.intCast_neg]
 grind
theorem PowR.neg {x : Rat} {bits A B : Nat} {L H : Rat} (h : PowR x B L H) (hA : A = bits + 120) (hB : B = bits + 208) : NegR x bits (dn (1 / H) A) (up (1 / L) A) := by
 have h1 := h.one
 have h2 := h.le
 have h3 := h.wid
 have h4 := h.top
 have i1 := inv_le (by grind) h2
 have i2 := inv_pos' (a := H) (by grind)
 have i3 := inv_le (a := 1) (b := L) (by decide +kernel) h1
 have i4 := inv_le (by grind) h4
 have d1 := dn_le (1 / H) A
 have d2 := dn_gt (1 / H) A
 have u1 := up_ge (1 / L) A
 have u2 := up_lt (1 / L) A
 have p0 := hf_pos bits
 have e1 := hf_add bits 120
 have e2 := hf_add bits 208
 rw [← hA] at e1
 rw [← hB] at e2
 have c1 : hf 120 ≤ 1 / 1000000 := hf_mono_pow (k := 20) (by decide +kernel) (by decide)
 have c2 : hf 208 ≤ 1 / 10000000000 := hf_mono_pow (k := 34) (by decide +kernel) (by decide)
 have c3 : hf A ≤ 1 / 1000000000000000000000000000000000000 := hf_mono_pow (k := 120) (by decide +kernel) (by omega)
 clear hA hB
 generalize hf 120 = f120 at *
 generalize hf 208 = f208 at *
 have m1 : hf bits * f120 ≤ hf bits * (1 / 1000000) := Rat.mul_le_mul_of_nonneg_left c1 (by grind)
 have m2 : hf bits * f208 ≤ hf bits * (1 / 10000000000) := Rat.mul_le_mul_of_nonneg_left c2 (by grind)
 have hup : up (1 / L) A ≤ 1 := by
  have := up_mono (x := 1 / L) (y := 1) (by grind) A
  rw [up_one] at this
  grind
 have hLH : 1 / L - 1 / H ≤ 2187 * (2048 * hf B) := by
  have f1 : 1 / L * L = 1 := by grind
  have f2 : 1 / H * H = 1 := by grind
  have j1 := inv_pos' (a := L) (by grind)
  have hr0 : 0 ≤ 2187 * (2048 * hf B) := by
   have := hf_pos B
   grind
  generalize 1 / L = u at *
  generalize 1 / H = v at *
  generalize 2187 * (2048 * hf B) = r at *
  have g1 : u - v = u * v * (H - L) := by grind
  have g2 : u * v * (H - L) ≤ u * v * (L * r) := Rat.mul_le_mul_of_nonneg_left (by grind) (Rat.mul_nonneg (by grind) (by grind))
  have g3 : u * v * (L * r) = v * r := by grind
  have g4 : 0 ≤ r := hr0
  have g5 : v * r ≤ 1 * r := Rat.mul_le_mul_of_nonneg_right (by grind) g4
  grind
 refine ⟨by grind, by grind, hup, by grind⟩
end Go.Proofs.YtdohmppildfjhaaGreat
