import Derived.Test.YtdohmppildfjhaaGreatDoorKp
namespace Go.Proofs.YtdohmppildfjhaaGreatDoor
set_option linter.unusedVariables false
theorem hf_add (m n : Nat) : hf (m + n) = hf m * hf n := by
 induction n with
 | zero => rw [hf_zero, Nat.add_zero, Rat.mul_one]
 | succ n ih => rw [← Nat.add_assoc, hf_succ, ih, hf_succ, Rat.mul_assoc]
theorem hf_anti {m n : Nat} (h : m ≤ n) : hf n ≤ hf m := by
 induction h with
 | refl => exact Rat.le_refl
 | step _ ih =>
  rename_i k _
  have := hf_pos k
  rw [hf_succ]
  grind
theorem hf_8 (b : Nat) (h : 8 ≤ b) : hf (b - 8) = 256 * hf b := by
 have e := hf_add (b - 8) 8
 rw [Nat.sub_add_cancel h, show hf 8 = 1 / 256 by decide +kernel] at e
 rw [e]
 grind
theorem SerI.lt {x : Rat} {b n : Nat} {tl th sl sh : Rat} (h : SerI x b n tl th sl sh) (hb : 8 ≤ b) (hc : ¬ th ≤ hf (b - 8)) : n < b := by
 by_cases hn : n < b
 ·
  exact hn
 ·
  exfalso
  have h1 := h.t4
  have h2 := hf_anti (show b ≤ n by omega)
  have h3 := hf_pos b
  rw [hf_8 b hb] at hc
  grind
theorem nat_le {m n : Nat} (h : m ≤ n) : (((m : Nat) : Int) : Rat) ≤ (((n : Nat) : Int) : Rat) := Rat.intCast_le_intCast.2 (by omega)
structure SerE (x : Rat) (b : Nat) (L H : Rat) : Prop where
 lo : ∃ n0, ∀ N, n0 ≤ N → L ≤ Sx x N
 hi : ∀ N, Sx x N ≤ H
 one : 1 ≤ L
 le : L ≤ H
 wid : H ≤ L + 2048 * hf b
 top : H ≤ 7 / 4
theorem hf_200 {b : Nat} (h : 200 ≤ b) : 2048 * hf b ≤ 1 / 1000000 := by
 have h1 := hf_anti h
 have h2 : hf 200 ≤ 1 / 2048000000 := by decide +kernel
 grind
theorem SerI.done {x : Rat} {b n : Nat} {tl th sl sh : Rat} (h0 : 0 ≤ x) (h1 : x ≤ 1 / 2) (h : SerI x b n tl th sl sh) (hb : 200 ≤ b) (hb2 : b ≤ 300) (hn : n ≤ b) (hc : th ≤ hf (b - 8)) : SerE x b sl (sh + th) := by
 have hp := hf_pos b
 rw [hf_8 b (by omega)] at hc
 have hw : ((4 * n : Nat) : Int) * hf b ≤ (1200 : Rat) * hf b := by
  refine Rat.mul_le_mul_of_nonneg_right ?_ (Rat.le_of_lt hp)
  exact nat_le (show 4 * n ≤ 1200 by omega)
 have hs := hf_200 hb
 have hx := Sx_le h0 h1 n
 have ht := h.t0
 have ht1 := h.t1
 have ht2 := h.t2
 have h3 := h.s1
 have h4 := h.s2
 have h5 := h.s3
 refine ⟨⟨n, fun N hN => ?_⟩, fun N => ?_, h.s4, by grind, by grind, by grind⟩
 ·
  have := Sx_mono h0 hN
  grind
 ·
  by_cases hN : N ≤ n
  ·
   have := Sx_mono h0 hN
   grind
  ·
   have h6 := Sx_tail h0 h1 (show n ≤ N by omega)
   have h7 := tau_nonneg h0 N
   grind
def pw2 (a : Rat) : Nat → Rat
 | 0 => a
 | i + 1 => pw2 a i * pw2 a i
def cap : Nat → Rat
 | 0 => 7 / 4
 | 1 => 31 / 10
 | 2 => 10
 | 3 => 101
 | 4 => 10202
 | 5 => 104080900
 | 6 => 10833000000000000
 | _ => 162259276829213363391578010288128
structure PowE (y : Rat) (b i : Nat) (L H : Rat) : Prop where
 lo : ∃ n0, ∀ N, n0 ≤ N → L ≤ pw2 (Sx y N) i
 hi : ∀ N, pw2 (Sx y N) i ≤ H
 one : 1 ≤ L
 le : L ≤ H
 wid : H ≤ L * (1 + (((3 ^ i : Nat) : Int) : Rat) * (2048 * hf b))
 top : H ≤ cap i
theorem pw2_nonneg {a : Rat} (h : 0 ≤ a) : ∀ i, 0 ≤ pw2 a i := by
 intro i
 induction i with
 | zero => exact h
 | succ i ih => exact Rat.mul_nonneg ih ih
theorem dn_one (b : Nat) : dn 1 b = 1 := by
 unfold dn
 rw [Rat.one_mul]
 unfold tw
 rw [Rat.floor_intCast]
 have := hf_tw b
 unfold tw at this
 grind
theorem SerE.pow {x : Rat} {b : Nat} {L H : Rat} (h : SerE x b L H) (hb : 200 ≤ b) : PowE x b 0 L H := by
 refine ⟨h.lo, h.hi, h.one, h.le, ?_, h.top⟩
 have h1 := h.wid
 have h2 := h.one
 have h3 := hf_pos b
 have e : (((3 ^ 0 : Nat) : Int) : Rat) = 1 := rfl
 rw [e]
 have h4 := Rat.mul_le_mul_of_nonneg_right (c := 2048 * hf b) h2 (by grind)
 grind
theorem cap_le {i : Nat} (hi : i < 7) : cap i * cap i + 1 / 1000000 ≤ cap (i + 1) := by
 have h : i = 0 ∨ i = 1 ∨ i = 2 ∨ i = 3 ∨ i = 4 ∨ i = 5 ∨ i = 6 := by omega
 rcases h with rfl | rfl | rfl | rfl | rfl | rfl | rfl <;> decide +kernel
theorem Sx_pos {x : Rat} (h0 : 0 ≤ x) (N : Nat) : 0 ≤ Sx x N := by
 have := Sx_mono h0 (Nat.zero_le N)
 rw [show Sx x 0 = 1 from rfl] at this
 grind
theorem PowE.next {y : Rat} {b i : Nat} {L H : Rat} (h : PowE y b i L H) (h0 : 0 ≤ y) (hb : 200 ≤ b) (hi : i < 7) : PowE y b (i + 1) (dn (L * L) b) (up (H * H) b) := by
 have hp := hf_pos b
 have h2 := hf_200 hb
 have h1 := h.one
 have hle := h.le
 have d1 := dn_le (L * L) b
 have d2 := dn_gt (L * L) b
 have u1 := up_ge (H * H) b
 have u2 := up_lt (H * H) b
 have hL : 1 ≤ L * L := by
  have := mul_le_mul' h1 h1 (by grind) (by grind)
  grind
 have hLH : L * L ≤ H * H := mul_le_mul' hle hle (by grind) (by grind)
 have d3 := dn_mono hL b
 rw [dn_one] at d3
 refine ⟨?_, ?_, d3, by grind, ?_, ?_⟩
 ·
  obtain ⟨n0, hn⟩ := h.lo
  refine ⟨n0, fun N hN => ?_⟩
  have a := hn N hN
  have := mul_le_mul' a a (by grind) (by grind)
  rw [show pw2 (Sx y N) (i + 1) = pw2 (Sx y N) i * pw2 (Sx y N) i from rfl]
  grind
 ·
  intro N
  have a := h.hi N
  have c := pw2_nonneg (Sx_pos h0 N) i
  have := mul_le_mul' a a c (by grind)
  rw [show pw2 (Sx y N) (i + 1) = pw2 (Sx y N) i * pw2 (Sx y N) i from rfl]
  grind
 ·
  have hw := h.wid
  have hk1 : (1 : Rat) ≤ (((3 ^ i : Nat) : Int) : Rat) := nat_le (show 1 ≤ 3 ^ i from Nat.pow_pos (by decide))
  have hk2 : (((3 ^ i : Nat) : Int) : Rat) ≤ 1000 := nat_le (show 3 ^ i ≤ 1000 from Nat.le_trans (Nat.pow_le_pow_right (by decide) (show i ≤ 6 by omega)) (by decide))
  have hk3 : (((3 ^ (i + 1) : Nat) : Int) : Rat) = 3 * (((3 ^ i : Nat) : Int) : Rat) := by
   rw [Nat.pow_succ, Nat.mul_comm]
   simp
  rw [hk3]
  generalize (((3 ^ i : Nat) : Int) : Rat) = k at *
  generalize hq : k * (2048 * hf b) = r at *
  have hr0 : 2048 * hf b ≤ r := by
   have := Rat.mul_le_mul_of_nonneg_right (c := 2048 * hf b) hk1 (by grind)
   grind
  have hr1 : r ≤ 1 / 1000 := by
   have := Rat.mul_le_mul_of_nonneg_right (c := 2048 * hf b) hk2 (by grind)
   grind
  have e3 : 3 * k * (2048 * hf b) = 3 * r := by grind
  rw [e3]
  generalize hf b = e at *
  clear hq e3 hk1 hk2 hk3 h2
  have hHH : H * H ≤ (L * (1 + r)) * (L * (1 + r)) := mul_le_mul' hw hw (by grind) (by grind)
  have hrr : r * r ≤ (1 / 1000) * r := Rat.mul_le_mul_of_nonneg_right hr1 (by grind)
  have e4 : (L * (1 + r)) * (L * (1 + r)) = L * L + (2 * (L * L * r) + L * L * (r * r)) := by grind
  rw [e4] at hHH
  have hl1 : L * L * (r * r) ≤ L * L * ((1 / 1000) * r) := Rat.mul_le_mul_of_nonneg_left hrr (by grind)
  have hl2 : r ≤ L * L * r := by
   have := Rat.mul_le_mul_of_nonneg_right (c := r) hL (by grind)
   grind
  generalize L * L = A at *
  generalize H * H = B at *
  generalize dn A b = DA at *
  generalize up B b = UB at *
  have hl3 : A * ((1 / 1000) * r) = (1 / 1000) * (A * r) := by grind
  rw [hl3] at hl1
  have hd : (A - e) * (1 + 3 * r) ≤ DA * (1 + 3 * r) := Rat.mul_le_mul_of_nonneg_right (by grind) (by grind)
  have e5 : (A - e) * (1 + 3 * r) = A + 3 * (A * r) - e - 3 * (e * r) := by grind
  rw [e5] at hd
  have her : e * r ≤ e * (1 / 1000) := Rat.mul_le_mul_of_nonneg_left hr1 (by grind)
  generalize A * r = Ar at *
  generalize A * (r * r) = Arr at *
  generalize e * r = er at *
  grind
 ·
  have ht := h.top
  have hc := cap_le hi
  have := mul_le_mul' ht ht (by grind) (by grind)
  grind
def sm (f : Nat → Rat) : Nat → Rat
 | 0 => 0
 | n + 1 => sm f n + f n
theorem sm_congr {f g : Nat → Rat} {n : Nat} (h : ∀ i, i < n → f i = g i) : sm f n = sm g n := by
 induction n with
 | zero => rfl
 | succ n ih =>
  unfold sm
  rw [ih fun i hi => h i (by omega), h n (by omega)]
theorem sm_le {f g : Nat → Rat} {n : Nat} (h : ∀ i, i < n → f i ≤ g i) : sm f n ≤ sm g n := by
 induction n with
 | zero => exact Rat.le_refl
 | succ n ih =>
  unfold sm
  have := ih fun i hi => h i (by omega)
  have := h n (by omega)
  grind
theorem sm_mono {f : Nat → Rat} {n m : Nat} (h0 : ∀ i, 0 ≤ f i) (h : n ≤ m) : sm f n ≤ sm f m := by
 induction h with
 | refl => exact Rat.le_refl
 | step _ ih =>
  rename_i k _
  have := h0 k
  rw [show sm f (k + 1) = sm f k + f k from rfl]
  grind
theorem mul_cancel {k a b : Rat} (h : k ≠ 0) (e : k * a = k * b) : a = b := by
 have h1 : k⁻¹ * (k * a) = k⁻¹ * (k * b) := by rw [e]
 rw [← Rat.mul_assoc, ← Rat.mul_assoc, Rat.inv_mul_cancel _ h, Rat.one_mul, Rat.one_mul] at h1
 exact h1
theorem sm_add (f g : Nat → Rat) (n : Nat) : sm (fun i => f i + g i) n = sm f n + sm g n := by
 induction n with
 | zero => unfold sm; grind
 | succ n ih =>
  unfold sm
  rw [ih]
  grind
theorem sm_mulr (f : Nat → Rat) (c : Rat) (n : Nat) : sm (fun i => f i * c) n = sm f n * c := by
 induction n with
 | zero => unfold sm; grind
 | succ n ih =>
  unfold sm
  rw [ih]
  grind
theorem sm_head (f : Nat → Rat) (n : Nat) : sm f (n + 1) = f 0 + sm (fun i => f (i + 1)) n := by
 induction n with
 | zero => unfold sm; unfold sm; grind
 | succ n ih =>
  rw [show sm f (n + 1 + 1) = sm f (n + 1) + f (n + 1) from rfl, ih]
  rw [show sm (fun i => f (i + 1)) (n + 1) = sm (fun i => f (i + 1)) n + f (n + 1) from rfl]
  grind
theorem sm_rev (f : Nat → Rat) (n : Nat) : sm (fun i => f (n - i)) (n + 1) = sm f (n + 1) := by
 induction n with
 | zero => rfl
 | succ n ih =>
  rw [sm_head, show sm f (n + 1 + 1) = sm f (n + 1) + f (n + 1) from rfl, ← ih]
  have : sm (fun i => f (n + 1 - (i + 1))) (n + 1) = sm (fun i => f (n - i)) (n + 1) := sm_congr fun i _ => by rw [Nat.add_sub_add_right]
  rw [this, Nat.sub_zero]
  grind
theorem Sx_sm (x : Rat) (n : Nat) : Sx x n = sm (tau x) (n + 1) := by
 induction n with
 | zero => unfold sm sm; rw [show Sx x 0 = 1 from rfl, show tau x 0 = 1 from rfl]; decide +kernel
 | succ n ih => rw [show Sx x (n + 1) = Sx x n + tau x (n + 1) from rfl, ih]; rfl
theorem cast_pos (n : Nat) : (0 : Rat) < (((n + 1 : Nat) : Int) : Rat) := by
 have : ((0 : Int) : Rat) < (((n + 1 : Nat) : Int) : Rat) := Rat.intCast_lt_intCast.2 (by omega)
 exact this
theorem tau_mul (x : Rat) (n : Nat) : (((n + 1 : Nat) : Int) : Rat) * tau x (n + 1) = x * tau x n := by
 have := cast_pos n
 rw [show tau x (n + 1) = tau x n * (x * (1 / ((n + 1 : Nat) : Int))) from rfl]
 generalize (((n + 1 : Nat) : Int) : Rat) = k at *
 grind
def cv (x : Rat) (n : Nat) : Rat := sm (fun i => tau x i * tau x (n - i)) (n + 1)
theorem cv_succ (x : Rat) (n : Nat) : (((n + 1 : Nat) : Int) : Rat) * cv x (n + 1) = 2 * x * cv x n := by
 have h1 : cv x (n + 1) * (((n + 1 : Nat) : Int) : Rat) = sm (fun i => (((i : Nat) : Int) : Rat) * (tau x i * tau x (n + 1 - i))) (n + 2) + sm (fun i => (((n + 1 - i : Nat) : Int) : Rat) * (tau x i * tau x (n + 1 - i))) (n + 2) := by
  unfold cv
  rw [← sm_add, ← sm_mulr]
  refine sm_congr fun i hi => ?_
  have : (((n + 1 - i : Nat) : Int) : Rat) = (((n + 1 : Nat) : Int) : Rat) - (((i : Nat) : Int) : Rat) := by
   rw [← Rat.intCast_sub]
   congr 1
   omega
  rw [this]
  grind
 have h2 : sm (fun i => (((i : Nat) : Int) : Rat) * (tau x i * tau x (n + 1 - i))) (n + 2) = x * cv x n := by
  rw [sm_head]
  rw [show (((0 : Nat) : Int) : Rat) = 0 from rfl, Rat.zero_mul, Rat.zero_add, Rat.mul_comm x]
  unfold cv
  rw [← sm_mulr]
  refine sm_congr fun i hi => ?_
  have := tau_mul x i
  rw [Nat.add_sub_add_right, ← Rat.mul_assoc, this]
  grind
 have h3 : sm (fun i => (((n + 1 - i : Nat) : Int) : Rat) * (tau x i * tau x (n + 1 - i))) (n + 2) = sm (fun i => (((i : Nat) : Int) : Rat) * (tau x i * tau x (n + 1 - i))) (n + 2) := by
  rw [← sm_rev (fun i => (((i : Nat) : Int) : Rat) * (tau x i * tau x (n + 1 - i))) (n + 1)]
  refine sm_congr fun i hi => ?_
  rw [show n + 1 - (n + 1 - i) = i by omega]
  grind
 rw [Rat.mul_comm, h1, h3, h2]
 grind
theorem cv_eq (x : Rat) (n : Nat) : cv x n = tau (2 * x) n := by
 induction n with
 | zero => unfold cv sm sm; rw [show tau x 0 = 1 from rfl, show tau (2 * x) 0 = 1 from rfl]; decide +kernel
 | succ n ih =>
  have h1 := cv_succ x n
  have h2 := tau_mul (2 * x) n
  rw [ih] at h1
  have h3 := cast_pos n
  rw [← h2] at h1
  exact mul_cancel (fun e => by rw [e] at h3; exact Rat.lt_irrefl h3) h1
theorem tri (x : Rat) (K : Nat) : sm (cv x) K = sm (fun i => tau x i * sm (tau x) (K - i)) K := by
 induction K with
 | zero => rfl
 | succ K ih =>
  rw [show sm (cv x) (K + 1) = sm (cv x) K + cv x K from rfl, ih]
  have h1 : sm (fun i => tau x i * sm (tau x) (K + 1 - i)) (K + 1) = sm (fun i => tau x i * sm (tau x) (K - i)) (K + 1) + sm (fun i => tau x i * tau x (K - i)) (K + 1) := by
   rw [← sm_add]
   refine sm_congr fun i hi => ?_
   rw [show K + 1 - i = K - i + 1 by omega, show sm (tau x) (K - i + 1) = sm (tau x) (K - i) + tau x (K - i) from rfl]
   grind
  rw [h1, show sm (fun i => tau x i * sm (tau x) (K - i)) (K + 1) = sm (fun i => tau x i * sm (tau x) (K - i)) K + tau x K * sm (tau x) (K - K) from rfl, Nat.sub_self, show sm (tau x) 0 = 0 from rfl]
  unfold cv
  grind
theorem sq_ge {x : Rat} (h0 : 0 ≤ x) (K : Nat) : sm (tau (2 * x)) K ≤ sm (tau x) K * sm (tau x) K := by
 have e : sm (tau (2 * x)) K = sm (cv x) K := sm_congr fun i _ => (cv_eq x i).symm
 rw [e, tri, ← sm_mulr]
 refine sm_le fun i hi => ?_
 exact Rat.mul_le_mul_of_nonneg_left (sm_mono (tau_nonneg h0) (by omega)) (tau_nonneg h0 i)
theorem sq_le {x : Rat} (h0 : 0 ≤ x) (K : Nat) : sm (tau x) K * sm (tau x) K ≤ sm (tau (2 * x)) (2 * K) := by
 have e : sm (tau (2 * x)) (2 * K) = sm (cv x) (2 * K) := sm_congr fun i _ => (cv_eq x i).symm
 have hp : ∀ n, 0 ≤ sm (tau x) n := fun n => sm_mono (n := 0) (tau_nonneg h0) (Nat.zero_le n)
 rw [e, tri, ← sm_mulr]
 have h1 : sm (fun i => tau x i * sm (tau x) K) K ≤ sm (fun i => tau x i * sm (tau x) (2 * K - i)) K := sm_le fun i hi =>
  Rat.mul_le_mul_of_nonneg_left (sm_mono (tau_nonneg h0) (by omega)) (tau_nonneg h0 i)
 have h2 : sm (fun i => tau x i * sm (tau x) (2 * K - i)) K ≤ sm (fun i => tau x i * sm (tau x) (2 * K - i)) (2 * K) := sm_mono (fun i => Rat.mul_nonneg (tau_nonneg h0 i) (hp _)) (by omega)
 grind
theorem Sx_sq_ge {x : Rat} (h0 : 0 ≤ x) (N : Nat) : Sx (2 * x) N ≤ Sx x N * Sx x N := by
 rw [Sx_sm, Sx_sm]
 exact sq_ge h0 _
theorem Sx_sq_le {x : Rat} (h0 : 0 ≤ x) (N : Nat) : Sx x N * Sx x N ≤ Sx (2 * x) (2 * N + 1) := by
 rw [Sx_sm, Sx_sm]
 exact sq_le h0 _
def dbl (x : Rat) : Nat → Rat
 | 0 => x
 | i + 1 => 2 * dbl x i
theorem dbl_nonneg {x : Rat} (h : 0 ≤ x) (i : Nat) : 0 ≤ dbl x i := by
 induction i with
 | zero => exact h
 | succ i ih => unfold dbl; grind
theorem pw2_ge {y : Rat} (h0 : 0 ≤ y) (N : Nat) : ∀ i, Sx (dbl y i) N ≤ pw2 (Sx y N) i := by
 intro i
 induction i with
 | zero => exact Rat.le_refl
 | succ i ih =>
  have h1 := Sx_sq_ge (dbl_nonneg h0 i) N
  have h2 := Sx_pos (dbl_nonneg h0 i) N
  have h3 := mul_le_mul' ih ih h2 (by grind)
  rw [show pw2 (Sx y N) (i + 1) = pw2 (Sx y N) i * pw2 (Sx y N) i from rfl, show dbl y (i + 1) = 2 * dbl y i from rfl]
  grind
theorem pw2_le {y : Rat} (h0 : 0 ≤ y) (N : Nat) : ∀ i, ∃ M, pw2 (Sx y N) i ≤ Sx (dbl y i) M := by
 intro i
 induction i with
 | zero => exact ⟨N, Rat.le_refl⟩
 | succ i ih =>
  obtain ⟨M, hM⟩ := ih
  refine ⟨2 * M + 1, ?_⟩
  have h1 := Sx_sq_le (dbl_nonneg h0 i) M
  have h2 := pw2_nonneg (Sx_pos h0 N) i
  have h3 := mul_le_mul' hM hM h2 (by grind)
  rw [show pw2 (Sx y N) (i + 1) = pw2 (Sx y N) i * pw2 (Sx y N) i from rfl, show dbl y (i + 1) = 2 * dbl y i from rfl]
  grind
theorem dbl_half (x : Rat) (i : Nat) : dbl (x * hf i) i = x := by
 have : ∀ j z, dbl z j * hf j = z := by
  intro j
  induction j with
  | zero => intro z; rw [hf_zero]; unfold dbl; grind
  | succ j ih =>
   intro z
   have := ih z
   rw [hf_succ]
   unfold dbl
   grind
 have h1 := this i (x * hf i)
 have h2 := hf_pos i
 refine mul_cancel (k := hf i) (fun e => by rw [e] at h2; exact Rat.lt_irrefl h2) ?_
 rw [Rat.mul_comm, h1, Rat.mul_comm]
structure ExpB (x : Rat) (L H : Rat) : Prop where
 lo : ∃ N, L ≤ Sx x N
 hi : ∀ N, Sx x N ≤ H
theorem PowE.expB {x : Rat} {b i : Nat} {L H : Rat} (h0 : 0 ≤ x) (h : PowE (x * hf i) b i L H) : ExpB x L H := by
 have hy : 0 ≤ x * hf i := Rat.mul_nonneg h0 (Rat.le_of_lt (hf_pos i))
 constructor
 ·
  obtain ⟨n0, hn⟩ := h.lo
  obtain ⟨M, hM⟩ := pw2_le hy n0 i
  rw [dbl_half] at hM
  exact ⟨M, Rat.le_trans (hn n0 (Nat.le_refl _)) hM⟩
 ·
  intro N
  have := pw2_ge hy N i
  rw [dbl_half] at this
  exact Rat.le_trans this (h.hi N)
end Go.Proofs.YtdohmppildfjhaaGreatDoor
