import Derived.Test.YtfkpfhjfjnnbbaaDoorRa
import Derived.Test.YtfkpfhjfjnnbbaaDoorE8
import Derived.Test.YtfkpfhjfjnnbbaaDoorE6
import Derived.Test.YtfkpfhjfjnnbbaaDoorN1
/-! The prime 2 to the 61 less 1: plain facts. -/
namespace Go.Proofs.YtfkpfhjfjnnbbaaDoor
open Go.Eng
set_option linter.unusedSimpArgs false
set_option linter.unusedVariables false
/-- A product of two words, by halves. -/
theorem mul_parts (x1 x0 y1 y0 K : Nat) : (K * x1 + x0) * (K * y1 + y0) = K * K * (x1 * y1) + K * (x1 * y0 + x0 * y1) + x0 * y0 := by
  rw [Nat.add_mul, Nat.mul_add, Nat.mul_add, Nat.mul_add]
  have e1 : K * x1 * (K * y1) = K * K * (x1 * y1) := by simp only [Nat.mul_assoc, Nat.mul_left_comm]
  have e2 : K * x1 * y0 = K * (x1 * y0) := by rw [Nat.mul_assoc]
  have e3 : x0 * (K * y1) = K * (x0 * y1) := by rw [Nat.mul_left_comm]
  rw [e1, e2, e3]
  omega
theorem mul_hi {x y : Nat} (hx : x < 18446744073709551616) (hy : y < 18446744073709551616) :
    x / 4294967296 * (y / 4294967296) + (x / 4294967296 * (y % 4294967296) + x % 4294967296 * (y % 4294967296) / 4294967296) / 4294967296 + ((x / 4294967296 * (y % 4294967296) + x % 4294967296 * (y % 4294967296) / 4294967296) % 4294967296 + x % 4294967296 * (y / 4294967296)) / 4294967296 = x * y / 18446744073709551616 := by
  have h := mul_parts (x / 4294967296) (x % 4294967296) (y / 4294967296) (y % 4294967296) 4294967296
  rw [Nat.div_add_mod, Nat.div_add_mod] at h
  rw [h]
  generalize x / 4294967296 * (y / 4294967296) = p
  generalize x / 4294967296 * (y % 4294967296) = q
  generalize x % 4294967296 * (y / 4294967296) = r
  generalize x % 4294967296 * (y % 4294967296) = s
  omega
def pr : Nat := 2305843009213693951
theorem mers (x : Nat) : (x % 2305843009213693952 + x / 2305843009213693952) % 2305843009213693951 = x % 2305843009213693951 := by
  omega
/-! ### Powers modulo a number; a prime by its divisors' orders -/
def IsPr (p : Nat) : Prop := 2 ≤ p ∧ ∀ d, d ∣ p → d = 1 ∨ d = p
theorem IsPr.dvd_mul {p a b : Nat} (hp : IsPr p) (h : p ∣ a * b) : p ∣ a ∨ p ∣ b := by
  rcases hp.2 (Nat.gcd p a) (Nat.gcd_dvd_left p a) with h1 | h1
  · exact .inr (Nat.Coprime.dvd_of_dvd_mul_left h1 h)
  · exact .inl (h1 ▸ Nat.gcd_dvd_right p a)
/-- Ways to choose. -/
def chs : Nat → Nat → Nat
  | _, 0 => 1
  | 0, _ + 1 => 0
  | n + 1, k + 1 => chs n k + chs n (k + 1)
theorem chs_gt : ∀ n k, n < k → chs n k = 0
  | 0, 0, h => by omega
  | 0, _ + 1, _ => rfl
  | n + 1, 0, h => by omega
  | n + 1, k + 1, h => by
    show chs n k + chs n (k + 1) = 0
    rw [chs_gt n k (by omega), chs_gt n (k + 1) (by omega)]
theorem chs_self : ∀ n, chs n n = 1
  | 0 => rfl
  | n + 1 => by
    show chs n n + chs n (n + 1) = 1
    rw [chs_self n, chs_gt n (n + 1) (by omega)]
theorem chs_mul : ∀ n k, (k + 1) * chs (n + 1) (k + 1) = (n + 1) * chs n k
  | 0, 0 => rfl
  | 0, k + 1 => by
    show (k + 2) * (chs 0 (k + 1) + chs 0 (k + 2)) = 1 * chs 0 (k + 1)
    simp [chs]
  | n + 1, 0 => by
    have := chs_mul n 0
    show 1 * (chs (n + 1) 0 + chs (n + 1) 1) = (n + 2) * chs (n + 1) 0
    have e : chs (n + 1) 1 = n + 1 := by
      have h : 1 * chs (n + 1) 1 = (n + 1) * chs n 0 := this
      cases n <;> simp [chs] at h ⊢ <;> omega
    have e0 : chs (n + 1) 0 = 1 := rfl
    rw [e, e0]; omega
  | n + 1, k + 1 => by
    have h1 := chs_mul n k
    have h2 := chs_mul n (k + 1)
    show (k + 2) * (chs (n + 1) (k + 1) + chs (n + 1) (k + 2)) = (n + 2) * (chs n k + chs n (k + 1))
    have e : chs (n + 1) (k + 1) = chs n k + chs n (k + 1) := rfl
    rw [Nat.mul_add, h2, show k + 2 = (k + 1) + 1 from rfl, Nat.add_mul, h1, e, Nat.mul_add, Nat.one_mul, show n + 2 = (n + 1) + 1 from rfl, Nat.add_mul (n + 1), Nat.one_mul, Nat.mul_add]
    omega
/-- A sum of the first terms. -/
def sumT (f : Nat → Nat) : Nat → Nat
  | 0 => 0
  | n + 1 => sumT f n + f n
theorem sumT_congr {f g : Nat → Nat} : ∀ n, (∀ i, i < n → f i = g i) → sumT f n = sumT g n
  | 0, _ => rfl
  | n + 1, h => by
    show sumT f n + f n = sumT g n + g n
    rw [sumT_congr n (fun i hi => h i (by omega)), h n (by omega)]
theorem sumT_shift (f : Nat → Nat) : ∀ n, sumT f (n + 1) = f 0 + sumT (fun i => f (i + 1)) n
  | 0 => by simp [sumT]
  | n + 1 => by
    show sumT f (n + 1) + f (n + 1) = f 0 + (sumT (fun i => f (i + 1)) n + f (n + 1))
    rw [sumT_shift f n]; omega
theorem sumT_add (f g : Nat → Nat) : ∀ n, sumT (fun i => f i + g i) n = sumT f n + sumT g n
  | 0 => rfl
  | n + 1 => by
    show sumT (fun i => f i + g i) n + (f n + g n) = sumT f n + f n + (sumT g n + g n)
    rw [sumT_add f g n]; omega
theorem sumT_mul (a : Nat) (f : Nat → Nat) : ∀ n, sumT (fun i => a * f i) n = a * sumT f n
  | 0 => rfl
  | n + 1 => by
    show sumT (fun i => a * f i) n + a * f n = a * (sumT f n + f n)
    rw [sumT_mul a f n, Nat.mul_add]
theorem binom (a : Nat) : ∀ n, (a + 1) ^ n = sumT (fun k => chs n k * a ^ k) (n + 1)
  | 0 => by simp [sumT, chs]
  | n + 1 => by
    rw [Nat.pow_succ, binom a n, Nat.mul_add, Nat.mul_one, sumT_shift (fun k => chs (n + 1) k * a ^ k) (n + 1)]
    have e1 : sumT (fun i => chs (n + 1) (i + 1) * a ^ (i + 1)) (n + 1) = sumT (fun i => a * (chs n i * a ^ i) + chs n (i + 1) * a ^ (i + 1)) (n + 1) := sumT_congr _ fun i _ => by
      show (chs n i + chs n (i + 1)) * a ^ (i + 1) = _
      rw [Nat.add_mul, Nat.pow_succ, Nat.mul_comm a, Nat.mul_assoc]
    have e2 : sumT (fun k => chs n k * a ^ k) (n + 1) = 1 + sumT (fun i => chs n (i + 1) * a ^ (i + 1)) n := by
      rw [sumT_shift]
      cases n <;> simp [chs]
    have e3 : sumT (fun i => chs n (i + 1) * a ^ (i + 1)) (n + 1) = sumT (fun i => chs n (i + 1) * a ^ (i + 1)) n := by
      show _ + chs n (n + 1) * _ = _
      rw [chs_gt n (n + 1) (by omega)]; simp
    rw [e1, sumT_add, sumT_mul, e3]
    have e4 : chs (n + 1) 0 * a ^ 0 = 1 := by simp [chs]
    rw [e4, Nat.mul_comm _ a]
    omega
theorem sumT_dvd {p : Nat} {f : Nat → Nat} : ∀ n, (∀ i, i < n → p ∣ f i) → p ∣ sumT f n
  | 0, _ => Nat.dvd_zero _
  | n + 1, h => Nat.dvd_add (sumT_dvd n fun i hi => h i (by omega)) (h n (by omega))
theorem chs_dvd {p k : Nat} (hp : IsPr p) (h0 : 0 < k) (hk : k < p) : p ∣ chs p k := by
  obtain ⟨m, rfl⟩ : ∃ m, p = m + 1 := ⟨p - 1, by have := hp.1; omega⟩
  obtain ⟨j, rfl⟩ : ∃ j, k = j + 1 := ⟨k - 1, by omega⟩
  have h := chs_mul m j
  rcases hp.dvd_mul (show m + 1 ∣ (j + 1) * chs (m + 1) (j + 1) by rw [h]; exact Nat.dvd_mul_right _ _) with h1 | h1
  · have := Nat.le_of_dvd (by omega) h1
    omega
  · exact h1
/-- To the p it is the same, modulo a prime p. -/
theorem pow_p {p : Nat} (hp : IsPr p) : ∀ a, a ^ p % p = a % p
  | 0 => by
    have := hp.1
    rw [Nat.zero_pow (by omega)]
  | a + 1 => by
    have ih := pow_p hp a
    obtain ⟨m, rfl⟩ : ∃ m, p = m + 1 := ⟨p - 1, by have := hp.1; omega⟩
    have hb := binom a (m + 1)
    have e : sumT (fun k => chs (m + 1) k * a ^ k) (m + 1 + 1) = 1 + sumT (fun k => chs (m + 1) (k + 1) * a ^ (k + 1)) m + a ^ (m + 1) := by
      show sumT (fun k => chs (m + 1) k * a ^ k) (m + 1) + chs (m + 1) (m + 1) * a ^ (m + 1) = _
      rw [chs_self, sumT_shift]
      simp [chs]
    have hd : m + 1 ∣ sumT (fun k => chs (m + 1) (k + 1) * a ^ (k + 1)) m := sumT_dvd m fun i hi => Nat.dvd_mul_right_of_dvd (chs_dvd hp (by omega) (by omega)) _
    rw [hb, e]
    obtain ⟨c, hc⟩ := hd
    rw [hc, show 1 + (m + 1) * c + a ^ (m + 1) = (1 + a ^ (m + 1)) + (m + 1) * c by omega, Nat.add_mul_mod_self_left, Nat.add_mod, ih, ← Nat.add_mod, Nat.add_comm]
theorem fermat {p a : Nat} (hp : IsPr p) (ha : a % p ≠ 0) : a ^ (p - 1) % p = 1 := by
  have h := pow_p hp a
  obtain ⟨m, rfl⟩ : ∃ m, p = m + 1 := ⟨p - 1, by have := hp.1; omega⟩
  have hm := hp.1
  rw [Nat.add_sub_cancel]
  have h1 : (m + 1) ∣ a * (a ^ m - 1) ∨ a = 0 := by
    rcases Nat.eq_zero_or_pos a with h0 | h0
    · exact .inr h0
    · left
      have hpos : 1 ≤ a ^ m := Nat.pow_pos h0
      rw [Nat.mul_sub, Nat.mul_one, ← Nat.pow_succ']
      exact Nat.dvd_of_mod_eq_zero (Nat.sub_mod_eq_zero_of_mod_eq h)
  rcases h1 with h1 | h1
  · rcases hp.dvd_mul h1 with h2 | h2
    · exact absurd (Nat.mod_eq_zero_of_dvd h2) ha
    · obtain ⟨c, hc⟩ := h2
      have hpos : 1 ≤ a ^ m := Nat.pow_pos (Nat.pos_of_ne_zero fun e => ha (by subst e; simp))
      have e : a ^ m = 1 + (m + 1) * c := by omega
      rw [e, Nat.add_mul_mod_self_left, Nat.mod_eq_of_lt (by omega)]
  · subst h1
    exact absurd (Nat.zero_mod _) ha
/-! ### Orders -/
theorem pow_mod_one {p a m : Nat} (hp : 1 < p) (h : a ^ m % p = 1) (k : Nat) : a ^ (m * k) % p = 1 := by
  rw [Nat.pow_mul, Nat.pow_mod, h, Nat.one_pow, Nat.mod_eq_of_lt hp]
/-- Where two powers are 1, so is that of their greatest common divisor. -/
theorem pow_gcd {p a : Nat} (hp : 1 < p) : ∀ m n, a ^ m % p = 1 → a ^ n % p = 1 → a ^ Nat.gcd m n % p = 1 := by
  intro m
  induction m using Nat.strongRecOn with
  | _ m ih =>
    intro n hm hn
    rcases Nat.eq_zero_or_pos m with h0 | h0
    · subst h0
      rw [Nat.gcd_zero_left]; exact hn
    · rw [Nat.gcd_rec]
      refine ih (n % m) (Nat.mod_lt _ h0) m ?_ hm
      have e : a ^ n = a ^ (m * (n / m)) * a ^ (n % m) := by rw [← Nat.pow_add, Nat.div_add_mod]
      rw [e, Nat.mul_mod, pow_mod_one hp hm, Nat.one_mul, Nat.mod_mod] at hn
      exact hn
/-- A power modulo a number, by squares. -/
def pwm (a m : Nat) : Nat → Nat → Nat
  | 0, _ => 1 % m
  | f + 1, e => if e = 0 then 1 % m else let h := pwm a m f (e / 2); if e % 2 = 1 then h * h % m * a % m else h * h % m
theorem pwm_eq (a m : Nat) : ∀ f e, e < 2 ^ f → pwm a m f e = a ^ e % m
  | 0, e, h => by
    obtain rfl : e = 0 := by simpa using h
    rfl
  | f + 1, e, h => by
    have ih := pwm_eq a m f (e / 2) (by rw [Nat.pow_succ] at h; omega)
    unfold pwm
    by_cases h0 : e = 0
    · subst h0; simp
    · rw [if_neg h0]
      simp only [ih]
      have e2 : a ^ (e / 2) % m * (a ^ (e / 2) % m) % m = a ^ (2 * (e / 2)) % m := by
        rw [← Nat.mul_mod, ← Nat.pow_add, show e / 2 + e / 2 = 2 * (e / 2) by omega]
      by_cases h1 : e % 2 = 1
      · rw [if_pos h1, e2, Nat.mod_mul_mod, ← Nat.pow_succ, show (2 * (e / 2)).succ = e by omega]
      · rw [if_neg h1, e2, show 2 * (e / 2) = e by omega]
/-- The least divisor of a number that is none of a prime. -/
theorem least_pr {n : Nat} (hn : 2 ≤ n) : ∃ p, IsPr p ∧ p ∣ n ∧ (p = n ∨ p * p ≤ n) := by
  induction n using Nat.strongRecOn with
  | _ n ih =>
    by_cases h : IsPr n
    · exact ⟨n, h, Nat.dvd_refl n, .inl rfl⟩
    · obtain ⟨d, hd, h1, hdn⟩ : ∃ d, d ∣ n ∧ d ≠ 1 ∧ d ≠ n := by
        refine Classical.byContradiction fun hne => h ⟨hn, fun d hd => Classical.byContradiction fun hx => hne ⟨d, hd, ?_, ?_⟩⟩
        · exact fun e => hx (.inl e)
        · exact fun e => hx (.inr e)
      obtain ⟨e, rfl⟩ := hd
      have hd0 : d ≠ 0 := fun e0 => by subst e0; simp at hn
      have he0 : e ≠ 0 := fun e0 => by subst e0; simp at hn
      have he1 : e ≠ 1 := fun e0 => by subst e0; simp at hdn
      rcases Nat.le_total d e with hle | hle
      · have hlt : d < d * e := by
          have := Nat.mul_le_mul_left d (show 2 ≤ e by omega)
          omega
        obtain ⟨p, p1, p2, p3⟩ := ih d hlt (by omega)
        have hpd := Nat.le_of_dvd (by omega) p2
        exact ⟨p, p1, Nat.dvd_mul_right_of_dvd p2 e, .inr (Nat.le_trans (Nat.mul_le_mul hpd hpd) (Nat.mul_le_mul_left d hle))⟩
      · have hlt : e < d * e := by
          have := Nat.mul_le_mul_right e (show 2 ≤ d by omega)
          omega
        obtain ⟨p, p1, p2, p3⟩ := ih e hlt (by omega)
        have hpd := Nat.le_of_dvd (by omega) p2
        exact ⟨p, p1, Nat.dvd_mul_left_of_dvd p2 d, .inr (Nat.le_trans (Nat.mul_le_mul hpd hpd) (Nat.mul_le_mul_right e hle))⟩
def noDiv (q : Nat) : Nat → Bool
  | 0 => true
  | 1 => true
  | 2 => true
  | d + 1 => (q % d != 0) && noDiv q d
theorem noDiv_spec {q : Nat} : ∀ n, noDiv q n = true → ∀ d, d < n → 2 ≤ d → q % d ≠ 0
  | 0, _, d, h, _ => by omega
  | 1, _, d, h, h2 => by omega
  | 2, _, d, h, h2 => by omega
  | n + 3, hn, d, h, h2 => by
    simp only [noDiv, Bool.and_eq_true, bne_iff_ne] at hn
    rcases Nat.lt_or_ge d (n + 2) with h' | h'
    · exact noDiv_spec (n + 2) hn.2 d h' h2
    · obtain rfl : d = n + 2 := by omega
      exact hn.1
theorem small_pr {q : Nat} (h2 : 2 ≤ q) (hb : noDiv q q = true) : IsPr q := by
  have h := noDiv_spec q hb
  refine ⟨h2, fun d hd => ?_⟩
  have hle := Nat.le_of_dvd (by omega) hd
  rcases Nat.lt_or_ge d q with hlt | hge
  · rcases Nat.lt_or_ge d 2 with h' | h'
    · have : d ≠ 0 := fun e => by
        subst e
        have := Nat.eq_zero_of_zero_dvd hd
        omega
      exact .inl (by omega)
    · exact absurd (Nat.mod_eq_zero_of_dvd hd) (h d hlt h')
  · exact .inr (by omega)
/-- An order's factor divides what is below a prime divisor. -/
theorem ord_dvd {N p a q M : Nat} (hp : IsPr p) (hpN : p ∣ N) (hq : IsPr q) (hM : N - 1 = q * M) (h1 : a ^ (N - 1) % N = 1) (hN : 1 < N) (hg : Nat.gcd (a ^ M % N + (N - 1)) N = 1) : q ∣ p - 1 := by
  have hp1 : 1 < p := hp.1
  have hmod : ∀ x, x % N % p = x % p := fun x => Nat.mod_mod_of_dvd x hpN
  have ha1 : a ^ (N - 1) % p = 1 := by rw [← hmod, h1, Nat.mod_eq_of_lt hp1]
  have hap : a % p ≠ 0 := fun h0 => by
    have hpos : 0 < N - 1 := by omega
    rw [Nat.pow_mod, h0, Nat.zero_pow hpos, Nat.zero_mod] at ha1
    omega
  have hf := fermat hp hap
  have hgc := pow_gcd hp1 _ _ ha1 hf
  rcases hq.2 (Nat.gcd q (p - 1)) (Nat.gcd_dvd_left _ _) with h | h
  · exfalso
    have hd : Nat.gcd (N - 1) (p - 1) ∣ M := by
      have h3 : Nat.gcd (N - 1) (p - 1) ∣ q * M := by rw [← hM]; exact Nat.gcd_dvd_left _ _
      have h4 : Nat.gcd (Nat.gcd (N - 1) (p - 1)) q = 1 := by
        have : Nat.gcd (Nat.gcd (N - 1) (p - 1)) q ∣ Nat.gcd q (p - 1) := Nat.dvd_gcd (Nat.gcd_dvd_right _ _) (Nat.dvd_trans (Nat.gcd_dvd_left _ _) (Nat.gcd_dvd_right _ _))
        rw [h] at this
        exact Nat.dvd_one.1 this
      exact Nat.Coprime.dvd_of_dvd_mul_left h4 h3
    obtain ⟨c, hc⟩ := hd
    have hM1 : a ^ M % p = 1 := by rw [hc]; exact pow_mod_one hp1 hgc c
    have hdv : p ∣ a ^ M % N + (N - 1) := by
      apply Nat.dvd_of_mod_eq_zero
      rw [Nat.add_mod, hmod, hM1]
      obtain ⟨k, hk⟩ := hpN
      have : (1 + (N - 1) % p) % p = (1 + (N - 1)) % p := by rw [Nat.add_mod 1 (N - 1), Nat.mod_eq_of_lt hp1]
      rw [this, show 1 + (N - 1) = N by omega, hk, Nat.mul_mod_right]
    have := Nat.dvd_gcd hdv hpN
    rw [hg] at this
    have := Nat.le_of_dvd (by omega) this
    omega
  · exact h ▸ Nat.gcd_dvd_right _ _
theorem ord_pwm {N p a q M : Nat} (hp : IsPr p) (hpN : p ∣ N) (hq : IsPr q) (hM : N - 1 = q * M) (h1 : pwm a N 62 (N - 1) = 1) (hN : 1 < N) (h62 : N - 1 < 2 ^ 62) (hg : Nat.gcd (pwm a N 62 M + (N - 1)) N = 1) : q ∣ p - 1 := by
  have hM2 : M ≤ N - 1 := by
    rw [hM]
    exact Nat.le_mul_of_pos_left M (by have := hq.1; omega)
  rw [pwm_eq a N 62 _ h62] at h1
  rw [pwm_eq a N 62 _ (Nat.lt_of_le_of_lt hM2 h62)] at hg
  exact ord_dvd hp hpN hq hM h1 hN hg
theorem pr_prime : IsPr 2305843009213693951 := by
  obtain ⟨p, hp, hpN, h⟩ := least_pr (n := 2305843009213693951) (by decide)
  rcases h with rfl | h
  · exact hp
  · exfalso
    have q61 : 61 ∣ p - 1 := ord_pwm (a := 37) (q := 61) (M := 37800705069076950) hp hpN (small_pr (by decide) (by decide +kernel)) (by decide) (by decide +kernel) (by decide) (by decide) (by decide +kernel)
    have q151 : 151 ∣ p - 1 := ord_pwm (a := 37) (q := 151) (M := 15270483504726450) hp hpN (small_pr (by decide) (by decide +kernel)) (by decide) (by decide +kernel) (by decide) (by decide) (by decide +kernel)
    have q331 : 331 ∣ p - 1 := ord_pwm (a := 37) (q := 331) (M := 6966293079195450) hp hpN (small_pr (by decide) (by decide +kernel)) (by decide) (by decide +kernel) (by decide) (by decide) (by decide +kernel)
    have q1321 : 1321 ∣ p - 1 := ord_pwm (a := 37) (q := 1321) (M := 1745528394559950) hp hpN (small_pr (by decide) (by decide +kernel)) (by decide) (by decide +kernel) (by decide) (by decide) (by decide +kernel)
    have c1 : 61 * 151 ∣ p - 1 := Nat.Coprime.mul_dvd_of_dvd_of_dvd (by decide) q61 q151
    have c2 : 61 * 151 * 331 ∣ p - 1 := Nat.Coprime.mul_dvd_of_dvd_of_dvd (by decide) c1 q331
    have c3 : 61 * 151 * 331 * 1321 ∣ p - 1 := Nat.Coprime.mul_dvd_of_dvd_of_dvd (by decide) c2 q1321
    have hp2 := hp.1
    have hle := Nat.le_of_dvd (Nat.sub_pos_of_lt hp2) c3
    clear q61 q151 q331 q1321 c1 c2 c3 hpN hp
    rw [show 61 * 151 * 331 * 1321 = 4027518961 from rfl] at hle
    have hp3 : 4027518961 ≤ p := by omega
    have := Nat.mul_le_mul hp3 hp3
    omega
theorem inv_gen {p n : Nat} (hp : IsPr p) (h : n % p ≠ 0) : n * n ^ (p - 2) % p = 1 := by
  have h1 := fermat hp h
  have h2 := hp.1
  rw [show p - 1 = (p - 2) + 1 by omega, Nat.pow_succ, Nat.mul_comm] at h1
  exact h1
theorem pr_is : IsPr pr := pr_prime
/-- What is not 0 modulo the prime has the power of the prime less 2 as its inverse. -/
theorem inv_pr {n : Nat} (h : n % pr ≠ 0) : n * n ^ (pr - 2) % pr = 1 := inv_gen pr_is h
end Go.Proofs.YtfkpfhjfjnnbbaaDoor

/-! math/bits.Mul64. -/
namespace Go.Proofs.YtfkpfhjfjnnbbaaDoor
open Go.Eng Go.Vx
set_option linter.unusedSimpArgs false
set_option linter.unusedVariables false
set_option maxRecDepth 100000
theorem mul64_fn {x y : Nat} (hx : x < 18446744073709551616) (hy : y < 18446744073709551616) : Fn1 Tryd.prog 66 [.lit (.int .u64 x), .lit (.int .u64 y)] [] (.tup [.lit (.int .u64 ((x * y / 18446744073709551616 : Nat) : Int)), .lit (.int .u64 ((x * y % 18446744073709551616 : Nat) : Int))]) [] := by
  refine fn1N_of pl66 (by kernel_rfl) Tryd.call66 Tryd.func66 rfl (by kernel_rfl) rfl [.tmp 4, .tmp 5] (by kernel_rfl) fun Q hQ => ?_
  have hhi := mul_hi hx hy
  have hlo := wrap_nat (x * y)
  rw [show (2 : Nat) ^ 64 = 18446744073709551616 from rfl] at hlo
  have hxy : (x : Int) * (y : Int) = ((x * y : Nat) : Int) := by simp
  have e1 : (x : Int) % 4294967296 = ((x % 4294967296 : Nat) : Int) := by omega
  have e2 : (x : Int) / 4294967296 = ((x / 4294967296 : Nat) : Int) := by omega
  have e3 : (y : Int) % 4294967296 = ((y % 4294967296 : Nat) : Int) := by omega
  have e4 : (y : Int) / 4294967296 = ((y / 4294967296 : Nat) : Int) := by omega
  have l1 : x % 4294967296 ≤ 4294967295 := by omega
  have l2 : x / 4294967296 ≤ 4294967295 := by omega
  have l3 : y % 4294967296 ≤ 4294967295 := by omega
  have l4 : y / 4294967296 ≤ 4294967295 := by omega
  have p1 := Nat.mul_le_mul l1 l3
  have p2 := Nat.mul_le_mul l1 l4
  have p3 := Nat.mul_le_mul l2 l3
  have p4 := Nat.mul_le_mul l2 l4
  generalize x % 4294967296 = x0 at *
  generalize x / 4294967296 = x1 at *
  generalize y % 4294967296 = y0 at *
  generalize y / 4294967296 = y1 at *
  have m1 : (x0 : Int) * (y0 : Int) = ((x0 * y0 : Nat) : Int) := by simp
  have m2 : (x1 : Int) * (y0 : Int) = ((x1 * y0 : Nat) : Int) := by simp
  have m3 : (x0 : Int) * (y1 : Int) = ((x0 * y1 : Nat) : Int) := by simp
  have m4 : (x1 : Int) * (y1 : Int) = ((x1 * y1 : Nat) : Int) := by simp
  generalize x0 * y0 = s at *
  generalize x1 * y0 = q at *
  generalize x0 * y1 = r at *
  generalize x1 * y1 = p at *
  generalize x * y = z at *
  have d1 : (s : Int) / 4294967296 = ((s / 4294967296 : Nat) : Int) := by omega
  have d2 : ((q : Int) + ((s / 4294967296 : Nat) : Int)) % 4294967296 = (((q + s / 4294967296) % 4294967296 : Nat) : Int) := by omega
  have d3 : ((q : Int) + ((s / 4294967296 : Nat) : Int)) / 4294967296 = (((q + s / 4294967296) / 4294967296 : Nat) : Int) := by omega
  have d4 : ((((q + s / 4294967296) % 4294967296 : Nat) : Int) + (r : Int)) / 4294967296 = ((((q + s / 4294967296) % 4294967296 + r) / 4294967296 : Nat) : Int) := by omega
  have d5 : (p : Int) + (((q + s / 4294967296) / 4294967296 : Nat) : Int) + ((((q + s / 4294967296) % 4294967296 + r) / 4294967296 : Nat) : Int) = ((z / 18446744073709551616 : Nat) : Int) := by omega
  have hz : z / 18446744073709551616 < 18446744073709551616 := by omega
  simp (maxSteps := 1000000) (disch := (first | omega | (simp only [lnA, List.length_map, List.length_range, true_and, and_true]; (try omega); done) | fail)) only [go_sem, hxy, hlo, e1, e2, e3, e4, m1, m2, m3, m4, d1, d2, d3, d4, d5, Int.reduceEq, Int.reduceToNat, Nat.reduceAdd, Nat.reduceMul, Nat.reduceEqDiff, ↓reduceIte]
  exact endW [] hQ
end Go.Proofs.YtfkpfhjfjnnbbaaDoor

/-! Package nat: products. -/
namespace Go.Proofs.YtfkpfhjfjnnbbaaDoor
open Go.Eng Go.Vx
set_option linter.unusedSimpArgs false
set_option linter.unusedVariables false
set_option maxRecDepth 100000
theorem mul_digit {p u c : Nat} (hp : p ≤ 18446744073709551615 * 18446744073709551615) (hu : u < 18446744073709551616) (hc : c < 18446744073709551616) :
    ((p % 18446744073709551616 + u + 0) % 18446744073709551616 + c + 0) % 18446744073709551616 = (u + c + p) % 18446744073709551616 ∧
    p / 18446744073709551616 + (p % 18446744073709551616 + u + 0) / 18446744073709551616 + ((p % 18446744073709551616 + u + 0) % 18446744073709551616 + c + 0) / 18446744073709551616 = (u + c + p) / 18446744073709551616 ∧
    (u + c + p) / 18446744073709551616 < 18446744073709551616 := by
  have e : 18446744073709551615 * 18446744073709551615 = 340282366920938463426481119284349108225 := by decide
  rw [e] at hp
  refine ⟨?_, ?_, ?_⟩ <;> omega
set_option maxHeartbeats 4000000 in
theorem nmul_fn {a b : Nat} (ha : (wg a).length ≤ 1000000) (hb : (wg b).length ≤ 1000000) : Fn1 Tryd.prog 21 [NV a, NV b] [] (NV (a * b)) [] := by
  refine fn1N_of pl21 (by kernel_rfl) Tryd.call21 Tryd.func21 rfl (by kernel_rfl) rfl [.cell 4 26] (by kernel_rfl) fun Q hQ => ?_
  have hal := wg_lt a
  have hbl := wg_lt b
  have hav := wg_val a
  have hbv := wg_val b
  have hnA := nl_len (wg a)
  have hnB := nl_len (wg b)
  simp (maxSteps := 1000000) (disch := (first | omega | (simp only [lnA, List.length_map, List.length_range, true_and, and_true]; (try omega); done) | fail)) only [go_sem, Int.reduceEq, Int.reduceToNat, Nat.reduceAdd, Nat.reduceMul, Nat.reduceEqDiff, ↓reduceIte]
  refine LoopV_of (X := Nat × List Nat) (st := fun z => ([(2, .ref 0 0 0 0), (3, .ref 1 0 0 0), (4, .ref 2 0 0 0), (5, .sl 3 1 0 ((wg a).length + (wg b).length)), (23, .row 1 ((nl (wg a)).map (ie .u64))), (24, .lit (.int .i64 ((wg a).length : Int))), (25, .lit (.int .i64 (z.1 : Int)))],
      [some (.cells [.row 1 ((nl (wg a)).map (ie .u64))]), some (.cells [.row 1 ((nl (wg b)).map (ie .u64))]), some (.cells [.lit (.slice none 0 0)]), some (.row 1 ((nl z.2).map (ie .u64)))]))
    (inv := fun z => z.1 ≤ (wg a).length ∧ z.2.length = (wg a).length + (wg b).length ∧ (∀ d ∈ z.2, d < 18446744073709551616) ∧ valB 18446744073709551616 z.2 = valB 18446744073709551616 ((wg a).take z.1) * b ∧ ∀ j, z.1 + (wg b).length ≤ j → z.2.getD j 0 = 0)
    (m := fun z => (wg a).length - z.1) (0, List.replicate ((wg a).length + (wg b).length) 0) [some 0, some 1, some 2, some 3] rfl (by simp only [← nl_rep]; (simp (disch := (first | omega | (simp only [lnA, List.length_map, List.length_range, true_and, and_true]; (try omega); done) | fail)) only [go_sem, Int.reduceEq, Int.reduceToNat, Nat.reduceAdd, Nat.reduceMul, Nat.reduceEqDiff, ↓reduceIte, true_and, and_true, and_self, List.drop_zero, List.take_length, Nat.le_refl, V.lit.injEq, Value.int.injEq, Value.bool.injEq]; try (first | omega | (simp; done) | (simp; omega)))) (by simp (disch := (first | omega | (simp only [lnA, List.length_map, List.length_range, true_and, and_true]; (try omega); done) | fail)) only [go_sem, Int.reduceEq, Int.reduceToNat, Nat.reduceAdd, Nat.reduceMul, Nat.reduceEqDiff, ↓reduceIte, true_and, and_true, and_self, List.drop_zero, List.take_length, Nat.le_refl, V.lit.injEq, Value.int.injEq, Value.bool.injEq]; try (first | omega | (simp; done) | (simp; omega)))
    ⟨by simp, by simp, fun d hd => by rw [List.eq_of_mem_replicate hd]; decide, by simp [valB_rep, valB], fun j _ => by rw [List.getD_eq_getElem?_getD, List.getElem?_replicate]; split <;> rfl⟩ ?_
  rintro ⟨i, O⟩ ⟨hi, hO, hOl, hv, hz0⟩
  simp only at hi hO hOl hv hz0 ⊢
  have hnO := nl_len O
  by_cases h1 : i < (wg a).length
  · have hxa := getD_ltB (by decide) hal i
    have hga := nl_get (wg a) i
    have hti := valB_take' (B := 18446744073709551616) (wg a) i
    obtain ⟨x, hx⟩ : ∃ x, (wg a).getD i 0 = x := ⟨_, rfl⟩
    rw [hx] at hxa hga hti
    simp (maxSteps := 1000000) (disch := (first | omega | (simp only [lnA, List.length_map, List.length_range, true_and, and_true]; (try omega); done) | fail)) only [go_sem, hga, Int.reduceEq, Int.reduceToNat, Nat.reduceAdd, Nat.reduceMul, Nat.reduceEqDiff, ↓reduceIte]
    refine LoopV_of (X := Nat × Nat × List Nat) (st := fun z => ([(2, .ref 0 0 0 0), (3, .ref 1 0 0 0), (4, .ref 2 0 0 0), (5, .sl 3 1 0 ((wg a).length + (wg b).length)), (23, .row 1 ((nl (wg a)).map (ie .u64))), (24, .lit (.int .i64 ((wg a).length : Int))), (25, .lit (.int .i64 (i : Int))),
          (6, .lit (.int .i64 (i : Int))), (7, .lit (.int .u64 (x : Int))), (8, .lit (.int .u64 (z.2.1 : Int))), (31, .row 1 ((nl (wg b)).map (ie .u64))), (32, .lit (.int .i64 ((wg b).length : Int))), (33, .lit (.int .i64 (z.1 : Int)))],
        [some (.cells [.row 1 ((nl (wg a)).map (ie .u64))]), some (.cells [.row 1 ((nl (wg b)).map (ie .u64))]), some (.cells [.lit (.slice none 0 0)]), some (.row 1 ((nl z.2.2).map (ie .u64)))]))
      (inv := fun z => z.1 ≤ (wg b).length ∧ z.2.1 < 18446744073709551616 ∧ z.2.2.length = (wg a).length + (wg b).length ∧ (∀ d ∈ z.2.2, d < 18446744073709551616) ∧ valB 18446744073709551616 z.2.2 + 18446744073709551616 ^ (i + z.1) * z.2.1 = valB 18446744073709551616 O + 18446744073709551616 ^ i * (x * valB 18446744073709551616 ((wg b).take z.1)) ∧ ∀ j, i + (wg b).length ≤ j → z.2.2.getD j 0 = 0)
      (m := fun z => (wg b).length - z.1) (0, 0, O) [some 0, some 1, some 2, some 3] rfl (by simp (disch := (first | omega | (simp only [lnA, List.length_map, List.length_range, true_and, and_true]; (try omega); done) | fail)) only [go_sem, Int.reduceEq, Int.reduceToNat, Nat.reduceAdd, Nat.reduceMul, Nat.reduceEqDiff, ↓reduceIte, true_and, and_true, and_self, List.drop_zero, List.take_length, Nat.le_refl, V.lit.injEq, Value.int.injEq, Value.bool.injEq]; try (first | omega | (simp; done) | (simp; omega))) (by simp (disch := (first | omega | (simp only [lnA, List.length_map, List.length_range, true_and, and_true]; (try omega); done) | fail)) only [go_sem, Int.reduceEq, Int.reduceToNat, Nat.reduceAdd, Nat.reduceMul, Nat.reduceEqDiff, ↓reduceIte, true_and, and_true, and_self, List.drop_zero, List.take_length, Nat.le_refl, V.lit.injEq, Value.int.injEq, Value.bool.injEq]; try (first | omega | (simp; done) | (simp; omega))) ⟨by simp, by simp, hO, hOl, by simp [valB], hz0⟩ ?_
    rintro ⟨k, c, U⟩ ⟨hk, hc, hU, hUl, hw, hzU⟩
    simp only at hk hc hU hUl hw hzU ⊢
    have hnU := nl_len U
    by_cases hkb : k < (wg b).length
    · have hxb := getD_ltB (by decide) hbl k
      have hxu := getD_ltB (by decide) hUl (i + k)
      have hgb := nl_get (wg b) k
      have hgu := nl_get U (i + k)
      have htb := valB_take' (B := 18446744073709551616) (wg b) k
      have hik : ((i : Int) + (k : Int)).toNat = i + k := by omega
      obtain ⟨y, hy⟩ : ∃ y, (wg b).getD k 0 = y := ⟨_, rfl⟩
      rw [hy] at hxb hgb htb
      obtain ⟨u, hu⟩ : ∃ u, U.getD (i + k) 0 = u := ⟨_, rfl⟩
      have hxy : x * y ≤ 18446744073709551615 * 18446744073709551615 := Nat.mul_le_mul (by omega) (by omega)
      have hst := mulD_step (B := 18446744073709551616) (j := i + k) (c := c) (y := x * y) (O := U) (by omega)
      rw [hu] at hst hxu hgu
      obtain ⟨hd1, hd2, hd3⟩ := mul_digit hxy hxu hc
      have hinv : valB 18446744073709551616 (U.set (i + k) ((u + c + x * y) % 18446744073709551616)) + 18446744073709551616 ^ (i + (k + 1)) * ((u + c + x * y) / 18446744073709551616) = valB 18446744073709551616 O + 18446744073709551616 ^ i * (x * valB 18446744073709551616 ((wg b).take (k + 1))) := by
        rw [htb, show i + (k + 1) = i + k + 1 by omega, hst]
        have e : 18446744073709551616 ^ i * (x * (valB 18446744073709551616 ((wg b).take k) + 18446744073709551616 ^ k * y)) = 18446744073709551616 ^ i * (x * valB 18446744073709551616 ((wg b).take k)) + 18446744073709551616 ^ (i + k) * (x * y) := by
          rw [Nat.mul_add, Nat.mul_add, Nat.pow_add]
          congr 1
          rw [Nat.mul_left_comm x, ← Nat.mul_assoc]
        rw [e]
        generalize 18446744073709551616 ^ (i + k) * c = A1 at *
        generalize 18446744073709551616 ^ (i + k) * (x * y) = A2 at *
        generalize 18446744073709551616 ^ i * (x * valB 18446744073709551616 ((wg b).take k)) = A3 at *
        omega
      have hset := nl_set U (i + k) ((u + c + x * y) % 18446744073709551616)
      have hlen2 : (U.set (i + k) ((u + c + x * y) % 18446744073709551616)).length = (wg a).length + (wg b).length := by rw [List.length_set, hU]
      have hall := setB (B := 18446744073709551616) (x := (u + c + x * y) % 18446744073709551616) (i := i + k) hUl (Nat.mod_lt _ (by decide))
      have hz2 : ∀ j, i + (wg b).length ≤ j → (U.set (i + k) ((u + c + x * y) % 18446744073709551616)).getD j 0 = 0 := fun j hj => by
        rw [List.getD_eq_getElem?_getD, List.getElem?_set_ne (by omega), ← List.getD_eq_getElem?_getD]
        exact hzU j hj
      have hm64 := mul64_fn (x := x) (y := y) hxa hxb
      generalize x * y = p at *
      generalize hsd : (u + c + p) % 18446744073709551616 = s at *
      generalize hcd : (u + c + p) / 18446744073709551616 = c' at *
      simp (maxSteps := 1000000) (disch := (first | omega | (simp only [lnA, List.length_map, List.length_range, true_and, and_true]; (try omega); done) | fail)) only [go_sem, hgb, Int.reduceEq, Int.reduceToNat, Nat.reduceAdd, Nat.reduceMul, Nat.reduceEqDiff, ↓reduceIte]
      refine callV0 (hm64) rfl rfl ?_
      simp (maxSteps := 1000000) (disch := (first | omega | (simp only [lnA, List.length_map, List.length_range, true_and, and_true]; (try omega); done) | fail)) only [go_sem, hgu, hik, Int.reduceEq, Int.reduceToNat, Nat.reduceAdd, Nat.reduceMul, Nat.reduceEqDiff, ↓reduceIte]
      refine call_add64 (c := 0) Tryd.func67 (by kernel_rfl) (by kernel_rfl) (by kernel_rfl) (by kernel_rfl) (by omega) ?_
      have hs1 : (p % 18446744073709551616 + u + 0) / 18446744073709551616 ≤ 1 := by omega
      generalize (p % 18446744073709551616 + u + 0) / 18446744073709551616 = c1 at *
      generalize (p % 18446744073709551616 + u + 0) % 18446744073709551616 = l1 at *
      have hq1 : ((p / 18446744073709551616 : Nat) : Int) + (c1 : Int) = ((p / 18446744073709551616 + c1 : Nat) : Int) := by omega
      simp (maxSteps := 1000000) (disch := (first | omega | (simp only [lnA, List.length_map, List.length_range, true_and, and_true]; (try omega); done) | fail)) only [go_sem, hq1, Int.reduceEq, Int.reduceToNat, Nat.reduceAdd, Nat.reduceMul, Nat.reduceEqDiff, ↓reduceIte]
      refine call_add64 (c := 0) Tryd.func67 (by kernel_rfl) (by kernel_rfl) (by kernel_rfl) (by kernel_rfl) (by omega) ?_
      rw [hd1]
      generalize (l1 + c + 0) / 18446744073709551616 = c2 at *
      have hq2 : ((p / 18446744073709551616 + c1 : Nat) : Int) + (c2 : Int) = (c' : Int) := by omega
      simp (maxSteps := 1000000) (disch := (first | omega | (simp only [lnA, List.length_map, List.length_range, true_and, and_true]; (try omega); done) | fail)) only [go_sem, hik, hq1, hq2, hset, Int.reduceEq, Int.reduceToNat, Nat.reduceAdd, Nat.reduceMul, Nat.reduceEqDiff, ↓reduceIte]
      refine nextW (k + 1, c', U.set (i + k) s) [some 0, some 1, some 2, some 3] ⟨by simp only; omega, hd3, hlen2, hall, hinv, hz2⟩ (by simp only; omega)
    · obtain rfl : k = (wg b).length := by omega
      have hfull : (wg b).take (wg b).length = wg b := List.take_of_length_le (Nat.le_refl _)
      rw [hfull, hbv] at hw
      have hset := nl_set U (i + (wg b).length) c
      have hlen2 : (U.set (i + (wg b).length) c).length = (wg a).length + (wg b).length := by rw [List.length_set, hU]
      have hall := setB (B := 18446744073709551616) (x := c) (i := i + (wg b).length) hUl hc
      have hz2 : ∀ j, i + 1 + (wg b).length ≤ j → (U.set (i + (wg b).length) c).getD j 0 = 0 := fun j hj => by
        rw [List.getD_eq_getElem?_getD, List.getElem?_set_ne (by omega), ← List.getD_eq_getElem?_getD]
        exact hzU j (by omega)
      have hvs := valB_set (B := 18446744073709551616) (l := U) (i := i + (wg b).length) (x := c) (by omega)
      rw [hzU _ (Nat.le_refl _), Nat.mul_zero, Nat.add_zero, hw, hv] at hvs
      have hik : ((i : Int) + ((wg b).length : Int)).toNat = i + (wg b).length := by omega
      have hik2 : ((i : Int) + ((nl (wg b)).length : Int)).toNat = i + (wg b).length := by omega
      simp (maxSteps := 1000000) (disch := (first | omega | (simp only [lnA, List.length_map, List.length_range, true_and, and_true]; (try omega); done) | fail)) only [go_sem, hik, hik2, hset, Int.reduceEq, Int.reduceToNat, Nat.reduceAdd, Nat.reduceMul, Nat.reduceEqDiff, ↓reduceIte]
      refine nextW (i + 1, U.set (i + (wg b).length) c) [some 0, some 1, some 2, some 3] ⟨by simp only; omega, hlen2, hall, by simp only; rw [hvs, hti, Nat.add_mul, Nat.mul_assoc], hz2⟩ (by simp only; omega)
  · have hfull : (wg a).take i = wg a := List.take_of_length_le (by omega)
    rw [hfull, hav] at hv
    simp (maxSteps := 1000000) (disch := (first | omega | (simp only [lnA, List.length_map, List.length_range, true_and, and_true]; (try omega); done) | fail)) only [go_sem, Int.reduceEq, Int.reduceToNat, Nat.reduceAdd, Nat.reduceMul, Nat.reduceEqDiff, ↓reduceIte]
    refine callW [] [3] (trimmed_fn (l := O) hOl (by omega)) ?_
    rw [hv]
    simp (maxSteps := 1000000) (disch := (first | omega | (simp only [lnA, List.length_map, List.length_range, true_and, and_true]; (try omega); done) | fail)) only [go_sem, Int.reduceEq, Int.reduceToNat, Nat.reduceAdd, Nat.reduceMul, Nat.reduceEqDiff, ↓reduceIte]
    exact endW [] hQ
end Go.Proofs.YtfkpfhjfjnnbbaaDoor
