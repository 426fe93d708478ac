import Derived.Test.YteookgjmohokiaaGreatD1
import Derived.Test.YteookgjmohokiaaGreatE8
import Derived.Test.YteookgjmohokiaaGreatE6
namespace Go.Proofs.YteookgjmohokiaaGreat
open Go.Eng
set_option linter.unusedSimpArgs false
set_option linter.unusedVariables false
def pr : Nat := 2305843009213693951
def IsPr (p : Nat) : Prop := 2 ≤ p ∧ ∀ d, d ∣ p → d = 1 ∨ d = p
theorem IsPr.dvd_mul {p a b : Nat} (hp : IsPr p) (h : p ∣ a * b) : p ∣ a ∨ p ∣ b := by
  rcases hp.2 (Nat.gcd p a) (Nat.gcd_dvd_left p a) with h1 | h1
  · exact .inr (Nat.Coprime.dvd_of_dvd_mul_left h1 h)
  · exact .inl (h1 ▸ Nat.gcd_dvd_right p a)
def chs : Nat → Nat → Nat
  | _, 0 => 1
  | 0, _ + 1 => 0
  | n + 1, k + 1 => chs n k + chs n (k + 1)
theorem chs_gt : ∀ n k, n < k → chs n k = 0
  | 0, 0, h => by omega
  | 0, _ + 1, _ => rfl
  | n + 1, 0, h => by omega
  | n + 1, k + 1, h => by
    show chs n k + chs n (k + 1) = 0
    rw [chs_gt n k (by omega), chs_gt n (k + 1) (by omega)]
theorem chs_self : ∀ n, chs n n = 1
  | 0 => rfl
  | n + 1 => by
    show chs n n + chs n (n + 1) = 1
    rw [chs_self n, chs_gt n (n + 1) (by omega)]
theorem chs_mul : ∀ n k, (k + 1) * chs (n + 1) (k + 1) = (n + 1) * chs n k
  | 0, 0 => rfl
  | 0, k + 1 => by
    show (k + 2) * (chs 0 (k + 1) + chs 0 (k + 2)) = 1 * chs 0 (k + 1)
    simp [chs]
  | n + 1, 0 => by
    have := chs_mul n 0
    show 1 * (chs (n + 1) 0 + chs (n + 1) 1) = (n + 2) * chs (n + 1) 0
    have e : chs (n + 1) 1 = n + 1 := by
      have h : 1 * chs (n + 1) 1 = (n + 1) * chs n 0 := this
      cases n <;> simp [chs] at h ⊢ <;> omega
    have e0 : chs (n + 1) 0 = 1 := rfl
    rw [e, e0]; omega
  | n + 1, k + 1 => by
    have h1 := chs_mul n k
    have h2 := chs_mul n (k + 1)
    show (k + 2) * (chs (n + 1) (k + 1) + chs (n + 1) (k + 2)) = (n + 2) * (chs n k + chs n (k + 1))
    have e : chs (n + 1) (k + 1) = chs n k + chs n (k + 1) := rfl
    rw [Nat.mul_add, h2, show k + 2 = (k + 1) + 1 from rfl, Nat.add_mul, h1, e, Nat.mul_add, Nat.one_mul, show n + 2 = (n + 1) + 1 from rfl, Nat.add_mul (n + 1), Nat.one_mul, Nat.mul_add]
    omega
def sumT (f : Nat → Nat) : Nat → Nat
  | 0 => 0
  | n + 1 => sumT f n + f n
theorem sumT_congr {f g : Nat → Nat} : ∀ n, (∀ i, i < n → f i = g i) → sumT f n = sumT g n
  | 0, _ => rfl
  | n + 1, h => by
    show sumT f n + f n = sumT g n + g n
    rw [sumT_congr n (fun i hi => h i (by omega)), h n (by omega)]
theorem sumT_shift (f : Nat → Nat) : ∀ n, sumT f (n + 1) = f 0 + sumT (fun i => f (i + 1)) n
  | 0 => by simp [sumT]
  | n + 1 => by
    show sumT f (n + 1) + f (n + 1) = f 0 + (sumT (fun i => f (i + 1)) n + f (n + 1))
    rw [sumT_shift f n]; omega
theorem sumT_add (f g : Nat → Nat) : ∀ n, sumT (fun i => f i + g i) n = sumT f n + sumT g n
  | 0 => rfl
  | n + 1 => by
    show sumT (fun i => f i + g i) n + (f n + g n) = sumT f n + f n + (sumT g n + g n)
    rw [sumT_add f g n]; omega
theorem sumT_mul (a : Nat) (f : Nat → Nat) : ∀ n, sumT (fun i => a * f i) n = a * sumT f n
  | 0 => rfl
  | n + 1 => by
    show sumT (fun i => a * f i) n + a * f n = a * (sumT f n + f n)
    rw [sumT_mul a f n, Nat.mul_add]
theorem binom (a : Nat) : ∀ n, (a + 1) ^ n = sumT (fun k => chs n k * a ^ k) (n + 1)
  | 0 => by simp [sumT, chs]
  | n + 1 => by
    rw [Nat.pow_succ, binom a n, Nat.mul_add, Nat.mul_one, sumT_shift (fun k => chs (n + 1) k * a ^ k) (n + 1)]
    have e1 : sumT (fun i => chs (n + 1) (i + 1) * a ^ (i + 1)) (n + 1) = sumT (fun i => a * (chs n i * a ^ i) + chs n (i + 1) * a ^ (i + 1)) (n + 1) := sumT_congr _ fun i _ => by
      show (chs n i + chs n (i + 1)) * a ^ (i + 1) = _
      rw [Nat.add_mul, Nat.pow_succ, Nat.mul_comm a, Nat.mul_assoc]
    have e2 : sumT (fun k => chs n k * a ^ k) (n + 1) = 1 + sumT (fun i => chs n (i + 1) * a ^ (i + 1)) n := by
      rw [sumT_shift]
      cases n <;> simp [chs]
    have e3 : sumT (fun i => chs n (i + 1) * a ^ (i + 1)) (n + 1) = sumT (fun i => chs n (i + 1) * a ^ (i + 1)) n := by
      show _ + chs n (n + 1) * _ = _
      rw [chs_gt n (n + 1) (by omega)]; simp
    rw [e1, sumT_add, sumT_mul, e3]
    have e4 : chs (n + 1) 0 * a ^ 0 = 1 := by simp [chs]
    rw [e4, Nat.mul_comm _ a]
    omega
theorem sumT_dvd {p : Nat} {f : Nat → Nat} : ∀ n, (∀ i, i < n → p ∣ f i) → p ∣ sumT f n
  | 0, _ => Nat.dvd_zero _
  | n + 1, h => Nat.dvd_add (sumT_dvd n fun i hi => h i (by omega)) (h n (by omega))
theorem chs_dvd {p k : Nat} (hp : IsPr p) (h0 : 0 < k) (hk : k < p) : p ∣ chs p k := by
  obtain ⟨m, rfl⟩ : ∃ m, p = m + 1 := ⟨p - 1, by have := hp.1; omega⟩
  obtain ⟨j, rfl⟩ : ∃ j, k = j + 1 := ⟨k - 1, by omega⟩
  have h := chs_mul m j
  rcases hp.dvd_mul (show m + 1 ∣ (j + 1) * chs (m + 1) (j + 1) by rw [h]; exact Nat.dvd_mul_right _ _) with h1 | h1
  · have := Nat.le_of_dvd (by omega) h1
    omega
  · exact h1
def pwm (a m : Nat) : Nat → Nat → Nat
  | 0, _ => 1 % m
  | f + 1, e => if e = 0 then 1 % m else let h := pwm a m f (e / 2); if e % 2 = 1 then h * h % m * a % m else h * h % m
def noDiv (q : Nat) : Nat → Bool
  | 0 => true
  | 1 => true
  | 2 => true
  | d + 1 => (q % d != 0) && noDiv q d
end Go.Proofs.YteookgjmohokiaaGreat

namespace Go.Proofs.YteookgjmohokiaaGreat
open Go.Eng Go.Vx
set_option linter.unusedSimpArgs false
set_option linter.unusedVariables false
set_option maxRecDepth 100000
end Go.Proofs.YteookgjmohokiaaGreat

namespace Go.Proofs.YteookgjmohokiaaGreat
open Go.Eng Go.Vx
set_option linter.unusedSimpArgs false
set_option linter.unusedVariables false
set_option maxRecDepth 100000
end Go.Proofs.YteookgjmohokiaaGreat
