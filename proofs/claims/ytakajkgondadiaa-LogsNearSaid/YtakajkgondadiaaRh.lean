import Derived.Test.YtakajkgondadiaaRa
import Derived.Test.YtakajkgondadiaaE7
/-! Logarithms by squares: plain facts. -/
namespace Go.Proofs.Ytakajkgondadiaa
open Go.Eng
set_option linter.unusedSimpArgs false
set_option linter.unusedVariables false
/-- One digit more: K is where 1 is. -/
def lgs (K : Nat) (s : Nat × Nat) : Nat × Nat := if 2 * K ≤ s.1 * s.1 / K then (s.1 * s.1 / K / 2, 2 * s.2 + 1) else (s.1 * s.1 / K, 2 * s.2)
def lgi (K : Nat) (s : Nat × Nat) : Nat → Nat × Nat
  | 0 => s
  | j + 1 => lgs K (lgi K s j)
/-- The fraction's digits, of where it begins. -/
theorem lgi_out (K x o : Nat) : ∀ j, lgi K (x, o) j = ((lgi K (x, 0) j).1, o * 2 ^ j + (lgi K (x, 0) j).2)
  | 0 => by simp [lgi]
  | j + 1 => by
    have ih := lgi_out K x o j
    show lgs K (lgi K (x, o) j) = ((lgs K (lgi K (x, 0) j)).1, o * 2 ^ (j + 1) + (lgs K (lgi K (x, 0) j)).2)
    rw [ih]
    generalize lgi K (x, 0) j = s
    unfold lgs
    simp only
    have e : o * 2 ^ (j + 1) = 2 * (o * 2 ^ j) := by rw [Nat.pow_succ]; simp only [Nat.mul_comm, Nat.mul_left_comm]
    split
    · rw [e]; simp only [Prod.mk.injEq, true_and]; omega
    · rw [e]; simp only [Prod.mk.injEq, true_and]; omega
/-- The state stays between 1 and 2. -/
theorem lgs_in {K : Nat} {s : Nat × Nat} (hK : 0 < K) (h : K ≤ s.1 ∧ s.1 < 2 * K) : K ≤ (lgs K s).1 ∧ (lgs K s).1 < 2 * K ∧ (lgs K s).2 ≤ 2 * s.2 + 1 := by
  have h1 : K * K ≤ s.1 * s.1 := Nat.mul_le_mul h.1 h.1
  have h2 : s.1 * s.1 < 4 * K * K := by
    have := Nat.mul_lt_mul'' h.2 h.2
    have e : 2 * K * (2 * K) = 4 * K * K := by rw [Nat.mul_mul_mul_comm, Nat.mul_assoc 4]
    omega
  have h3 : K ≤ s.1 * s.1 / K := (Nat.le_div_iff_mul_le hK).2 h1
  have h4 : s.1 * s.1 / K < 4 * K := (Nat.div_lt_iff_lt_mul hK).2 h2
  unfold lgs
  split
  · simp only; omega
  · simp only; omega
theorem lgi_in {K x o : Nat} (hK : 0 < K) (h : K ≤ x ∧ x < 2 * K) : ∀ j, K ≤ (lgi K (x, o) j).1 ∧ (lgi K (x, o) j).1 < 2 * K ∧ (lgi K (x, o) j).2 + 1 ≤ (o + 1) * 2 ^ j
  | 0 => ⟨h.1, h.2, by simp [lgi]⟩
  | j + 1 => by
    obtain ⟨a, b, c⟩ := lgi_in hK h j (o := o)
    have := lgs_in hK ⟨a, b⟩
    refine ⟨this.1, this.2.1, ?_⟩
    have h3 := this.2.2
    show (lgs K (lgi K (x, o) j)).2 + 1 ≤ _
    rw [Nat.pow_succ, ← Nat.mul_assoc]
    omega
def K62 : Nat := 4611686018427387904
/-- The logarithm of n, 28 digits behind the point. -/
def lgN (n : Nat) : Nat := (lgi K62 (n * 2 ^ (62 - (bl n - 1)), bl n - 1) 28).2
/-- Where a number stands between 1 and 2. -/
theorem lg_start {n : Nat} (hn : 0 < n) (h : n ≤ 1099511627776) : 1 ≤ bl n ∧ bl n ≤ 41 ∧ K62 ≤ n * 2 ^ (62 - (bl n - 1)) ∧ n * 2 ^ (62 - (bl n - 1)) < 2 * K62 := by
  have h1 := bl_pos (n := n) (by omega)
  have h2 := bl_le (n := n) (by omega)
  have h3 := bl_lt n
  have h4 := bl_le_of (n := n) (k := 41) (by omega)
  obtain ⟨e, he⟩ : ∃ e, bl n = e + 1 := ⟨bl n - 1, by omega⟩
  rw [he] at h2 h3 h4 ⊢
  rw [Nat.add_sub_cancel] at *
  have p : 2 ^ e * 2 ^ (62 - e) = K62 := by rw [← Nat.pow_add, show e + (62 - e) = 62 by omega]; rfl
  have q1 := Nat.mul_le_mul_right (2 ^ (62 - e)) h2
  have q2 := Nat.mul_lt_mul_of_pos_right h3 (Nat.two_pow_pos (62 - e))
  rw [p] at q1
  rw [Nat.pow_succ, Nat.mul_right_comm, p] at q2
  exact ⟨by omega, h4, q1, by omega⟩
theorem lgN_le {n : Nat} (hn : 0 < n) (h : n ≤ 1099511627776) : lgN n < 41 * 268435456 := by
  obtain ⟨h1, h2, h3, h4⟩ := lg_start hn h
  have := (lgi_in (K := K62) (by decide) ⟨h3, h4⟩ 28 (o := bl n - 1)).2.2
  have e : (2 : Nat) ^ 28 = 268435456 := by decide
  rw [e, show bl n - 1 + 1 = bl n by omega] at this
  have : bl n * 268435456 ≤ 41 * 268435456 := Nat.mul_le_mul_right _ h2
  unfold lgN
  omega
theorem lgN_shift {n k : Nat} (hn : 0 < n) (h : n * 2 ^ k ≤ 1099511627776) : lgN (n * 2 ^ k) = lgN n + k * 268435456 := by
  have hp := Nat.two_pow_pos k
  have hnk : n ≤ n * 2 ^ k := Nat.le_mul_of_pos_right n hp
  obtain ⟨a1, a2, a3, a4⟩ := lg_start hn (by omega)
  have hb : bl (n * 2 ^ k) = bl n + k := by
    have h2 := bl_le (n := n) (by omega)
    have h3 := bl_lt n
    obtain ⟨e, he⟩ : ∃ e, bl n = e + 1 := ⟨bl n - 1, by omega⟩
    rw [he] at h2 h3 ⊢
    rw [Nat.add_sub_cancel] at h2
    rw [show e + 1 + k = (e + k) + 1 by omega]
    refine bl_eq ?_ ?_
    · rw [Nat.pow_add]; exact Nat.mul_le_mul_right _ h2
    · rw [show e + k + 1 = e + 1 + k by omega, Nat.pow_add]; exact Nat.mul_lt_mul_of_pos_right h3 hp
  have hb2 := bl_le_of (n := n * 2 ^ k) (k := 41) (by omega)
  have e1 : n * 2 ^ k * 2 ^ (62 - (bl (n * 2 ^ k) - 1)) = n * 2 ^ (62 - (bl n - 1)) := by
    rw [Nat.mul_assoc, ← Nat.pow_add, hb]
    congr 2
    omega
  unfold lgN
  rw [e1, lgi_out, lgi_out K62 _ (bl n - 1), hb]
  simp only
  have e2 : (2 : Nat) ^ 28 = 268435456 := by decide
  rw [e2, show bl n + k - 1 = bl n - 1 + k by omega, Nat.add_mul]
  omega
/-! ### How near they are -/
theorem lgs_low {K n x o t : Nat} (hK : 0 < K) (h : x * 2 ^ o ≤ n * K) : (lgs K (x, o)).1 * 2 ^ (lgs K (x, o)).2 ≤ n * n * K := by
  have h1 : x * x / K * K ≤ x * x := Nat.div_mul_le_self _ _
  have h2 : x * 2 ^ o * (x * 2 ^ o) ≤ n * K * (n * K) := Nat.mul_le_mul h h
  have e1 : x * 2 ^ o * (x * 2 ^ o) = x * x * 2 ^ (2 * o) := by rw [Nat.two_mul, Nat.pow_add]; simp only [Nat.mul_assoc, Nat.mul_left_comm]
  have e2 : n * K * (n * K) = n * n * K * K := by simp only [Nat.mul_assoc, Nat.mul_left_comm]
  rw [e1, e2] at h2
  have h3 : x * x / K * 2 ^ (2 * o) * K ≤ n * n * K * K := by
    have : x * x / K * 2 ^ (2 * o) * K = x * x / K * K * 2 ^ (2 * o) := by rw [Nat.mul_right_comm]
    rw [this]
    exact Nat.le_trans (Nat.mul_le_mul_right _ h1) h2
  have h4 := Nat.le_of_mul_le_mul_right h3 hK
  unfold lgs
  split
  · simp only
    have e3 : x * x / K / 2 * 2 ^ (2 * o + 1) = x * x / K / 2 * 2 * 2 ^ (2 * o) := by rw [Nat.pow_succ]; simp only [Nat.mul_assoc, Nat.mul_left_comm, Nat.mul_comm]
    rw [e3]
    exact Nat.le_trans (Nat.mul_le_mul_right _ (Nat.div_mul_le_self _ _)) h4
  · exact h4
theorem lgs_up {K x o : Nat} (hK : 0 < K) (hx : K ≤ x ∧ x < 2 * K) : x * x * 2 ^ (2 * o) ≤ (lgs K (x, o)).1 * 2 ^ (lgs K (x, o)).2 * (K + 1) := by
  have hin := lgs_in (s := (x, o)) hK hx
  have h1 : x * x < (x * x / K + 1) * K := by
    have := Nat.lt_div_mul_add hK (a := x * x)
    rw [Nat.add_mul, Nat.one_mul]
    omega
  unfold lgs at hin ⊢
  split
  · rename_i hc
    rw [if_pos hc] at hin
    simp only at hin ⊢
    generalize x * x / K = y at *
    have h2 : (y + 1) * K ≤ y / 2 * 2 * (K + 1) := by
      have a0 : 2 * K ≤ y / 2 * 2 ∧ y + 1 ≤ y / 2 * 2 + 2 := by omega
      generalize y / 2 * 2 = t at *
      have a1 : (y + 1) * K ≤ (t + 2) * K := Nat.mul_le_mul_right _ a0.2
      rw [Nat.add_mul t] at a1
      rw [Nat.mul_add, Nat.mul_one]
      omega
    have e : y / 2 * 2 ^ (2 * o + 1) * (K + 1) = y / 2 * 2 * (K + 1) * 2 ^ (2 * o) := by rw [Nat.pow_succ]; simp only [Nat.mul_assoc, Nat.mul_left_comm, Nat.mul_comm]
    rw [e]
    exact Nat.mul_le_mul_right _ (by omega)
  · rename_i hc
    rw [if_neg hc] at hin
    simp only at hin ⊢
    generalize x * x / K = y at *
    have h2 : (y + 1) * K ≤ y * (K + 1) := by
      rw [Nat.add_mul, Nat.mul_add, Nat.one_mul, Nat.mul_one]
      omega
    have e : y * 2 ^ (2 * o) * (K + 1) = y * (K + 1) * 2 ^ (2 * o) := by rw [Nat.mul_right_comm]
    rw [e]
    exact Nat.mul_le_mul_right _ (by omega)
/-- Both bounds of the j-th state. -/
theorem lgi_near {K n x o : Nat} (hK : 0 < K) (hx : K ≤ x ∧ x < 2 * K) (h : x * 2 ^ o = n * K) : ∀ j,
    (lgi K (x, o) j).1 * 2 ^ (lgi K (x, o) j).2 ≤ n ^ (2 ^ j) * K ∧ n ^ (2 ^ j) * K * K ^ (2 ^ j - 1) ≤ (lgi K (x, o) j).1 * 2 ^ (lgi K (x, o) j).2 * (K + 1) ^ (2 ^ j - 1)
  | 0 => by simp [lgi, h]
  | j + 1 => by
    obtain ⟨a, b⟩ := lgi_near hK hx h j
    obtain ⟨c1, c2, -⟩ := lgi_in hK hx j (o := o)
    have hn2 : n ^ (2 ^ (j + 1)) = n ^ (2 ^ j) * n ^ (2 ^ j) := by rw [Nat.pow_succ, Nat.mul_comm (2 ^ j), Nat.two_mul, Nat.pow_add]
    have hp := Nat.two_pow_pos j
    have he : 2 ^ (j + 1) - 1 = 2 * (2 ^ j - 1) + 1 := by rw [Nat.pow_succ]; omega
    show (lgs K (lgi K (x, o) j)).1 * 2 ^ (lgs K (lgi K (x, o) j)).2 ≤ _ ∧ _ ≤ (lgs K (lgi K (x, o) j)).1 * 2 ^ (lgs K (lgi K (x, o) j)).2 * _
    rw [hn2, he]
    generalize 2 ^ j - 1 = d at *
    generalize n ^ (2 ^ j) = m at *
    generalize lgi K (x, o) j = s at *
    obtain ⟨y, q⟩ := s
    simp only at a b c1 c2
    refine ⟨lgs_low (t := 0) hK a, ?_⟩
    have hu := lgs_up (K := K) (x := y) (o := q) hK ⟨c1, c2⟩
    have h2 := Nat.mul_le_mul b b
    have e1 : m * K * K ^ d * (m * K * K ^ d) = m * m * K * K ^ (2 * d + 1) := by
      rw [Nat.pow_succ, Nat.two_mul, Nat.pow_add]; simp only [Nat.mul_assoc, Nat.mul_left_comm, Nat.mul_comm]
    have e2 : y * 2 ^ q * (K + 1) ^ d * (y * 2 ^ q * (K + 1) ^ d) = y * y * 2 ^ (2 * q) * (K + 1) ^ (2 * d) := by
      rw [Nat.two_mul q, Nat.two_mul d, Nat.pow_add, Nat.pow_add]; simp only [Nat.mul_assoc, Nat.mul_left_comm, Nat.mul_comm]
    rw [e1, e2] at h2
    refine Nat.le_trans h2 (Nat.le_trans (Nat.mul_le_mul_right _ hu) ?_)
    rw [Nat.pow_succ, Nat.mul_assoc, Nat.mul_comm (K + 1)]
    exact Nat.le_refl _
theorem bern {K : Nat} : ∀ n, n ≤ K → (K + 1) ^ n * (K - n) ≤ K ^ (n + 1)
  | 0, _ => by simp
  | n + 1, h => by
    have ih := bern (K := K) n (by omega)
    have h1 : (K + 1) * (K - (n + 1)) ≤ K * (K - n) := by
      obtain ⟨d, rfl⟩ : ∃ d, K = n + 1 + d := ⟨K - (n + 1), by omega⟩
      rw [show n + 1 + d - (n + 1) = d by omega, show n + 1 + d - n = d + 1 by omega]
      rw [Nat.add_mul, Nat.one_mul, Nat.mul_add, Nat.mul_one]
      omega
    rw [Nat.pow_succ, Nat.mul_assoc, Nat.pow_succ]
    calc (K + 1) ^ n * ((K + 1) * (K - (n + 1))) ≤ (K + 1) ^ n * (K * (K - n)) := Nat.mul_le_mul_left _ h1
      _ = (K + 1) ^ n * (K - n) * K := by rw [Nat.mul_comm K, Nat.mul_assoc]
      _ ≤ K ^ (n + 1) * K := Nat.mul_le_mul_right _ ih
theorem bern2 {K n : Nat} (hK : 0 < K) (h : 2 * n ≤ K) : (K + 1) ^ n ≤ 2 * K ^ n := by
  have h1 := bern (K := K) n (by omega)
  have h2 : (K + 1) ^ n * K ≤ 2 * ((K + 1) ^ n * (K - n)) := by
    rw [Nat.mul_left_comm]
    exact Nat.mul_le_mul_left _ (by omega)
  rw [Nat.pow_succ] at h1
  have h3 : (K + 1) ^ n * K ≤ 2 * K ^ n * K := by rw [Nat.mul_assoc]; omega
  exact Nat.le_of_mul_le_mul_right h3 hK
/-- A logarithm is near: D is how often the number is taken. -/
theorem lg_near {K n x o j D L : Nat} (hK : 0 < K) (hx : K ≤ x ∧ x < 2 * K) (h : x * 2 ^ o = n * K) (hD : 2 ^ j = D) (hDK : 2 * D ≤ K) (hL : (lgi K (x, o) j).2 = L) : 2 ^ L ≤ n ^ D ∧ n ^ D < 2 ^ (L + 2) := by
  obtain ⟨a, b⟩ := lgi_near hK hx h j
  obtain ⟨c1, c2, -⟩ := lgi_in hK hx j (o := o)
  have hp : 0 < D := by rw [← hD]; exact Nat.two_pow_pos j
  rw [hD, hL] at a b
  generalize (lgi K (x, o) j).1 = y at *
  refine ⟨?_, ?_⟩
  · have h1 : K * 2 ^ L ≤ n ^ D * K := Nat.le_trans (Nat.mul_le_mul_right _ c1) a
    rw [Nat.mul_comm] at h1
    exact Nat.le_of_mul_le_mul_right h1 hK
  · have h2 := bern2 (K := K) (n := D - 1) hK (by omega)
    have h3 : n ^ D * K * K ^ (D - 1) ≤ y * 2 ^ L * (2 * K ^ (D - 1)) := Nat.le_trans b (Nat.mul_le_mul_left _ h2)
    rw [← Nat.mul_assoc (y * 2 ^ L)] at h3
    have h4 := Nat.le_of_mul_le_mul_right h3 (Nat.pow_pos hK)
    have h5 : y * 2 ^ L * 2 < 2 * K * 2 ^ L * 2 := Nat.mul_lt_mul_of_pos_right (Nat.mul_lt_mul_of_pos_right c2 (Nat.two_pow_pos L)) (by decide)
    have e : 2 * K * 2 ^ L * 2 = 2 ^ (L + 2) * K := by rw [Nat.pow_succ, Nat.pow_succ]; simp only [Nat.mul_assoc, Nat.mul_left_comm, Nat.mul_comm]
    rw [e] at h5
    exact Nat.lt_of_mul_lt_mul_right (Nat.lt_of_le_of_lt h4 h5)
def D28 : Nat := 268435456
theorem lgN_near {n : Nat} (hn : 0 < n) (h : n ≤ 1099511627776) : 2 ^ lgN n ≤ n ^ D28 ∧ n ^ D28 < 2 ^ (lgN n + 2) := by
  obtain ⟨h1, h2, h3, h4⟩ := lg_start hn h
  refine lg_near (K := K62) (j := 28) (by decide) ⟨h3, h4⟩ ?_ (by decide) (by decide) rfl
  rw [Nat.mul_assoc, ← Nat.pow_add, show 62 - (bl n - 1) + (bl n - 1) = 62 by omega]
  rfl
theorem pow_lt_lt {a b : Nat} (h : 2 ^ a < 2 ^ b) : a < b := (Nat.pow_lt_pow_iff_right (by decide)).1 h
/-- Of a product the logarithm is the sum, but for a little. -/
theorem lgN_mul {m n : Nat} (hm : 0 < m) (hn : 0 < n) (hm2 : m ≤ 1099511627776) (hn2 : n ≤ 1099511627776) (h : m * n ≤ 1099511627776) : lgN (m * n) ≤ lgN m + lgN n + 3 ∧ lgN m + lgN n ≤ lgN (m * n) + 1 := by
  obtain ⟨a1, a2⟩ := lgN_near hm hm2
  obtain ⟨b1, b2⟩ := lgN_near hn hn2
  obtain ⟨c1, c2⟩ := lgN_near (Nat.mul_pos hm hn) h
  rw [Nat.mul_pow] at c1 c2
  have h1 := Nat.mul_lt_mul'' a2 b2
  have h2 := Nat.mul_le_mul a1 b1
  rw [← Nat.pow_add] at h1 h2
  have l1 := pow_lt_lt (Nat.lt_of_le_of_lt c1 h1)
  have l2 := pow_lt_lt (Nat.lt_of_le_of_lt h2 c2)
  omega
theorem pow_step {m D : Nat} (h : m ≤ D) (hm : 0 < m) : 2 * m ^ D ≤ (m + 1) ^ D := by
  have key : ∀ k, m ^ (k + 1) + (k + 1) * m ^ k ≤ (m + 1) ^ (k + 1) := fun k => by
    induction k with
    | zero => simp
    | succ k ih =>
      have h1 := Nat.mul_le_mul_right (m + 1) ih
      rw [← Nat.pow_succ] at h1
      refine Nat.le_trans ?_ h1
      rw [Nat.pow_succ m (k + 1), Nat.pow_succ m k]
      generalize m ^ k = a
      have e : (a * m + (k + 1) * a) * (m + 1) = a * m * m + (k + 1) * (a * m) + a * m + (k + 1) * a := by
        rw [Nat.mul_add, Nat.mul_one, Nat.add_mul, Nat.mul_assoc (k + 1)]
        omega
      have e2 : (k + 1 + 1) * (a * m) = (k + 1) * (a * m) + a * m := by rw [Nat.add_mul (k + 1), Nat.one_mul]
      rw [e, e2]
      omega
  obtain ⟨k, rfl⟩ : ∃ k, D = k + 1 := ⟨D - 1, by omega⟩
  have h2 := key k
  have h3 : m * m ^ k ≤ (k + 1) * m ^ k := Nat.mul_le_mul_right _ h
  have h4 : m ^ (k + 1) = m * m ^ k := Nat.pow_succ'
  generalize (m + 1) ^ (k + 1) = z at *
  generalize m ^ (k + 1) = u at *
  omega
theorem lgN_mono {m : Nat} (hm : 0 < m) (h : m ≤ 1048576) : lgN m ≤ lgN (m + 1) := by
  obtain ⟨a1, a2⟩ := lgN_near hm (by omega)
  obtain ⟨b1, b2⟩ := lgN_near (n := m + 1) (by omega) (by omega)
  have hs := pow_step (m := m) (D := D28) (by unfold D28; omega) hm
  have h1 : 2 ^ (lgN m + 1) < 2 ^ (lgN (m + 1) + 2) := by
    rw [Nat.pow_succ]
    omega
  have := pow_lt_lt h1
  omega
end Go.Proofs.Ytakajkgondadiaa
