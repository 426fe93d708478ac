import Derived.Test.YtnfmpphlkalbfaaGreatDoorKs
/-! Package bounds: what Exp answers (plain). -/
namespace Go.Proofs.YtnfmpphlkalbfaaGreatDoor
set_option linter.unusedVariables false
abbrev Q4 := Rat × Rat × Rat × Rat
def fac (x : Rat) (n : Nat) : Rat := x * (1 / ((n + 1 : Nat) : Int))
def serN (x : Rat) (b n : Nat) (s : Q4) : Q4 := (dn (s.1 * fac x n) b, up (s.2.1 * fac x n) b, s.2.2.1 + dn (s.1 * fac x n) b, s.2.2.2 + up (s.2.1 * fac x n) b)
def serM (x : Rat) (b : Nat) : Nat → Nat → Q4 → Rat × Rat
  | 0, _, s => (s.2.2.1, s.2.2.2 + s.2.1)
  | f + 1, n, s => if (serN x b n s).2.1 ≤ hf (b - 8) then ((serN x b n s).2.2.1, (serN x b n s).2.2.2 + (serN x b n s).2.1) else serM x b f (n + 1) (serN x b n s)
theorem serN_ok {x : Rat} {b n : Nat} {s : Q4} (h0 : 0 ≤ x) (h1 : x ≤ 1 / 2) (h : SerI x b n s.1 s.2.1 s.2.2.1 s.2.2.2) : SerI x b (n + 1) (serN x b n s).1 (serN x b n s).2.1 (serN x b n s).2.2.1 (serN x b n s).2.2.2 := h.next h0 h1
theorem serM_ok {x : Rat} {b : Nat} (h0 : 0 ≤ x) (h1 : x ≤ 1 / 2) (hb : 200 ≤ b) (hb2 : b ≤ 300) : ∀ f n s, n + f = b → 0 < f → SerI x b n s.1 s.2.1 s.2.2.1 s.2.2.2 → SerE x b (serM x b f n s).1 (serM x b f n s).2 := by
  intro f
  induction f with
  | zero => intro n s hn h; omega
  | succ f ih =>
    intro n s hn _ h
    have h2 := serN_ok h0 h1 h
    unfold serM
    split
    · rename_i hc
      exact h2.done h0 h1 hb hb2 (by omega) hc
    · rename_i hc
      have := h2.lt (by omega) hc
      exact ih (n + 1) _ (by omega) (by omega) h2
/-- The series of e to the x. -/
def serX (x : Rat) (b : Nat) : Rat × Rat := serM x b b 0 (1, 1, 1, 1)
theorem serX_ok {x : Rat} {b : Nat} (h0 : 0 ≤ x) (h1 : x ≤ 1 / 2) (hb : 200 ≤ b) (hb2 : b ≤ 300) : SerE x b (serX x b).1 (serX x b).2 :=
  serM_ok h0 h1 hb hb2 b 0 _ (by omega) (by omega) (SerI.start x b)
/-- Squared some times. -/
def sqX (b : Nat) (p : Rat × Rat) : Nat → Rat × Rat
  | 0 => p
  | i + 1 => (dn ((sqX b p i).1 * (sqX b p i).1) b, up ((sqX b p i).2 * (sqX b p i).2) b)
theorem sqX_ok {y : Rat} {b : Nat} {p : Rat × Rat} (h0 : 0 ≤ y) (h : SerE y b p.1 p.2) (hb : 200 ≤ b) : ∀ i, i ≤ 7 → PowE y b i (sqX b p i).1 (sqX b p i).2 := by
  intro i
  induction i with
  | zero => intro _; exact h.pow hb
  | succ i ih => intro hi; exact (ih (by omega)).next h0 hb (by omega)
/-- How often x is halved. -/
theorem halves_of {x : Rat} (h1 : x ≤ 64) : ∃ T, T ≤ 7 ∧ x * hf T ≤ 1 / 2 ∧ ∀ j, j < T → ¬ x * hf j ≤ 1 / 2 := by
  have key : ∀ k, k ≤ 7 → (∃ T, T ≤ 7 ∧ x * hf T ≤ 1 / 2 ∧ ∀ j, j < T → ¬ x * hf j ≤ 1 / 2) ∨ ∀ j, j < k → ¬ x * hf j ≤ 1 / 2 := by
    intro k
    induction k with
    | zero => intro _; exact .inr fun j hj => by omega
    | succ k ih =>
      intro hk
      rcases ih (by omega) with h | h
      · exact .inl h
      · by_cases hc : x * hf k ≤ 1 / 2
        · exact .inl ⟨k, by omega, hc, h⟩
        · refine .inr fun j hj => ?_
          by_cases e : j = k
          · rw [e]; exact hc
          · exact h j (by omega)
  rcases key 7 (Nat.le_refl _) with h | h
  · exact h
  · refine ⟨7, Nat.le_refl _, ?_, h⟩
    rw [show hf 7 = 1 / 128 by decide +kernel]
    grind
theorem hf_1 : hf 1 = 1 / 2 := by decide +kernel
/-- What e to the x comes to, x from 0 to 64. -/
structure PowR (x : Rat) (b : Nat) (L H : Rat) : Prop where
  bnd : ExpB x L H
  one : 1 ≤ L
  le : L ≤ H
  wid : H ≤ L * (1 + 2187 * (2048 * hf b))
  top : H ≤ 162259276829213363391578010288128
theorem PowE.res {x : Rat} {b T : Nat} {L H : Rat} (h0 : 0 ≤ x) (hT : T ≤ 7) (h : PowE (x * hf T) b T L H) : PowR x b L H := by
  refine ⟨h.expB h0, h.one, h.le, ?_, ?_⟩
  · have h1 := h.wid
    have h2 := h.one
    have h3 := hf_pos b
    have hk : (((3 ^ T : Nat) : Int) : Rat) ≤ 2187 := nat_le (show 3 ^ T ≤ 2187 from Nat.le_trans (Nat.pow_le_pow_right (by decide) hT) (by decide))
    generalize (((3 ^ T : Nat) : Int) : Rat) = k at *
    have h4 := Rat.mul_le_mul_of_nonneg_right (c := 2048 * hf b) hk (by grind)
    have h5 : L * (1 + k * (2048 * hf b)) ≤ L * (1 + 2187 * (2048 * hf b)) := Rat.mul_le_mul_of_nonneg_left (by grind) (by grind)
    grind
  · have h1 := h.top
    have h2 : cap T ≤ 162259276829213363391578010288128 := by
      have h : T = 0 ∨ T = 1 ∨ T = 2 ∨ T = 3 ∨ T = 4 ∨ T = 5 ∨ T = 6 ∨ T = 7 := by omega
      rcases h with rfl | rfl | rfl | rfl | rfl | rfl | rfl | rfl <;> decide +kernel
    grind
theorem hf_mono_pow {k : Nat} {c : Rat} (hc : hf k ≤ c) {b : Nat} (h : k ≤ b) : hf b ≤ c := Rat.le_trans (hf_anti h) hc
/-- 1 by it. -/
theorem inv_le {a b : Rat} (ha : 0 < a) (h : a ≤ b) : 1 / b ≤ 1 / a := by
  have hb : 0 < b := by grind
  have e1 : 1 / b * b = 1 := by grind
  have e2 : 1 / a * a = 1 := by grind
  have p1 : 0 < 1 / b := by
    by_cases h : 0 < 1 / b
    · exact h
    · have := Rat.mul_le_mul_of_nonneg_right (c := b) (show 1 / b ≤ 0 by grind) (by grind)
      grind
  have p2 : 0 < 1 / a := by
    by_cases h : 0 < 1 / a
    · exact h
    · have := Rat.mul_le_mul_of_nonneg_right (c := a) (show 1 / a ≤ 0 by grind) (by grind)
      grind
  generalize 1 / b = u at *
  generalize 1 / a = v at *
  have h3 : u * a ≤ u * b := Rat.mul_le_mul_of_nonneg_left h (by grind)
  have h4 : v * (u * a) ≤ v * 1 := Rat.mul_le_mul_of_nonneg_left (by grind) (by grind)
  have h5 : v * (u * a) = u * (v * a) := by grind
  rw [h5, e2] at h4
  grind
theorem inv_pos' {a : Rat} (ha : 0 < a) : 0 < 1 / a := by
  by_cases h : 0 < 1 / a
  · exact h
  · have := Rat.mul_le_mul_of_nonneg_right (c := a) (show 1 / a ≤ 0 by grind) (by grind)
    grind
/-- Of e to the x, x below 0: what is answered. -/
structure NegR (x : Rat) (bits : Nat) (L H : Rat) : Prop where
  pos : 0 < L
  le : L ≤ H
  one : H ≤ 1
  wid : H - L ≤ hf bits
theorem up_one (b : Nat) : up 1 b = 1 := by
  have h := hf_tw b
  unfold up dn
  rw [show (0 - 1 : Rat) * tw b = (((-(2 ^ b : Nat) : Int)) : Rat) by unfold tw; rw [Rat.intCast_neg]; grind, Rat.floor_intCast]
  unfold tw at h
  rw [Rat.intCast_neg]
  grind
theorem PowR.neg {x : Rat} {bits A B : Nat} {L H : Rat} (h : PowR x B L H) (hA : A = bits + 120) (hB : B = bits + 208) : NegR x bits (dn (1 / H) A) (up (1 / L) A) := by
  have h1 := h.one
  have h2 := h.le
  have h3 := h.wid
  have h4 := h.top
  have i1 := inv_le (by grind) h2
  have i2 := inv_pos' (a := H) (by grind)
  have i3 := inv_le (a := 1) (b := L) (by decide +kernel) h1
  have i4 := inv_le (by grind) h4
  have d1 := dn_le (1 / H) A
  have d2 := dn_gt (1 / H) A
  have u1 := up_ge (1 / L) A
  have u2 := up_lt (1 / L) A
  have p0 := hf_pos bits
  have e1 := hf_add bits 120
  have e2 := hf_add bits 208
  rw [← hA] at e1
  rw [← hB] at e2
  have c1 : hf 120 ≤ 1 / 1000000 := hf_mono_pow (k := 20) (by decide +kernel) (by decide)
  have c2 : hf 208 ≤ 1 / 10000000000 := hf_mono_pow (k := 34) (by decide +kernel) (by decide)
  have c3 : hf A ≤ 1 / 1000000000000000000000000000000000000 := hf_mono_pow (k := 120) (by decide +kernel) (by omega)
  clear hA hB
  generalize hf 120 = f120 at *
  generalize hf 208 = f208 at *
  have m1 : hf bits * f120 ≤ hf bits * (1 / 1000000) := Rat.mul_le_mul_of_nonneg_left c1 (by grind)
  have m2 : hf bits * f208 ≤ hf bits * (1 / 10000000000) := Rat.mul_le_mul_of_nonneg_left c2 (by grind)
  have hup : up (1 / L) A ≤ 1 := by
    have := up_mono (x := 1 / L) (y := 1) (by grind) A
    rw [up_one] at this
    grind
  have hLH : 1 / L - 1 / H ≤ 2187 * (2048 * hf B) := by
    have f1 : 1 / L * L = 1 := by grind
    have f2 : 1 / H * H = 1 := by grind
    have j1 := inv_pos' (a := L) (by grind)
    have hr0 : 0 ≤ 2187 * (2048 * hf B) := by
      have := hf_pos B
      grind
    generalize 1 / L = u at *
    generalize 1 / H = v at *
    generalize 2187 * (2048 * hf B) = r at *
    -- u - v = u v (H - L) <= u v L r = v r <= r
    have g1 : u - v = u * v * (H - L) := by grind
    have g2 : u * v * (H - L) ≤ u * v * (L * r) := Rat.mul_le_mul_of_nonneg_left (by grind) (Rat.mul_nonneg (by grind) (by grind))
    have g3 : u * v * (L * r) = v * r := by grind
    have g4 : 0 ≤ r := hr0
    have g5 : v * r ≤ 1 * r := Rat.mul_le_mul_of_nonneg_right (by grind) g4
    grind
  refine ⟨by grind, by grind, hup, by grind⟩
theorem PowR.width {x : Rat} {bits B : Nat} {L H : Rat} (h : PowR x B L H) (hB : B = bits + 208) : H - L ≤ hf bits * H := by
  have h1 := h.one
  have h2 := h.le
  have h3 := h.wid
  have p0 := hf_pos bits
  have e2 := hf_add bits 208
  rw [← hB] at e2
  have c2 : hf 208 ≤ 1 / 10000000000 := hf_mono_pow (k := 34) (by decide +kernel) (by decide)
  clear hB
  generalize hf 208 = f208 at *
  have m2 : hf bits * f208 ≤ hf bits * (1 / 10000000000) := Rat.mul_le_mul_of_nonneg_left c2 (by grind)
  have g1 : H - L ≤ L * (2187 * (2048 * hf B)) := by grind
  have g2 : L * (2187 * (2048 * hf B)) ≤ L * hf bits := Rat.mul_le_mul_of_nonneg_left (by grind) (by grind)
  have g3 : L * hf bits ≤ H * hf bits := Rat.mul_le_mul_of_nonneg_right h2 (by grind)
  grind
end Go.Proofs.YtnfmpphlkalbfaaGreatDoor
