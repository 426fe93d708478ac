import Derived.Test.YtdohmppildfjhaaGreatKs
namespace Go.Proofs.YtdohmppildfjhaaGreat
set_option linter.unusedVariables false
def sby (j : Nat) : Rat := 2 / ((2 * j + 1 : Nat) : Int)
def sloN (q : Rat) (b j : Nat) (s : Q4) : Q4 := (dn (s.1 * q) b, up (s.2.1 * q) b, s.2.2.1 + s.1 * sby j, s.2.2.2 + s.2.1 * sby j)
def sloM (q : Rat) (b : Nat) : Nat → Nat → Q4 → Rat × Rat
 | 0, _, s => (s.2.2.1, s.2.2.2 + 4 * s.2.1)
 | f + 1, j, s => if (sloN q b j s).2.1 ≤ hf (b - 8) then ((sloN q b j s).2.2.1, (sloN q b j s).2.2.2 + 4 * (sloN q b j s).2.1) else sloM q b f (j + 1) (sloN q b j s)
structure SloI (b j : Nat) (tl th sl sh : Rat) : Prop where
 t0 : 0 ≤ tl
 t1 : tl ≤ th
 t3 : th - tl ≤ 4 * hf b
 t4 : th ≤ hf j + 2 * hf b
 s0 : sl ≤ sh
 s3 : sh - sl ≤ ((8 * j : Nat) : Int) * hf b
theorem sby_le (j : Nat) : 0 ≤ sby j ∧ sby j ≤ 2 := by
 obtain ⟨a, c⟩ := inv_pos (n := 2 * j + 1) (by omega)
 have e : sby j = 2 * (1 / ((2 * j + 1 : Nat) : Int)) := by unfold sby; grind
 rw [e]
 generalize (1 : Rat) / ((2 * j + 1 : Nat) : Int) = i at *
 constructor <;> grind
theorem SloI.next {q : Rat} {b j : Nat} {s : Q4} (h0 : 0 ≤ q) (h1 : q ≤ 1 / 4) (h : SloI b j s.1 s.2.1 s.2.2.1 s.2.2.2) :
  SloI b (j + 1) (sloN q b j s).1 (sloN q b j s).2.1 (sloN q b j s).2.2.1 (sloN q b j s).2.2.2 := by
 obtain ⟨tl, th, sl, sh⟩ := s
 obtain ⟨t0, t1, t3, t4, s0, s3⟩ := h
 unfold sloN
 simp only [] at *
 obtain ⟨a, c⟩ := sby_le j
 have hp := hf_pos b
 have hs := hf_succ j
 have hj := hf_pos j
 have e4 : (((8 * (j + 1) : Nat) : Int) : Rat) = (((8 * j : Nat) : Int) : Rat) + 8 := by
  rw [show ((8 * (j + 1) : Nat) : Int) = ((8 * j : Nat) : Int) + 8 by omega, Rat.intCast_add]
  rfl
 generalize sby j = f at *
 have d1 := dn_le (tl * q) b
 have d2 := dn_gt (tl * q) b
 have u1 := up_ge (th * q) b
 have u2 := up_lt (th * q) b
 have n1 : 0 ≤ tl * q := Rat.mul_nonneg t0 h0
 have n2 := dn_nonneg n1 b
 have m1 := Rat.mul_le_mul_of_nonneg_right t1 h0
 have m3 : (th - tl) * q ≤ (4 * hf b) * (1 / 4) := mul_le_mul' t3 h1 h0 (by grind)
 have m4 : th * q ≤ (hf j + 2 * hf b) * (1 / 4) := mul_le_mul' t4 h1 h0 (by grind)
 have m5 : (th - tl) * f ≤ (4 * hf b) * 2 := mul_le_mul' t3 c a (by grind)
 have m6 := Rat.mul_le_mul_of_nonneg_right t1 a
 generalize dn (tl * q) b = DL at *
 generalize up (th * q) b = UH at *
 generalize hhb : hf b = hb at *
 generalize (((8 * j : Nat) : Int) : Rat) = N4 at *
 generalize hN5 : (((8 * (j + 1) : Nat) : Int) : Rat) = N5 at *
 generalize hh2 : hf (j + 1) = h2 at *
 generalize hf j = h3 at *
 refine ⟨n2, by grind, by rw [hhb]; grind, by rw [hhb, hh2]; grind, by grind, ?_⟩
 rw [hN5, hhb]
 clear hN5
 have e5 : N5 * hb = N4 * hb + 8 * hb := by rw [e4]; grind
 clear e4
 grind
theorem SloI.lt {b j : Nat} {tl th sl sh : Rat} (h : SloI b j tl th sl sh) (hb : 8 ≤ b) (hc : ¬ th ≤ hf (b - 8)) : j < b := by
 by_cases hn : j < b
 ·
  exact hn
 ·
  exfalso
  have h1 := h.t4
  have h2 := hf_anti (show b ≤ j by omega)
  have h3 := hf_pos b
  rw [hf_8 b hb] at hc
  grind
structure SloE (b : Nat) (L H : Rat) : Prop where
 le : L ≤ H
 wid : H - L ≤ 4096 * hf b
theorem SloI.done {b j : Nat} {tl th sl sh : Rat} (h : SloI b j tl th sl sh) (hb : 8 ≤ b) (hb2 : b ≤ 300) (hn : j ≤ b) (hc : th ≤ hf (b - 8)) : SloE b sl (sh + 4 * th) := by
 have hp := hf_pos b
 rw [hf_8 b hb] at hc
 have hw : ((8 * j : Nat) : Int) * hf b ≤ (2400 : Rat) * hf b := by
  refine Rat.mul_le_mul_of_nonneg_right ?_ (Rat.le_of_lt hp)
  exact nat_le (show 8 * j ≤ 2400 by omega)
 have h1 := h.t0
 have h2 := h.t1
 have h3 := h.s0
 have h4 := h.s3
 refine ⟨by grind, by grind⟩
theorem sloM_ok {q : Rat} {b : Nat} (h0 : 0 ≤ q) (h1 : q ≤ 1 / 4) (hb : 8 ≤ b) (hb2 : b ≤ 300) : ∀ f j s, j + f = b → 0 < f → SloI b j s.1 s.2.1 s.2.2.1 s.2.2.2 → SloE b (sloM q b f j s).1 (sloM q b f j s).2 := by
 intro f
 induction f with
 | zero => intro n s hn h; omega
 | succ f ih =>
  intro n s hn _ h
  have h2 := h.next h0 h1
  unfold sloM
  split
  ·
   rename_i hc
   exact h2.done hb hb2 (by omega) hc
  ·
   rename_i hc
   have := h2.lt hb hc
   exact ih (n + 1) _ (by omega) (by omega) h2
def sloX (t : Rat) (b : Nat) : Rat × Rat := sloM (t * t) b b 0 (t, t, 0, 0)
theorem sloI_start {t : Rat} {b : Nat} (h0 : 0 ≤ t) (h1 : t ≤ 1) : SloI b 0 t t 0 0 := by
 have h := hf_pos b
 refine ⟨h0, Rat.le_refl, by grind, by rw [hf_zero]; grind, Rat.le_refl, ?_⟩
 rw [show (((8 * 0 : Nat) : Int) : Rat) = 0 from rfl]
 grind
theorem sq_quarter {t : Rat} (h0 : 0 ≤ t) (h1 : t ≤ 1 / 2) : 0 ≤ t * t ∧ t * t ≤ 1 / 4 := by
 have := mul_le_mul' h1 h1 h0 (by grind)
 exact ⟨Rat.mul_nonneg h0 h0, by grind⟩
theorem sloX_ok {t : Rat} {b : Nat} (h0 : 0 ≤ t) (h1 : t ≤ 1 / 2) (hb : 8 ≤ b) (hb2 : b ≤ 300) : SloE b (sloX t b).1 (sloX t b).2 := by
 obtain ⟨a, c⟩ := sq_quarter h0 h1
 exact sloM_ok a c hb hb2 b 0 _ (by omega) (by omega) (sloI_start h0 (by grind))
def lnX (m : Rat) (n bits : Nat) : Rat × Rat :=
 (dn ((sloX ((m - 1) / (m + 1)) (bits + 80)).1 + (sloX (1 / 3) (bits + 80)).1 * ((n : Nat) : Int)) (bits + 40), up ((sloX ((m - 1) / (m + 1)) (bits + 80)).2 + (sloX (1 / 3) (bits + 80)).2 * ((n : Nat) : Int)) (bits + 40))
structure LnE (bits : Nat) (L H : Rat) : Prop where
 le : L ≤ H
 wid : H - L ≤ hf bits
theorem slope_arg {m : Rat} (h1 : 1 ≤ m) (h2 : m < 2) : 0 ≤ (m - 1) / (m + 1) ∧ (m - 1) / (m + 1) ≤ 1 / 2 := by
 have e : (m - 1) / (m + 1) * (m + 1) = m - 1 := by grind
 generalize (m - 1) / (m + 1) = t at *
 constructor
 ·
  by_cases h : 0 ≤ t
  ·
   exact h
  ·
   exfalso
   have := Rat.mul_lt_mul_of_pos_right (show t < 0 by grind) (show 0 < m + 1 by grind)
   grind
 ·
  by_cases h : t ≤ 1 / 2
  ·
   exact h
  ·
   exfalso
   have := Rat.mul_lt_mul_of_pos_right (show 1 / 2 < t by grind) (show 0 < m + 1 by grind)
   grind
theorem lnX_ok {m : Rat} {n bits : Nat} (h1 : 1 ≤ m) (h2 : m < 2) (hn : n ≤ 64) (hb : 1 ≤ bits) (hb2 : bits ≤ 64) : LnE bits (lnX m n bits).1 (lnX m n bits).2 := by
 obtain ⟨F, hF⟩ : ∃ F, F = bits + 80 := ⟨_, rfl⟩
 obtain ⟨G, hG⟩ : ∃ G, G = bits + 40 := ⟨_, rfl⟩
 obtain ⟨a, c⟩ := slope_arg h1 h2
 have s1 := sloX_ok (b := F) a c (by omega) (by omega)
 have s2 := sloX_ok (t := 1 / 3) (b := F) (by decide +kernel) (by decide +kernel) (by omega) (by omega)
 have e1 := hf_add bits 80
 have e2 := hf_add bits 40
 rw [← hF] at e1
 rw [← hG] at e2
 unfold lnX
 rw [← hF, ← hG]
 have c1 : hf 80 ≤ 1 / 1000000000000000000000000 := hf_mono_pow (k := 80) (by decide +kernel) (by decide)
 have c2 : hf 40 ≤ 1 / 1000000 := hf_mono_pow (k := 20) (by decide +kernel) (by decide)
 clear hF hG
 generalize hf 80 = f80 at *
 generalize hf 40 = f40 at *
 have p0 := hf_pos bits
 have p1 := hf_pos F
 have k0 : (0 : Rat) ≤ (((n : Nat) : Int) : Rat) := nat_le (Nat.zero_le n)
 have k1 : (((n : Nat) : Int) : Rat) ≤ 64 := nat_le hn
 generalize (((n : Nat) : Int) : Rat) = k at *
 obtain ⟨a1, a2⟩ := s1
 obtain ⟨a3, a4⟩ := s2
 generalize (sloX ((m - 1) / (m + 1)) F).1 = L1 at *
 generalize (sloX ((m - 1) / (m + 1)) F).2 = H1 at *
 generalize (sloX (1 / 3) F).1 = L2 at *
 generalize (sloX (1 / 3) F).2 = H2 at *
 have d1 := dn_le (L1 + L2 * k) G
 have d2 := dn_gt (L1 + L2 * k) G
 have u1 := up_ge (H1 + H2 * k) G
 have u2 := up_lt (H1 + H2 * k) G
 have m1 := Rat.mul_le_mul_of_nonneg_right a3 k0
 have m2 : (H2 - L2) * k ≤ (4096 * hf F) * 64 := mul_le_mul' a4 k1 k0 (by grind)
 have q1 : hf bits * f80 ≤ hf bits * (1 / 1000000000000000000000000) := Rat.mul_le_mul_of_nonneg_left c1 (by grind)
 have q2 : hf bits * f40 ≤ hf bits * (1 / 1000000) := Rat.mul_le_mul_of_nonneg_left c2 (by grind)
 generalize dn (L1 + L2 * k) G = D at *
 generalize up (H1 + H2 * k) G = U at *
 refine ⟨by grind, ?_⟩
 generalize hf bits = hb at *
 generalize hf F = hF at *
 generalize hf G = hG at *
 grind
theorem halves2_of {x : Rat} (h1 : x ≤ tw 64) : ∃ T, T ≤ 64 ∧ x * hf T < 2 ∧ ∀ j, j < T → 2 ≤ x * hf j := by
 have key : ∀ k, k ≤ 64 → (∃ T, T ≤ 64 ∧ x * hf T < 2 ∧ ∀ j, j < T → 2 ≤ x * hf j) ∨ ∀ j, j < k → 2 ≤ x * hf j := by
  intro k
  induction k with
  | zero => intro _; exact .inr fun j hj => by omega
  | succ k ih =>
   intro hk
   rcases ih (by omega) with h | h
   ·
    exact .inl h
   ·
    by_cases hc : x * hf k < 2
    ·
     exact .inl ⟨k, by omega, hc, h⟩
    ·
     refine .inr fun j hj => ?_
     by_cases e : j = k
     ·
      rw [e]; grind
     ·
      exact h j (by omega)
 rcases key 64 (Nat.le_refl _) with h | h
 ·
  exact h
 ·
  refine ⟨64, Nat.le_refl _, ?_, h⟩
  have e := hf_tw 64
  have p := hf_pos 64
  have := Rat.mul_le_mul_of_nonneg_right h1 (Rat.le_of_lt p)
  generalize hf 64 = a at *
  generalize tw 64 = c at *
  grind
theorem halves2_ge {x : Rat} {T : Nat} (h0 : 1 ≤ x) (hj : ∀ j, j < T → 2 ≤ x * hf j) : 1 ≤ x * hf T := by
 cases T with
 | zero => rw [hf_zero]; grind
 | succ T =>
  have := hj T (by omega)
  rw [hf_succ]
  grind
theorem LnE.neg {bits : Nat} {L H : Rat} (h : LnE bits L H) : LnE bits (0 - H) (0 - L) := by
 have h1 := h.le
 have h2 := h.wid
 exact ⟨by grind, by grind⟩
end Go.Proofs.YtdohmppildfjhaaGreat
