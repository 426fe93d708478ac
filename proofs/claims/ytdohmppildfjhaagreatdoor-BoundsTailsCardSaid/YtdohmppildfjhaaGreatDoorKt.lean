import Derived.Test.YtdohmppildfjhaaGreatDoorKr
namespace Go.Proofs.YtdohmppildfjhaaGreatDoor
set_option linter.unusedVariables false
abbrev Q4 := Rat × Rat × Rat × Rat
def fac (x : Rat) (n : Nat) : Rat := x * (1 / ((n + 1 : Nat) : Int))
def serN (x : Rat) (b n : Nat) (s : Q4) : Q4 := (dn (s.1 * fac x n) b, up (s.2.1 * fac x n) b, s.2.2.1 + dn (s.1 * fac x n) b, s.2.2.2 + up (s.2.1 * fac x n) b)
def serM (x : Rat) (b : Nat) : Nat → Nat → Q4 → Rat × Rat
 | 0, _, s => (s.2.2.1, s.2.2.2 + s.2.1)
 | f + 1, n, s => if (serN x b n s).2.1 ≤ hf (b - 8) then ((serN x b n s).2.2.1, (serN x b n s).2.2.2 + (serN x b n s).2.1) else serM x b f (n + 1) (serN x b n s)
theorem serN_ok {x : Rat} {b n : Nat} {s : Q4} (h0 : 0 ≤ x) (h1 : x ≤ 1 / 2) (h : SerI x b n s.1 s.2.1 s.2.2.1 s.2.2.2) : SerI x b (n + 1) (serN x b n s).1 (serN x b n s).2.1 (serN x b n s).2.2.1 (serN x b n s).2.2.2 := h.next h0 h1
theorem serM_ok {x : Rat} {b : Nat} (h0 : 0 ≤ x) (h1 : x ≤ 1 / 2) (hb : 200 ≤ b) (hb2 : b ≤ 300) : ∀ f n s, n + f = b → 0 < f → SerI x b n s.1 s.2.1 s.2.2.1 s.2.2.2 → SerE x b (serM x b f n s).1 (serM x b f n s).2 := by
 intro f
 induction f with
 | zero => intro n s hn h; omega
 | succ f ih =>
  intro n s hn _ h
  have h2 := serN_ok h0 h1 h
  unfold serM
  split
  ·
   rename_i hc
   exact h2.done h0 h1 hb hb2 (by omega) hc
  ·
   rename_i hc
   have := h2.lt (by omega) hc
   exact ih (n + 1) _ (by omega) (by omega) h2
def serX (x : Rat) (b : Nat) : Rat × Rat := serM x b b 0 (1, 1, 1, 1)
theorem serX_ok {x : Rat} {b : Nat} (h0 : 0 ≤ x) (h1 : x ≤ 1 / 2) (hb : 200 ≤ b) (hb2 : b ≤ 300) : SerE x b (serX x b).1 (serX x b).2 :=
 serM_ok h0 h1 hb hb2 b 0 _ (by omega) (by omega) (SerI.start x b)
def sqX (b : Nat) (p : Rat × Rat) : Nat → Rat × Rat
 | 0 => p
 | i + 1 => (dn ((sqX b p i).1 * (sqX b p i).1) b, up ((sqX b p i).2 * (sqX b p i).2) b)
theorem sqX_ok {y : Rat} {b : Nat} {p : Rat × Rat} (h0 : 0 ≤ y) (h : SerE y b p.1 p.2) (hb : 200 ≤ b) : ∀ i, i ≤ 7 → PowE y b i (sqX b p i).1 (sqX b p i).2 := by
 intro i
 induction i with
 | zero => intro _; exact h.pow hb
 | succ i ih => intro hi; exact (ih (by omega)).next h0 hb (by omega)
theorem halves_of {x : Rat} (h1 : x ≤ 64) : ∃ T, T ≤ 7 ∧ x * hf T ≤ 1 / 2 ∧ ∀ j, j < T → ¬ x * hf j ≤ 1 / 2 := by
 have key : ∀ k, k ≤ 7 → (∃ T, T ≤ 7 ∧ x * hf T ≤ 1 / 2 ∧ ∀ j, j < T → ¬ x * hf j ≤ 1 / 2) ∨ ∀ j, j < k → ¬ x * hf j ≤ 1 / 2 := by
  intro k
  induction k with
  | zero => intro _; exact .inr fun j hj => by omega
  | succ k ih =>
   intro hk
   rcases ih (by omega) with h | h
   ·
    exact .inl h
   ·
    by_cases hc : x * hf k ≤ 1 / 2
    ·
     exact .inl ⟨k, by omega, hc, h⟩
    ·
     refine .inr fun j hj => ?_
     by_cases e : j = k
     ·
      rw [e]; exact hc
     ·
      exact h j (by omega)
 rcases key 7 (Nat.le_refl _) with h | h
 ·
  exact h
 ·
  refine ⟨7, Nat.le_refl _, ?_, h⟩
  rw [show hf 7 = 1 / 128 by decide +kernel]
  grind
theorem hf_1 : hf 1 = 1 / 2 := by decide +kernel
structure PowR (x : Rat) (b : Nat) (L H : Rat) : Prop where
 bnd : ExpB x L H
 one : 1 ≤ L
 le : L ≤ H
 wid : H ≤ L * (1 + 2187 * (2048 * hf b))
 top : H ≤ 162259276829213363391578010288128
theorem PowE.res {x : Rat} {b T : Nat} {L H : Rat} (h0 : 0 ≤ x) (hT : T ≤ 7) (h : PowE (x * hf T) b T L H) : PowR x b L H := by
 refine ⟨h.expB h0, h.one, h.le, ?_, ?_⟩
 ·
  have h1 := h.wid
  have h2 := h.one
  have h3 := hf_pos b
  have hk : (((3 ^ T : Nat) : Int) : Rat) ≤ 2187 := nat_le (show 3 ^ T ≤ 2187 from Nat.le_trans (Nat.pow_le_pow_right (by decide) hT) (by decide))
  generalize (((3 ^ T : Nat) : Int) : Rat) = k at *
  have h4 := Rat.mul_le_mul_of_nonneg_right (c := 2048 * hf b) hk (by grind)
  have h5 : L * (1 + k * (2048 * hf b)) ≤ L * (1 + 2187 * (2048 * hf b)) := Rat.mul_le_mul_of_nonneg_left (by grind) (by grind)
  grind
 ·
  have h1 := h.top
  have h2 : cap T ≤ 162259276829213363391578010288128 := by
   have h : T = 0 ∨ T = 1 ∨ T = 2 ∨ T = 3 ∨ T = 4 ∨ T = 5 ∨ T = 6 ∨ T = 7 := by omega
   rcases h with rfl | rfl | rfl | rfl | rfl | rfl | rfl | rfl <;> decide +kernel
  grind
theorem hf_mono_pow {k : Nat} {c : Rat} (hc : hf k ≤ c) {b : Nat} (h : k ≤ b) : hf b ≤ c := Rat.le_trans (hf_anti h) hc
theorem inv_le {a b : Rat} (ha : 0 < a) (h : a ≤ b) : 1 / b ≤ 1 / a := by
 have hb : 0 < b := by grind
 have e1 : 1 / b * b = 1 := by grind
 have e2 : 1 / a * a = 1 := by grind
 have p1 : 0 < 1 / b := by
  by_cases h : 0 < 1 / b
  ·
   exact h
  ·
   have := Rat.mul_le_mul_of_nonneg_right (c := b) (show 1 / b ≤ 0 by grind) (by grind)
   grind
 have p2 : 0 < 1 / a := by
  by_cases h : 0 < 1 / a
  ·
   exact h
  ·
   have := Rat.mul_le_mul_of_nonneg_right (c := a) (show 1 / a ≤ 0 by grind) (by grind)
   grind
 generalize 1 / b = u at *
 generalize 1 / a = v at *
 have h3 : u * a ≤ u * b := Rat.mul_le_mul_of_nonneg_left h (by grind)
 have h4 : v * (u * a) ≤ v * 1 := Rat.mul_le_mul_of_nonneg_left (by grind) (by grind)
 have h5 : v * (u * a) = u * (v * a) := by grind
 rw [h5, e2] at h4
 grind
theorem inv_pos' {a : Rat} (ha : 0 < a) : 0 < 1 / a := by
 by_cases h : 0 < 1 / a
 ·
  exact h
 ·
  have := Rat.mul_le_mul_of_nonneg_right (c := a) (show 1 / a ≤ 0 by grind) (by grind)
  grind
structure NegR (x : Rat) (bits : Nat) (L H : Rat) : Prop where
 pos : 0 < L
 le : L ≤ H
 one : H ≤ 1
 wid : H - L ≤ hf bits
theorem up_one (b : Nat) : up 1 b = 1 := by
 have h := hf_tw b
 unfold up dn
 rw [show (0 - 1 : Rat) * tw b = (((-(2 ^ b : Nat) : Int)) : Rat) by unfold tw; rw [Rat.intCast_neg]; grind, Rat.floor_intCast]
 unfold tw at h
 rw [Rat.intCast_neg]
 grind
theorem PowR.neg {x : Rat} {bits A B : Nat} {L H : Rat} (h : PowR x B L H) (hA : A = bits + 120) (hB : B = bits + 208) : NegR x bits (dn (1 / H) A) (up (1 / L) A) := by
 have h1 := h.one
 have h2 := h.le
 have h3 := h.wid
 have h4 := h.top
 have i1 := inv_le (by grind) h2
 have i2 := inv_pos' (a := H) (by grind)
 have i3 := inv_le (a := 1) (b := L) (by decide +kernel) h1
 have i4 := inv_le (by grind) h4
 have d1 := dn_le (1 / H) A
 have d2 := dn_gt (1 / H) A
 have u1 := up_ge (1 / L) A
 have u2 := up_lt (1 / L) A
 have p0 := hf_pos bits
 have e1 := hf_add bits 120
 have e2 := hf_add bits 208
 rw [← hA] at e1
 rw [← hB] at e2
 have c1 : hf 120 ≤ 1 / 1000000 := hf_mono_pow (k := 20) (by decide +kernel) (by decide)
 have c2 : hf 208 ≤ 1 / 10000000000 := hf_mono_pow (k := 34) (by decide +kernel) (by decide)
 have c3 : hf A ≤ 1 / 1000000000000000000000000000000000000 := hf_mono_pow (k := 120) (by decide +kernel) (by omega)
 clear hA hB
 generalize hf 120 = f120 at *
 generalize hf 208 = f208 at *
 have m1 : hf bits * f120 ≤ hf bits * (1 / 1000000) := Rat.mul_le_mul_of_nonneg_left c1 (by grind)
 have m2 : hf bits * f208 ≤ hf bits * (1 / 10000000000) := Rat.mul_le_mul_of_nonneg_left c2 (by grind)
 have hup : up (1 / L) A ≤ 1 := by
  have := up_mono (x := 1 / L) (y := 1) (by grind) A
  rw [up_one] at this
  grind
 have hLH : 1 / L - 1 / H ≤ 2187 * (2048 * hf B) := by
  have f1 : 1 / L * L = 1 := by grind
  have f2 : 1 / H * H = 1 := by grind
  have j1 := inv_pos' (a := L) (by grind)
  have hr0 : 0 ≤ 2187 * (2048 * hf B) := by
   have := hf_pos B
   grind
  generalize 1 / L = u at *
  generalize 1 / H = v at *
  generalize 2187 * (2048 * hf B) = r at *
  have g1 : u - v = u * v * (H - L) := by grind
  have g2 : u * v * (H - L) ≤ u * v * (L * r) := Rat.mul_le_mul_of_nonneg_left (by grind) (Rat.mul_nonneg (by grind) (by grind))
  have g3 : u * v * (L * r) = v * r := by grind
  have g4 : 0 ≤ r := hr0
  have g5 : v * r ≤ 1 * r := Rat.mul_le_mul_of_nonneg_right (by grind) g4
  grind
 refine ⟨by grind, by grind, hup, by grind⟩
def sby (j : Nat) : Rat := 2 / ((2 * j + 1 : Nat) : Int)
def sloN (q : Rat) (b j : Nat) (s : Q4) : Q4 := (dn (s.1 * q) b, up (s.2.1 * q) b, s.2.2.1 + s.1 * sby j, s.2.2.2 + s.2.1 * sby j)
def sloM (q : Rat) (b : Nat) : Nat → Nat → Q4 → Rat × Rat
 | 0, _, s => (s.2.2.1, s.2.2.2 + 4 * s.2.1)
 | f + 1, j, s => if (sloN q b j s).2.1 ≤ hf (b - 8) then ((sloN q b j s).2.2.1, (sloN q b j s).2.2.2 + 4 * (sloN q b j s).2.1) else sloM q b f (j + 1) (sloN q b j s)
structure SloI (b j : Nat) (tl th sl sh : Rat) : Prop where
 t0 : 0 ≤ tl
 t1 : tl ≤ th
 t3 : th - tl ≤ 4 * hf b
 t4 : th ≤ hf j + 2 * hf b
 s0 : sl ≤ sh
 s3 : sh - sl ≤ ((8 * j : Nat) : Int) * hf b
theorem sby_le (j : Nat) : 0 ≤ sby j ∧ sby j ≤ 2 := by
 obtain ⟨a, c⟩ := inv_pos (n := 2 * j + 1) (by omega)
 have e : sby j = 2 * (1 / ((2 * j + 1 : Nat) : Int)) := by unfold sby; grind
 rw [e]
 generalize (1 : Rat) / ((2 * j + 1 : Nat) : Int) = i at *
 constructor <;> grind
theorem SloI.next {q : Rat} {b j : Nat} {s : Q4} (h0 : 0 ≤ q) (h1 : q ≤ 1 / 4) (h : SloI b j s.1 s.2.1 s.2.2.1 s.2.2.2) :
  SloI b (j + 1) (sloN q b j s).1 (sloN q b j s).2.1 (sloN q b j s).2.2.1 (sloN q b j s).2.2.2 := by
 obtain ⟨tl, th, sl, sh⟩ := s
 obtain ⟨t0, t1, t3, t4, s0, s3⟩ := h
 unfold sloN
 simp only [] at *
 obtain ⟨a, c⟩ := sby_le j
 have hp := hf_pos b
 have hs := hf_succ j
 have hj := hf_pos j
 have e4 : (((8 * (j + 1) : Nat) : Int) : Rat) = (((8 * j : Nat) : Int) : Rat) + 8 := by
  rw [show ((8 * (j + 1) : Nat) : Int) = ((8 * j : Nat) : Int) + 8 by omega, Rat.intCast_add]
  rfl
 generalize sby j = f at *
 have d1 := dn_le (tl * q) b
 have d2 := dn_gt (tl * q) b
 have u1 := up_ge (th * q) b
 have u2 := up_lt (th * q) b
 have n1 : 0 ≤ tl * q := Rat.mul_nonneg t0 h0
 have n2 := dn_nonneg n1 b
 have m1 := Rat.mul_le_mul_of_nonneg_right t1 h0
 have m3 : (th - tl) * q ≤ (4 * hf b) * (1 / 4) := mul_le_mul' t3 h1 h0 (by grind)
 have m4 : th * q ≤ (hf j + 2 * hf b) * (1 / 4) := mul_le_mul' t4 h1 h0 (by grind)
 have m5 : (th - tl) * f ≤ (4 * hf b) * 2 := mul_le_mul' t3 c a (by grind)
 have m6 := Rat.mul_le_mul_of_nonneg_right t1 a
 generalize dn (tl * q) b = DL at *
 generalize up (th * q) b = UH at *
 generalize hhb : hf b = hb at *
 generalize (((8 * j : Nat) : Int) : Rat) = N4 at *
 generalize hN5 : (((8 * (j + 1) : Nat) : Int) : Rat) = N5 at *
 generalize hh2 : hf (j + 1) = h2 at *
 generalize hf j = h3 at *
 refine ⟨n2, by grind, by rw [hhb]; grind, by rw [hhb, hh2]; grind, by grind, ?_⟩
 rw [hN5, hhb]
 clear hN5
 have e5 : N5 * hb = N4 * hb + 8 * hb := by rw [e4]; grind
 clear e4
 grind
theorem SloI.lt {b j : Nat} {tl th sl sh : Rat} (h : SloI b j tl th sl sh) (hb : 8 ≤ b) (hc : ¬ th ≤ hf (b - 8)) : j < b := by
 by_cases hn : j < b
 ·
  exact hn
 ·
  exfalso
  have h1 := h.t4
  have h2 := hf_anti (show b ≤ j by omega)
  have h3 := hf_pos b
  rw [hf_8 b hb] at hc
  grind
structure SloE (b : Nat) (L H : Rat) : Prop where
 le : L ≤ H
 wid : H - L ≤ 4096 * hf b
theorem SloI.done {b j : Nat} {tl th sl sh : Rat} (h : SloI b j tl th sl sh) (hb : 8 ≤ b) (hb2 : b ≤ 300) (hn : j ≤ b) (hc : th ≤ hf (b - 8)) : SloE b sl (sh + 4 * th) := by
 have hp := hf_pos b
 rw [hf_8 b hb] at hc
 have hw : ((8 * j : Nat) : Int) * hf b ≤ (2400 : Rat) * hf b := by
  refine Rat.mul_le_mul_of_nonneg_right ?_ (Rat.le_of_lt hp)
  exact nat_le (show 8 * j ≤ 2400 by omega)
 have h1 := h.t0
 have h2 := h.t1
 have h3 := h.s0
 have h4 := h.s3
 refine ⟨by grind, by grind⟩
theorem sloM_ok {q : Rat} {b : Nat} (h0 : 0 ≤ q) (h1 : q ≤ 1 / 4) (hb : 8 ≤ b) (hb2 : b ≤ 300) : ∀ f j s, j + f = b → 0 < f → SloI b j s.1 s.2.1 s.2.2.1 s.2.2.2 → SloE b (sloM q b f j s).1 (sloM q b f j s).2 := by
 intro f
 induction f with
 | zero => intro n s hn h; omega
 | succ f ih =>
  intro n s hn _ h
  have h2 := h.next h0 h1
  unfold sloM
  split
  ·
   rename_i hc
   exact h2.done hb hb2 (by omega) hc
  ·
   rename_i hc
   have := h2.lt hb hc
   exact ih (n + 1) _ (by omega) (by omega) h2
def sloX (t : Rat) (b : Nat) : Rat × Rat := sloM (t * t) b b 0 (t, t, 0, 0)
theorem sloI_start {t : Rat} {b : Nat} (h0 : 0 ≤ t) (h1 : t ≤ 1) : SloI b 0 t t 0 0 := by
 have h := hf_pos b
 refine ⟨h0, Rat.le_refl, by grind, by rw [hf_zero]; grind, Rat.le_refl, ?_⟩
 rw [show (((8 * 0 : Nat) : Int) : Rat) = 0 from rfl]
 grind
theorem sq_quarter {t : Rat} (h0 : 0 ≤ t) (h1 : t ≤ 1 / 2) : 0 ≤ t * t ∧ t * t ≤ 1 / 4 := by
 have := mul_le_mul' h1 h1 h0 (by grind)
 exact ⟨Rat.mul_nonneg h0 h0, by grind⟩
theorem sloX_ok {t : Rat} {b : Nat} (h0 : 0 ≤ t) (h1 : t ≤ 1 / 2) (hb : 8 ≤ b) (hb2 : b ≤ 300) : SloE b (sloX t b).1 (sloX t b).2 := by
 obtain ⟨a, c⟩ := sq_quarter h0 h1
 exact sloM_ok a c hb hb2 b 0 _ (by omega) (by omega) (sloI_start h0 (by grind))
def lnX (m : Rat) (n bits : Nat) : Rat × Rat :=
 (dn ((sloX ((m - 1) / (m + 1)) (bits + 80)).1 + (sloX (1 / 3) (bits + 80)).1 * ((n : Nat) : Int)) (bits + 40), up ((sloX ((m - 1) / (m + 1)) (bits + 80)).2 + (sloX (1 / 3) (bits + 80)).2 * ((n : Nat) : Int)) (bits + 40))
structure LnE (bits : Nat) (L H : Rat) : Prop where
 le : L ≤ H
 wid : H - L ≤ hf bits
theorem slope_arg {m : Rat} (h1 : 1 ≤ m) (h2 : m < 2) : 0 ≤ (m - 1) / (m + 1) ∧ (m - 1) / (m + 1) ≤ 1 / 2 := by
 have e : (m - 1) / (m + 1) * (m + 1) = m - 1 := by grind
 generalize (m - 1) / (m + 1) = t at *
 constructor
 ·
  by_cases h : 0 ≤ t
  ·
   exact h
  ·
   exfalso
   have := Rat.mul_lt_mul_of_pos_right (show t < 0 by grind) (show 0 < m + 1 by grind)
   grind
 ·
  by_cases h : t ≤ 1 / 2
  ·
   exact h
  ·
   exfalso
   have := Rat.mul_lt_mul_of_pos_right (show 1 / 2 < t by grind) (show 0 < m + 1 by grind)
   grind
theorem lnX_ok {m : Rat} {n bits : Nat} (h1 : 1 ≤ m) (h2 : m < 2) (hn : n ≤ 64) (hb : 1 ≤ bits) (hb2 : bits ≤ 64) : LnE bits (lnX m n bits).1 (lnX m n bits).2 := by
 obtain ⟨F, hF⟩ : ∃ F, F = bits + 80 := ⟨_, rfl⟩
 obtain ⟨G, hG⟩ : ∃ G, G = bits + 40 := ⟨_, rfl⟩
 obtain ⟨a, c⟩ := slope_arg h1 h2
 have s1 := sloX_ok (b := F) a c (by omega) (by omega)
 have s2 := sloX_ok (t := 1 / 3) (b := F) (by decide +kernel) (by decide +kernel) (by omega) (by omega)
 have e1 := hf_add bits 80
 have e2 := hf_add bits 40
 rw [← hF] at e1
 rw [← hG] at e2
 unfold lnX
 rw [← hF, ← hG]
 have c1 : hf 80 ≤ 1 / 1000000000000000000000000 := hf_mono_pow (k := 80) (by decide +kernel) (by decide)
 have c2 : hf 40 ≤ 1 / 1000000 := hf_mono_pow (k := 20) (by decide +kernel) (by decide)
 clear hF hG
 generalize hf 80 = f80 at *
 generalize hf 40 = f40 at *
 have p0 := hf_pos bits
 have p1 := hf_pos F
 have k0 : (0 : Rat) ≤ (((n : Nat) : Int) : Rat) := nat_le (Nat.zero_le n)
 have k1 : (((n : Nat) : Int) : Rat) ≤ 64 := nat_le hn
 generalize (((n : Nat) : Int) : Rat) = k at *
 obtain ⟨a1, a2⟩ := s1
 obtain ⟨a3, a4⟩ := s2
 generalize (sloX ((m - 1) / (m + 1)) F).1 = L1 at *
 generalize (sloX ((m - 1) / (m + 1)) F).2 = H1 at *
 generalize (sloX (1 / 3) F).1 = L2 at *
 generalize (sloX (1 / 3) F).2 = H2 at *
 have d1 := dn_le (L1 + L2 * k) G
 have d2 := dn_gt (L1 + L2 * k) G
 have u1 := up_ge (H1 + H2 * k) G
 have u2 := up_lt (H1 + H2 * k) G
 have m1 := Rat.mul_le_mul_of_nonneg_right a3 k0
 have m2 : (H2 - L2) * k ≤ (4096 * hf F) * 64 := mul_le_mul' a4 k1 k0 (by grind)
 have q1 : hf bits * f80 ≤ hf bits * (1 / 1000000000000000000000000) := Rat.mul_le_mul_of_nonneg_left c1 (by grind)
 have q2 : hf bits * f40 ≤ hf bits * (1 / 1000000) := Rat.mul_le_mul_of_nonneg_left c2 (by grind)
 generalize dn (L1 + L2 * k) G = D at *
 generalize up (H1 + H2 * k) G = U at *
 refine ⟨by grind, ?_⟩
 generalize hf bits = hb at *
 generalize hf F = hF at *
 generalize hf G = hG at *
 grind
theorem halves2_of {x : Rat} (h1 : x ≤ tw 64) : ∃ T, T ≤ 64 ∧ x * hf T < 2 ∧ ∀ j, j < T → 2 ≤ x * hf j := by
 have key : ∀ k, k ≤ 64 → (∃ T, T ≤ 64 ∧ x * hf T < 2 ∧ ∀ j, j < T → 2 ≤ x * hf j) ∨ ∀ j, j < k → 2 ≤ x * hf j := by
  intro k
  induction k with
  | zero => intro _; exact .inr fun j hj => by omega
  | succ k ih =>
   intro hk
   rcases ih (by omega) with h | h
   ·
    exact .inl h
   ·
    by_cases hc : x * hf k < 2
    ·
     exact .inl ⟨k, by omega, hc, h⟩
    ·
     refine .inr fun j hj => ?_
     by_cases e : j = k
     ·
      rw [e]; grind
     ·
      exact h j (by omega)
 rcases key 64 (Nat.le_refl _) with h | h
 ·
  exact h
 ·
  refine ⟨64, Nat.le_refl _, ?_, h⟩
  have e := hf_tw 64
  have p := hf_pos 64
  have := Rat.mul_le_mul_of_nonneg_right h1 (Rat.le_of_lt p)
  generalize hf 64 = a at *
  generalize tw 64 = c at *
  grind
theorem halves2_ge {x : Rat} {T : Nat} (h0 : 1 ≤ x) (hj : ∀ j, j < T → 2 ≤ x * hf j) : 1 ≤ x * hf T := by
 cases T with
 | zero => rw [hf_zero]; grind
 | succ T =>
  have := hj T (by omega)
  rw [hf_succ]
  grind
theorem LnE.neg {bits : Nat} {L H : Rat} (h : LnE bits L H) : LnE bits (0 - H) (0 - L) := by
 have h1 := h.le
 have h2 := h.wid
 exact ⟨by grind, by grind⟩
end Go.Proofs.YtdohmppildfjhaaGreatDoor
