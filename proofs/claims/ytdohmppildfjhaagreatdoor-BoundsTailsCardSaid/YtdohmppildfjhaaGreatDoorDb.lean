import Derived.Test.YtdohmppildfjhaaGreatDoorD1
import Derived.Test.YtdohmppildfjhaaGreatDoorRj
import Derived.Test.YtdohmppildfjhaaGreatDoorE7
import Derived.Test.YtdohmppildfjhaaGreatDoorE6
namespace Go.Proofs.YtdohmppildfjhaaGreatDoor
open Go.Eng Go.Vx
set_option linter.unusedSimpArgs false
set_option linter.unusedVariables false
set_option maxRecDepth 100000
theorem lz64_fn {n : Nat} (hn : n < 18446744073709551616) : Fn1 Tryz.prog 131 [.lit (.int .u64 n)] [] (.lit (.int .i64 ((64 - bl n : Nat) : Int))) [] := by
 refine fn1N_of pl131 (by kernel_rfl) Tryz.call131 Tryz.func131 rfl (by kernel_rfl) rfl [.tmp 2] (by kernel_rfl) fun Q hQ => ?_
 have h1 := bl_le_of (n := n) (k := 64) (by omega)
 have h2 : (64 : Int) - (bl n : Int) = ((64 - bl n : Nat) : Int) := by omega
 refine runW ?_
 refine callV0 (len64_fn (n := n) hn) rfl rfl ?_
 simp (maxSteps := 1000000) (disch := (first | omega | (simp only [lnA, List.length_map, List.length_range, true_and, and_true]; (try omega); done) | fail)) only [go_sem, h2, Int.reduceEq, Int.reduceToNat, Nat.reduceAdd, Nat.reduceMul, Nat.reduceEqDiff, ↓reduceIte]
 exact endW [] hQ
theorem wrap_int (z : Int) : IntKind.u64.wrap z = z % 18446744073709551616 := by
 unfold IntKind.wrap
 have e : IntKind.u64.bits = 64 := rfl
 have e2 : IntKind.u64.signed = false := rfl
 rw [e, e2]
 simp
theorem or_add {A B s : Nat} (hA : A * 2 ^ s < 18446744073709551616) (hB : B < 2 ^ s) (hs : s ≤ 63) : bitK .or .u64 ((A * 2 ^ s : Nat) : Int) (B : Int) = ((A * 2 ^ s + B : Nat) : Int) := by
 have h63 : 2 ^ s ≤ 2 ^ 63 := Nat.pow_le_pow_right (by decide) hs
 rw [or_u64 hA (by omega), ← Nat.shiftLeft_eq, ← Nat.shiftLeft_add_eq_or_of_lt hB]
theorem rest_wrap {u d q Y R : Nat} (h : Y * q + R = u * 4294967296 + d) (hR : R < 18446744073709551616) :
  IntKind.u64.wrap (IntKind.u64.wrap (IntKind.u64.wrap ((u : Int) * 4294967296) + (d : Int)) - IntKind.u64.wrap ((q : Int) * (Y : Int))) = (R : Int) := by
 have e : (q : Int) * (Y : Int) = ((Y * q : Nat) : Int) := by rw [Nat.mul_comm]; simp
 rw [e]
 generalize Y * q = P at *
 rw [wrap_int, wrap_int, wrap_int, wrap_int]
 omega
theorem half_facts {u d y1 y0 Y Qn Rn : Nat} (hYe : y1 * 4294967296 + y0 = Y) (l1 : 2147483648 ≤ y1) (l3 : y0 < 4294967296) (l4 : d < 4294967296) (w2 : u < Y) (hQe : (u * 4294967296 + d) / Y = Qn) (hRe : (u * 4294967296 + d) % Y = Rn) (hY64 : Y < 18446744073709551616 := by omega) :
  u / y1 * y1 + u % y1 = u ∧ Qn ≤ u / y1 ∧ u % y1 < 4294967296 ∧ u / y1 ≤ 4294967297 ∧
  (u : Int) / (y1 : Int) = ((u / y1 : Nat) : Int) ∧ IntKind.u64.wrap (((u / y1 : Nat) : Int) * (y1 : Int)) = ((y1 * (u / y1) : Nat) : Int) ∧ (u : Int) - ((y1 * (u / y1) : Nat) : Int) = ((u % y1 : Nat) : Int) ∧
  IntKind.u64.wrap (IntKind.u64.wrap (IntKind.u64.wrap ((u : Int) * 4294967296) + (d : Int)) - IntKind.u64.wrap ((Qn : Int) * (Y : Int))) = (Rn : Int) ∧
  (∀ q r, q * y1 + r = u → Qn ≤ q → (4294967296 ≤ q ∨ 4294967296 * r + d < q * y0) → 0 < q ∧ Qn ≤ q - 1 ∧ (q - 1) * y1 + (r + y1) = u) ∧
  (∀ q r, q * y1 + r = u → Qn ≤ q → q * y0 ≤ 4294967296 * r + d → q = Qn) ∧
  (∀ q r, q * y1 + r = u → Qn ≤ q → q ≤ 4294967296 → 4294967296 ≤ r → q = Qn) := by
 have hy0 : 0 < Y := by omega
 have r1 := Nat.div_add_mod (u * 4294967296 + d) Y
 have r1l := Nat.mod_lt (u * 4294967296 + d) hy0
 rw [hQe, hRe] at r1
 rw [hRe] at r1l
 have s1 := half_low (u := u) (d := d) (y1 := y1) (y0 := y0) l4 (by omega)
 rw [hYe, hQe] at s1
 have i1 := Nat.div_add_mod u y1
 have i1l := Nat.mod_lt u (show 0 < y1 by omega)
 have y1l : y1 < 4294967296 := by omega
 have e6 : ((u / y1 : Nat) : Int) * (y1 : Int) = ((y1 * (u / y1) : Nat) : Int) := by rw [Nat.mul_comm]; simp
 have hlt : y1 * (u / y1) < 18446744073709551616 := by omega
 have e7 : (u : Int) - ((y1 * (u / y1) : Nat) : Int) = ((u % y1 : Nat) : Int) := by
  generalize y1 * (u / y1) = P at *
  omega
 refine ⟨by rw [Nat.mul_comm]; exact i1, s1, by omega, half_start l1 l3 (by omega), by simp, ?_, e7, rest_wrap r1 (by omega), ?_, ?_, ?_⟩
 ·
  rw [e6, wrap_int]
  generalize y1 * (u / y1) = P at *
  omega
 ·
  intro q r a b c
  rw [← hQe, ← hYe] at b ⊢
  exact half_dec l4 (by omega) a b c
 ·
  intro q r a b c
  rw [← hQe, ← hYe] at b ⊢
  exact half_stop (by omega) a b c
 ·
  intro q r a b c e
  rw [← hQe, ← hYe] at b ⊢
  exact half_break (by omega) l3 a b c e
theorem two_halves {u d1 d0 un : Nat} (h : d1 * 4294967296 + d0 = un) : (u * 4294967296 + d1) * 4294967296 + d0 = u * 18446744073709551616 + un := by
 have e : (4294967296 : Nat) * 4294967296 = 18446744073709551616 := by decide
 rw [Nat.add_mul, Nat.mul_assoc, Nat.add_assoc, h, e]
set_option maxHeartbeats 4000000 in
theorem div64_fn {hi lo y : Nat} (hhi : hi < y) (hlo : lo < 18446744073709551616) (hy : y < 18446744073709551616) : Fn1 Tryz.prog 114 [.lit (.int .u64 hi), .lit (.int .u64 lo), .lit (.int .u64 y)] []
  (.tup [.lit (.int .u64 (((hi * 18446744073709551616 + lo) / y : Nat) : Int)), .lit (.int .u64 (((hi * 18446744073709551616 + lo) % y : Nat) : Int))]) [] := by
 refine fn1N_of pl114 (by kernel_rfl) Tryz.call114 Tryz.func114 rfl (by kernel_rfl) rfl [.tmp 6, .tmp 7] (by kernel_rfl) fun Q hQ => ?_
 by_cases hz : hi = 0
 ·
  subst hz
  rw [Nat.zero_mul, Nat.zero_add] at hQ
  have e1 : (lo : Int) / (y : Int) = ((lo / y : Nat) : Int) := by simp
  have e2 : (lo : Int) % (y : Int) = ((lo % y : Nat) : Int) := by simp
  simp (maxSteps := 1000000) (disch := (first | omega | (simp only [lnA, List.length_map, List.length_range, true_and, and_true]; (try omega); done) | fail)) only [go_sem, e1, e2, Int.reduceEq, Int.reduceToNat, Nat.reduceAdd, Nat.reduceMul, Nat.reduceEqDiff, ↓reduceIte]
  exact endW [] hQ
 ·
  obtain ⟨n1, n2, n3, n4⟩ := norm_up (y := y) (by omega) hy
  have hlz := lz64_fn (n := y) hy
  have hb1 := bl_pos (n := y) (by omega)
  obtain ⟨s, hs⟩ : ∃ s, 64 - bl y = s := ⟨_, rfl⟩
  rw [hs] at n1 n3 n4 hlz
  obtain ⟨w1, w2, w3⟩ := shift_words (hi := hi) (lo := lo) (y := y) n1 hlo hhi n4
  obtain ⟨v1, v2⟩ := div_shift (a := hi * 18446744073709551616 + lo) (y := y) (s := s) (by omega)
  have hp : 0 < 2 ^ s := Nat.pow_pos (by decide)
  have hhs : hi * 2 ^ s < 18446744073709551616 := Nat.lt_of_le_of_lt (Nat.le_add_right _ _) (Nat.lt_trans w2 n4)
  have hor := or_add (A := hi) hhs w3 n1
  have k1 : IntKind.u64.wrap ((y : Int) * 2 ^ s) = ((y * 2 ^ s : Nat) : Int) := by rw [wrap_mul, Nat.mod_eq_of_lt (by omega)]
  have k2 : IntKind.u64.wrap ((hi : Int) * 2 ^ s) = ((hi * 2 ^ s : Nat) : Int) := by rw [wrap_mul, Nat.mod_eq_of_lt (by omega)]
  have k3 : IntKind.u64.wrap ((lo : Int) * 2 ^ s) = ((lo * 2 ^ s % 18446744073709551616 : Nat) : Int) := wrap_mul _ _
  have k4 : (64 : Int) - (s : Int) = ((64 - s : Nat) : Int) := by omega
  have k5 : (lo : Int) / 2 ^ (64 - s) = ((lo / 2 ^ (64 - s) : Nat) : Int) := div_nat lo (64 - s)
  rw [← w1] at v1 v2
  have hrem : (hi * 18446744073709551616 + lo) % y * 2 ^ s / 2 ^ s = (hi * 18446744073709551616 + lo) % y := Nat.mul_div_cancel _ hp
  rw [← v2] at hrem
  rw [← v1] at hQ
  obtain ⟨rem, hrm⟩ : ∃ rem, (hi * 18446744073709551616 + lo) % y = rem := ⟨_, rfl⟩
  rw [hrm] at hrem hQ
  clear hrm w1 v1 v2
  obtain ⟨Y, hY⟩ : ∃ Y, y * 2 ^ s = Y := ⟨_, rfl⟩
  rw [hY] at w2 n3 n4 k1 hrem hQ
  obtain ⟨u, hu⟩ : ∃ u, hi * 2 ^ s + lo / 2 ^ (64 - s) = u := ⟨_, rfl⟩
  rw [hu] at w2 hor hrem hQ
  have hun := Nat.mod_lt (lo * 2 ^ s) (show 0 < 18446744073709551616 by decide)
  obtain ⟨un, hune⟩ : ∃ un, lo * 2 ^ s % 18446744073709551616 = un := ⟨_, rfl⟩
  rw [hune] at hun k3 hrem hQ
  obtain ⟨lt, hlte⟩ : ∃ lt, lo / 2 ^ (64 - s) = lt := ⟨_, rfl⟩
  rw [hlte] at hu hor k5
  obtain ⟨ht, hhte⟩ : ∃ ht, hi * 2 ^ s = ht := ⟨_, rfl⟩
  rw [hhte] at hu hor k2
  clear hune hlte hhte hhs w3
  have m1 : (Y : Int) / 4294967296 = ((Y / 4294967296 : Nat) : Int) := by omega
  have m2 : (Y : Int) % 4294967296 = ((Y % 4294967296 : Nat) : Int) := by omega
  have m3 : (un : Int) / 4294967296 = ((un / 4294967296 : Nat) : Int) := by omega
  have m4 : (un : Int) % 4294967296 = ((un % 4294967296 : Nat) : Int) := by omega
  have hYe : Y / 4294967296 * 4294967296 + Y % 4294967296 = Y := Nat.div_add_mod' Y 4294967296
  have hue : un / 4294967296 * 4294967296 + un % 4294967296 = un := Nat.div_add_mod' un 4294967296
  have l1 : 2147483648 ≤ Y / 4294967296 := by omega
  have l2 : Y / 4294967296 < 4294967296 := by omega
  have l3 : Y % 4294967296 < 4294967296 := by omega
  have l4 : un / 4294967296 < 4294967296 := by omega
  have l5 : un % 4294967296 < 4294967296 := by omega
  generalize Y / 4294967296 = y1 at *
  generalize Y % 4294967296 = y0 at *
  generalize un / 4294967296 = d1 at *
  generalize un % 4294967296 = d0 at *
  obtain ⟨z1, z2, z3, z4⟩ := halves (b := 4294967296) (N2 := u) (un1 := d1) (un0 := d0) (show 0 < Y by omega) w2 l4 l5
  have hNe := two_halves (u := u) hue
  rw [hNe] at z1 z2
  rw [← z1] at hQ
  rw [← z2] at hrem
  have r1 := Nat.div_add_mod (u * 4294967296 + d1) Y
  have r1l := Nat.mod_lt (u * 4294967296 + d1) (show 0 < Y by omega)
  obtain ⟨Q1, hQ1e⟩ : ∃ q, (u * 4294967296 + d1) / Y = q := ⟨_, rfl⟩
  obtain ⟨R1, hR1e⟩ : ∃ q, (u * 4294967296 + d1) % Y = q := ⟨_, rfl⟩
  have f1 := half_facts hYe l1 l3 l4 w2 hQ1e hR1e
  rw [hQ1e, hR1e] at hQ
  rw [hQ1e] at z3
  rw [hR1e] at hrem z4 r1l
  clear hQ1e hR1e r1 z1 z2 hNe
  obtain ⟨Q0, hQ0e⟩ : ∃ q, (R1 * 4294967296 + d0) / Y = q := ⟨_, rfl⟩
  obtain ⟨R0, hR0e⟩ : ∃ q, (R1 * 4294967296 + d0) % Y = q := ⟨_, rfl⟩
  have f0 := half_facts hYe l1 l3 l5 r1l hQ0e hR0e
  rw [hQ0e] at hQ z4
  rw [hR0e] at hrem
  clear hQ0e hR0e
  obtain ⟨a1, a2, a3, a4, a5, a6, a7, a8, a9, a10, a11⟩ := f1
  obtain ⟨b1, b2, b3, b4, b5, b6, b7, b8, b9, b10, b11⟩ := f0
  have k6 : (R0 : Int) / 2 ^ s = ((R0 / 2 ^ s : Nat) : Int) := div_nat R0 s
  rw [hrem] at k6
  refine runW ?_
  refine callV0 (hlz) rfl rfl ?_
  simp (maxSteps := 1000000) (disch := (first | omega | (simp only [lnA, List.length_map, List.length_range, true_and, and_true]; (try omega); done) | fail)) only [go_sem, k1, k2, k3, k4, k5, hor, hu, m1, m2, m3, m4, a5, a6, a7, Int.reduceEq, Int.reduceToNat, Nat.reduceAdd, Nat.reduceMul, Nat.reduceEqDiff, ↓reduceIte]
  refine loopW (X := Nat × Nat) (st := fun z => ([(2, .lit (.int .u64 (Y : Int))), (8, .lit (.int .u64 (s : Int))), (9, .lit (.int .u64 (y1 : Int))), (10, .lit (.int .u64 (y0 : Int))), (11, .lit (.int .u64 (u : Int))), (13, .lit (.int .u64 (d1 : Int))), (14, .lit (.int .u64 (d0 : Int))), (15, .lit (.int .u64 (z.1 : Int))), (16, .lit (.int .u64 (z.2 : Int)))], []))
   (inv := fun z => z.1 * y1 + z.2 = u ∧ Q1 ≤ z.1 ∧ z.2 < 4294967296 ∧ z.1 ≤ 4294967297) (m := fun z => z.1) (u / y1, u % y1) [] ⟨a1, a2, a3, a4⟩ ?_
  rintro ⟨q, r⟩ ⟨g1, g2, g3, g4⟩
  simp only at g1 g2 g3 g4 ⊢
  have hqm : (q : Int) - 1 = ((q - 1 : Nat) : Int) ∨ q = 0 := by omega
  have hqy : (q : Int) * (y0 : Int) = ((q * y0 : Nat) : Int) := by simp
  have hqb : q < 4294967296 → q * y0 < 18446744073709551616 := fun h => by
   have := Nat.mul_le_mul (show q ≤ 4294967295 by omega) (show y0 ≤ 4294967295 by omega)
   omega
  have hdec := a9 q r g1 g2
  have hfin := a10 q r g1 g2
  have hbrk := a11 (q - 1) (r + y1)
  generalize q * y0 = P at *
  have cs : (4294967296 ≤ q ∧ r + y1 < 4294967296) ∨ ((q < 4294967296 ∧ 4294967296 * r + d1 < P) ∧ r + y1 < 4294967296) ∨ (4294967296 ≤ q ∧ 4294967296 ≤ r + y1) ∨ ((q < 4294967296 ∧ 4294967296 * r + d1 < P) ∧ 4294967296 ≤ r + y1) ∨ (q < 4294967296 ∧ P ≤ 4294967296 * r + d1) := by omega
  rcases cs with ⟨c1, c3⟩ | ⟨⟨c1, c2⟩, c3⟩ | ⟨c1, c3⟩ | ⟨⟨c1, c2⟩, c3⟩ | ⟨c1, c2⟩
  ·
   obtain ⟨e1, e2, e3⟩ := hdec (.inl c1)
   have hm1 : (q : Int) - 1 = ((q - 1 : Nat) : Int) := by omega
   simp (maxSteps := 1000000) (disch := (first | omega | (simp only [lnA, List.length_map, List.length_range, true_and, and_true]; (try omega); done) | fail)) only [go_sem, hm1, Int.reduceEq, Int.reduceToNat, Nat.reduceAdd, Nat.reduceMul, Nat.reduceEqDiff, ↓reduceIte]
   refine nextW (q - 1, r + y1) [] ⟨e3, e2, by simp only; omega, by simp only; omega⟩ (by simp only; omega)
  ·
   obtain ⟨e1, e2, e3⟩ := hdec (.inr c2)
   have hqb := hqb c1
   have hm1 : (q : Int) - 1 = ((q - 1 : Nat) : Int) := by omega
   simp (maxSteps := 1000000) (disch := (first | omega | (simp only [lnA, List.length_map, List.length_range, true_and, and_true]; (try omega); done) | fail)) only [go_sem, hqy, hm1, Int.reduceEq, Int.reduceToNat, Nat.reduceAdd, Nat.reduceMul, Nat.reduceEqDiff, ↓reduceIte]
   refine nextW (q - 1, r + y1) [] ⟨e3, e2, by simp only; omega, by simp only; omega⟩ (by simp only; omega)
  ·
   obtain ⟨e1, e2, e3⟩ := hdec (.inl c1)
   have e4 := hbrk e3 e2 (by omega) c3
   have hm1 : (q : Int) - 1 = (Q1 : Int) := by omega
   simp (maxSteps := 1000000) (disch := (first | omega | (simp only [lnA, List.length_map, List.length_range, true_and, and_true]; (try omega); done) | fail)) only [go_sem, hm1, a8, b5, b6, b7, Int.reduceEq, Int.reduceToNat, Nat.reduceAdd, Nat.reduceMul, Nat.reduceEqDiff, ↓reduceIte]
   clear a1 a2 a3 a4 a9 a10 a11 hdec hfin hbrk g1 g2 g3 g4
   refine loopW (X := Nat × Nat) (st := fun z => ([(2, .lit (.int .u64 (Y : Int))), (8, .lit (.int .u64 (s : Int))), (9, .lit (.int .u64 (y1 : Int))), (10, .lit (.int .u64 (y0 : Int))), (14, .lit (.int .u64 (d0 : Int))), (15, .lit (.int .u64 (Q1 : Int))), (17, .lit (.int .u64 (R1 : Int))), (18, .lit (.int .u64 (z.1 : Int))), (16, .lit (.int .u64 (z.2 : Int)))], []))
    (inv := fun z => z.1 * y1 + z.2 = R1 ∧ Q0 ≤ z.1 ∧ z.2 < 4294967296 ∧ z.1 ≤ 4294967297) (m := fun z => z.1) (R1 / y1, R1 % y1) [] ⟨b1, b2, b3, b4⟩ ?_
   rintro ⟨q, r⟩ ⟨g1, g2, g3, g4⟩
   simp only at g1 g2 g3 g4 ⊢
   have hqm : (q : Int) - 1 = ((q - 1 : Nat) : Int) ∨ q = 0 := by omega
   have hqy : (q : Int) * (y0 : Int) = ((q * y0 : Nat) : Int) := by simp
   have hqb : q < 4294967296 → q * y0 < 18446744073709551616 := fun h => by
    have := Nat.mul_le_mul (show q ≤ 4294967295 by omega) (show y0 ≤ 4294967295 by omega)
    omega
   have hdec := b9 q r g1 g2
   have hfin := b10 q r g1 g2
   have hbrk := b11 (q - 1) (r + y1)
   generalize q * y0 = P at *
   have cs : (4294967296 ≤ q ∧ r + y1 < 4294967296) ∨ ((q < 4294967296 ∧ 4294967296 * r + d0 < P) ∧ r + y1 < 4294967296) ∨ (4294967296 ≤ q ∧ 4294967296 ≤ r + y1) ∨ ((q < 4294967296 ∧ 4294967296 * r + d0 < P) ∧ 4294967296 ≤ r + y1) ∨ (q < 4294967296 ∧ P ≤ 4294967296 * r + d0) := by omega
   rcases cs with ⟨c1, c3⟩ | ⟨⟨c1, c2⟩, c3⟩ | ⟨c1, c3⟩ | ⟨⟨c1, c2⟩, c3⟩ | ⟨c1, c2⟩
   ·
    obtain ⟨e1, e2, e3⟩ := hdec (.inl c1)
    have hm1 : (q : Int) - 1 = ((q - 1 : Nat) : Int) := by omega
    simp (maxSteps := 1000000) (disch := (first | omega | (simp only [lnA, List.length_map, List.length_range, true_and, and_true]; (try omega); done) | fail)) only [go_sem, hm1, Int.reduceEq, Int.reduceToNat, Nat.reduceAdd, Nat.reduceMul, Nat.reduceEqDiff, ↓reduceIte]
    refine nextW (q - 1, r + y1) [] ⟨e3, e2, by simp only; omega, by simp only; omega⟩ (by simp only; omega)
   ·
    obtain ⟨e1, e2, e3⟩ := hdec (.inr c2)
    have hqb := hqb c1
    have hm1 : (q : Int) - 1 = ((q - 1 : Nat) : Int) := by omega
    simp (maxSteps := 1000000) (disch := (first | omega | (simp only [lnA, List.length_map, List.length_range, true_and, and_true]; (try omega); done) | fail)) only [go_sem, hqy, hm1, Int.reduceEq, Int.reduceToNat, Nat.reduceAdd, Nat.reduceMul, Nat.reduceEqDiff, ↓reduceIte]
    refine nextW (q - 1, r + y1) [] ⟨e3, e2, by simp only; omega, by simp only; omega⟩ (by simp only; omega)
   ·
    obtain ⟨e1, e2, e3⟩ := hdec (.inl c1)
    have e4 := hbrk e3 e2 (by omega) c3
    have hm1 : (q : Int) - 1 = (Q0 : Int) := by omega
    simp (maxSteps := 1000000) (disch := (first | omega | (simp only [lnA, List.length_map, List.length_range, true_and, and_true]; (try omega); done) | fail)) only [go_sem, hm1, b8, k6, Int.reduceEq, Int.reduceToNat, Nat.reduceAdd, Nat.reduceMul, Nat.reduceEqDiff, ↓reduceIte]
    exact endW [] hQ
   ·
    obtain ⟨e1, e2, e3⟩ := hdec (.inr c2)
    have e4 := hbrk e3 e2 (by omega) c3
    have hqb := hqb c1
    have hm1 : (q : Int) - 1 = (Q0 : Int) := by omega
    simp (maxSteps := 1000000) (disch := (first | omega | (simp only [lnA, List.length_map, List.length_range, true_and, and_true]; (try omega); done) | fail)) only [go_sem, hqy, hm1, b8, k6, Int.reduceEq, Int.reduceToNat, Nat.reduceAdd, Nat.reduceMul, Nat.reduceEqDiff, ↓reduceIte]
    exact endW [] hQ
   ·
    have hqb := hqb c1
    have e4 := (hfin c2).symm
    subst e4
    simp (maxSteps := 1000000) (disch := (first | omega | (simp only [lnA, List.length_map, List.length_range, true_and, and_true]; (try omega); done) | fail)) only [go_sem, hqy, b8, k6, Int.reduceEq, Int.reduceToNat, Nat.reduceAdd, Nat.reduceMul, Nat.reduceEqDiff, ↓reduceIte]
    exact endW [] hQ
  ·
   obtain ⟨e1, e2, e3⟩ := hdec (.inr c2)
   have e4 := hbrk e3 e2 (by omega) c3
   have hqb := hqb c1
   have hm1 : (q : Int) - 1 = (Q1 : Int) := by omega
   simp (maxSteps := 1000000) (disch := (first | omega | (simp only [lnA, List.length_map, List.length_range, true_and, and_true]; (try omega); done) | fail)) only [go_sem, hqy, hm1, a8, b5, b6, b7, Int.reduceEq, Int.reduceToNat, Nat.reduceAdd, Nat.reduceMul, Nat.reduceEqDiff, ↓reduceIte]
   clear a1 a2 a3 a4 a9 a10 a11 hdec hfin hbrk g1 g2 g3 g4
   refine loopW (X := Nat × Nat) (st := fun z => ([(2, .lit (.int .u64 (Y : Int))), (8, .lit (.int .u64 (s : Int))), (9, .lit (.int .u64 (y1 : Int))), (10, .lit (.int .u64 (y0 : Int))), (14, .lit (.int .u64 (d0 : Int))), (15, .lit (.int .u64 (Q1 : Int))), (17, .lit (.int .u64 (R1 : Int))), (18, .lit (.int .u64 (z.1 : Int))), (16, .lit (.int .u64 (z.2 : Int)))], []))
    (inv := fun z => z.1 * y1 + z.2 = R1 ∧ Q0 ≤ z.1 ∧ z.2 < 4294967296 ∧ z.1 ≤ 4294967297) (m := fun z => z.1) (R1 / y1, R1 % y1) [] ⟨b1, b2, b3, b4⟩ ?_
   rintro ⟨q, r⟩ ⟨g1, g2, g3, g4⟩
   simp only at g1 g2 g3 g4 ⊢
   have hqm : (q : Int) - 1 = ((q - 1 : Nat) : Int) ∨ q = 0 := by omega
   have hqy : (q : Int) * (y0 : Int) = ((q * y0 : Nat) : Int) := by simp
   have hqb : q < 4294967296 → q * y0 < 18446744073709551616 := fun h => by
    have := Nat.mul_le_mul (show q ≤ 4294967295 by omega) (show y0 ≤ 4294967295 by omega)
    omega
   have hdec := b9 q r g1 g2
   have hfin := b10 q r g1 g2
   have hbrk := b11 (q - 1) (r + y1)
   generalize q * y0 = P at *
   have cs : (4294967296 ≤ q ∧ r + y1 < 4294967296) ∨ ((q < 4294967296 ∧ 4294967296 * r + d0 < P) ∧ r + y1 < 4294967296) ∨ (4294967296 ≤ q ∧ 4294967296 ≤ r + y1) ∨ ((q < 4294967296 ∧ 4294967296 * r + d0 < P) ∧ 4294967296 ≤ r + y1) ∨ (q < 4294967296 ∧ P ≤ 4294967296 * r + d0) := by omega
   rcases cs with ⟨c1, c3⟩ | ⟨⟨c1, c2⟩, c3⟩ | ⟨c1, c3⟩ | ⟨⟨c1, c2⟩, c3⟩ | ⟨c1, c2⟩
   ·
    obtain ⟨e1, e2, e3⟩ := hdec (.inl c1)
    have hm1 : (q : Int) - 1 = ((q - 1 : Nat) : Int) := by omega
    simp (maxSteps := 1000000) (disch := (first | omega | (simp only [lnA, List.length_map, List.length_range, true_and, and_true]; (try omega); done) | fail)) only [go_sem, hm1, Int.reduceEq, Int.reduceToNat, Nat.reduceAdd, Nat.reduceMul, Nat.reduceEqDiff, ↓reduceIte]
    refine nextW (q - 1, r + y1) [] ⟨e3, e2, by simp only; omega, by simp only; omega⟩ (by simp only; omega)
   ·
    obtain ⟨e1, e2, e3⟩ := hdec (.inr c2)
    have hqb := hqb c1
    have hm1 : (q : Int) - 1 = ((q - 1 : Nat) : Int) := by omega
    simp (maxSteps := 1000000) (disch := (first | omega | (simp only [lnA, List.length_map, List.length_range, true_and, and_true]; (try omega); done) | fail)) only [go_sem, hqy, hm1, Int.reduceEq, Int.reduceToNat, Nat.reduceAdd, Nat.reduceMul, Nat.reduceEqDiff, ↓reduceIte]
    refine nextW (q - 1, r + y1) [] ⟨e3, e2, by simp only; omega, by simp only; omega⟩ (by simp only; omega)
   ·
    obtain ⟨e1, e2, e3⟩ := hdec (.inl c1)
    have e4 := hbrk e3 e2 (by omega) c3
    have hm1 : (q : Int) - 1 = (Q0 : Int) := by omega
    simp (maxSteps := 1000000) (disch := (first | omega | (simp only [lnA, List.length_map, List.length_range, true_and, and_true]; (try omega); done) | fail)) only [go_sem, hm1, b8, k6, Int.reduceEq, Int.reduceToNat, Nat.reduceAdd, Nat.reduceMul, Nat.reduceEqDiff, ↓reduceIte]
    exact endW [] hQ
   ·
    obtain ⟨e1, e2, e3⟩ := hdec (.inr c2)
    have e4 := hbrk e3 e2 (by omega) c3
    have hqb := hqb c1
    have hm1 : (q : Int) - 1 = (Q0 : Int) := by omega
    simp (maxSteps := 1000000) (disch := (first | omega | (simp only [lnA, List.length_map, List.length_range, true_and, and_true]; (try omega); done) | fail)) only [go_sem, hqy, hm1, b8, k6, Int.reduceEq, Int.reduceToNat, Nat.reduceAdd, Nat.reduceMul, Nat.reduceEqDiff, ↓reduceIte]
    exact endW [] hQ
   ·
    have hqb := hqb c1
    have e4 := (hfin c2).symm
    subst e4
    simp (maxSteps := 1000000) (disch := (first | omega | (simp only [lnA, List.length_map, List.length_range, true_and, and_true]; (try omega); done) | fail)) only [go_sem, hqy, b8, k6, Int.reduceEq, Int.reduceToNat, Nat.reduceAdd, Nat.reduceMul, Nat.reduceEqDiff, ↓reduceIte]
    exact endW [] hQ
  ·
   have hqb := hqb c1
   have e4 := (hfin c2).symm
   subst e4
   simp (maxSteps := 1000000) (disch := (first | omega | (simp only [lnA, List.length_map, List.length_range, true_and, and_true]; (try omega); done) | fail)) only [go_sem, hqy, a8, b5, b6, b7, Int.reduceEq, Int.reduceToNat, Nat.reduceAdd, Nat.reduceMul, Nat.reduceEqDiff, ↓reduceIte]
   clear a1 a2 a3 a4 a9 a10 a11 hdec hfin hbrk g1 g2 g3 g4
   refine loopW (X := Nat × Nat) (st := fun z => ([(2, .lit (.int .u64 (Y : Int))), (8, .lit (.int .u64 (s : Int))), (9, .lit (.int .u64 (y1 : Int))), (10, .lit (.int .u64 (y0 : Int))), (14, .lit (.int .u64 (d0 : Int))), (15, .lit (.int .u64 (Q1 : Int))), (17, .lit (.int .u64 (R1 : Int))), (18, .lit (.int .u64 (z.1 : Int))), (16, .lit (.int .u64 (z.2 : Int)))], []))
    (inv := fun z => z.1 * y1 + z.2 = R1 ∧ Q0 ≤ z.1 ∧ z.2 < 4294967296 ∧ z.1 ≤ 4294967297) (m := fun z => z.1) (R1 / y1, R1 % y1) [] ⟨b1, b2, b3, b4⟩ ?_
   rintro ⟨q, r⟩ ⟨g1, g2, g3, g4⟩
   simp only at g1 g2 g3 g4 ⊢
   have hqm : (q : Int) - 1 = ((q - 1 : Nat) : Int) ∨ q = 0 := by omega
   have hqy : (q : Int) * (y0 : Int) = ((q * y0 : Nat) : Int) := by simp
   have hqb : q < 4294967296 → q * y0 < 18446744073709551616 := fun h => by
    have := Nat.mul_le_mul (show q ≤ 4294967295 by omega) (show y0 ≤ 4294967295 by omega)
    omega
   have hdec := b9 q r g1 g2
   have hfin := b10 q r g1 g2
   have hbrk := b11 (q - 1) (r + y1)
   generalize q * y0 = P at *
   have cs : (4294967296 ≤ q ∧ r + y1 < 4294967296) ∨ ((q < 4294967296 ∧ 4294967296 * r + d0 < P) ∧ r + y1 < 4294967296) ∨ (4294967296 ≤ q ∧ 4294967296 ≤ r + y1) ∨ ((q < 4294967296 ∧ 4294967296 * r + d0 < P) ∧ 4294967296 ≤ r + y1) ∨ (q < 4294967296 ∧ P ≤ 4294967296 * r + d0) := by omega
   rcases cs with ⟨c1, c3⟩ | ⟨⟨c1, c2⟩, c3⟩ | ⟨c1, c3⟩ | ⟨⟨c1, c2⟩, c3⟩ | ⟨c1, c2⟩
   ·
    obtain ⟨e1, e2, e3⟩ := hdec (.inl c1)
    have hm1 : (q : Int) - 1 = ((q - 1 : Nat) : Int) := by omega
    simp (maxSteps := 1000000) (disch := (first | omega | (simp only [lnA, List.length_map, List.length_range, true_and, and_true]; (try omega); done) | fail)) only [go_sem, hm1, Int.reduceEq, Int.reduceToNat, Nat.reduceAdd, Nat.reduceMul, Nat.reduceEqDiff, ↓reduceIte]
    refine nextW (q - 1, r + y1) [] ⟨e3, e2, by simp only; omega, by simp only; omega⟩ (by simp only; omega)
   ·
    obtain ⟨e1, e2, e3⟩ := hdec (.inr c2)
    have hqb := hqb c1
    have hm1 : (q : Int) - 1 = ((q - 1 : Nat) : Int) := by omega
    simp (maxSteps := 1000000) (disch := (first | omega | (simp only [lnA, List.length_map, List.length_range, true_and, and_true]; (try omega); done) | fail)) only [go_sem, hqy, hm1, Int.reduceEq, Int.reduceToNat, Nat.reduceAdd, Nat.reduceMul, Nat.reduceEqDiff, ↓reduceIte]
    refine nextW (q - 1, r + y1) [] ⟨e3, e2, by simp only; omega, by simp only; omega⟩ (by simp only; omega)
   ·
    obtain ⟨e1, e2, e3⟩ := hdec (.inl c1)
    have e4 := hbrk e3 e2 (by omega) c3
    have hm1 : (q : Int) - 1 = (Q0 : Int) := by omega
    simp (maxSteps := 1000000) (disch := (first | omega | (simp only [lnA, List.length_map, List.length_range, true_and, and_true]; (try omega); done) | fail)) only [go_sem, hm1, b8, k6, Int.reduceEq, Int.reduceToNat, Nat.reduceAdd, Nat.reduceMul, Nat.reduceEqDiff, ↓reduceIte]
    exact endW [] hQ
   ·
    obtain ⟨e1, e2, e3⟩ := hdec (.inr c2)
    have e4 := hbrk e3 e2 (by omega) c3
    have hqb := hqb c1
    have hm1 : (q : Int) - 1 = (Q0 : Int) := by omega
    simp (maxSteps := 1000000) (disch := (first | omega | (simp only [lnA, List.length_map, List.length_range, true_and, and_true]; (try omega); done) | fail)) only [go_sem, hqy, hm1, b8, k6, Int.reduceEq, Int.reduceToNat, Nat.reduceAdd, Nat.reduceMul, Nat.reduceEqDiff, ↓reduceIte]
    exact endW [] hQ
   ·
    have hqb := hqb c1
    have e4 := (hfin c2).symm
    subst e4
    simp (maxSteps := 1000000) (disch := (first | omega | (simp only [lnA, List.length_map, List.length_range, true_and, and_true]; (try omega); done) | fail)) only [go_sem, hqy, b8, k6, Int.reduceEq, Int.reduceToNat, Nat.reduceAdd, Nat.reduceMul, Nat.reduceEqDiff, ↓reduceIte]
    exact endW [] hQ
end Go.Proofs.YtdohmppildfjhaaGreatDoor
