import Derived.Test.YtdohmppildfjhaaGreatDoorRa
import Derived.Test.YtdohmppildfjhaaGreatDoorE7
import Derived.Test.YtdohmppildfjhaaGreatDoorE6
import Derived.Test.YtdohmppildfjhaaGreatDoorN1
namespace Go.Proofs.YtdohmppildfjhaaGreatDoor
open Go.Eng
set_option linter.unusedSimpArgs false
set_option linter.unusedVariables false
theorem mul_parts (x1 x0 y1 y0 K : Nat) : (K * x1 + x0) * (K * y1 + y0) = K * K * (x1 * y1) + K * (x1 * y0 + x0 * y1) + x0 * y0 := by
 rw [Nat.add_mul, Nat.mul_add, Nat.mul_add, Nat.mul_add]
 have e1 : K * x1 * (K * y1) = K * K * (x1 * y1) := by simp only [Nat.mul_assoc, Nat.mul_left_comm]
 have e2 : K * x1 * y0 = K * (x1 * y0) := by rw [Nat.mul_assoc]
 have e3 : x0 * (K * y1) = K * (x0 * y1) := by rw [Nat.mul_left_comm]
 rw [e1, e2, e3]
 omega
theorem mul_hi {x y : Nat} (hx : x < 18446744073709551616) (hy : y < 18446744073709551616) :
  x / 4294967296 * (y / 4294967296) + (x / 4294967296 * (y % 4294967296) + x % 4294967296 * (y % 4294967296) / 4294967296) / 4294967296 + ((x / 4294967296 * (y % 4294967296) + x % 4294967296 * (y % 4294967296) / 4294967296) % 4294967296 + x % 4294967296 * (y / 4294967296)) / 4294967296 = x * y / 18446744073709551616 := by
 have h := mul_parts (x / 4294967296) (x % 4294967296) (y / 4294967296) (y % 4294967296) 4294967296
 rw [Nat.div_add_mod, Nat.div_add_mod] at h
 rw [h]
 generalize x / 4294967296 * (y / 4294967296) = p
 generalize x / 4294967296 * (y % 4294967296) = q
 generalize x % 4294967296 * (y / 4294967296) = r
 generalize x % 4294967296 * (y % 4294967296) = s
 omega
def pr : Nat := 2305843009213693951
def IsPr (p : Nat) : Prop := 2 ≤ p ∧ ∀ d, d ∣ p → d = 1 ∨ d = p
theorem IsPr.dvd_mul {p a b : Nat} (hp : IsPr p) (h : p ∣ a * b) : p ∣ a ∨ p ∣ b := by
 rcases hp.2 (Nat.gcd p a) (Nat.gcd_dvd_left p a) with h1 | h1
 ·
  exact .inr (Nat.Coprime.dvd_of_dvd_mul_left h1 h)
 ·
  exact .inl (h1 ▸ Nat.gcd_dvd_right p a)
def chs : Nat → Nat → Nat
 | _, 0 => 1
 | 0, _ + 1 => 0
 | n + 1, k + 1 => chs n k + chs n (k + 1)
theorem chs_gt : ∀ n k, n < k → chs n k = 0
 | 0, 0, h => by omega
 | 0, _ + 1, _ => rfl
 | n + 1, 0, h => by omega
 | n + 1, k + 1, h => by
  show chs n k + chs n (k + 1) = 0
  rw [chs_gt n k (by omega), chs_gt n (k + 1) (by omega)]
theorem chs_self : ∀ n, chs n n = 1
 | 0 => rfl
 | n + 1 => by
  show chs n n + chs n (n + 1) = 1
  rw [chs_self n, chs_gt n (n + 1) (by omega)]
theorem chs_mul : ∀ n k, (k + 1) * chs (n + 1) (k + 1) = (n + 1) * chs n k
 | 0, 0 => rfl
 | 0, k + 1 => by
  show (k + 2) * (chs 0 (k + 1) + chs 0 (k + 2)) = 1 * chs 0 (k + 1)
  simp [chs]
 | n + 1, 0 => by
  have := chs_mul n 0
  show 1 * (chs (n + 1) 0 + chs (n + 1) 1) = (n + 2) * chs (n + 1) 0
  have e : chs (n + 1) 1 = n + 1 := by
   have h : 1 * chs (n + 1) 1 = (n + 1) * chs n 0 := this
   cases n <;> simp [chs] at h ⊢ <;> omega
  have e0 : chs (n + 1) 0 = 1 := rfl
  rw [e, e0]; omega
 | n + 1, k + 1 => by
  have h1 := chs_mul n k
  have h2 := chs_mul n (k + 1)
  show (k + 2) * (chs (n + 1) (k + 1) + chs (n + 1) (k + 2)) = (n + 2) * (chs n k + chs n (k + 1))
  have e : chs (n + 1) (k + 1) = chs n k + chs n (k + 1) := rfl
  rw [Nat.mul_add, h2, show k + 2 = (k + 1) + 1 from rfl, Nat.add_mul, h1, e, Nat.mul_add, Nat.one_mul, show n + 2 = (n + 1) + 1 from rfl, Nat.add_mul (n + 1), Nat.one_mul, Nat.mul_add]
  omega
def sumT (f : Nat → Nat) : Nat → Nat
 | 0 => 0
 | n + 1 => sumT f n + f n
theorem sumT_congr {f g : Nat → Nat} : ∀ n, (∀ i, i < n → f i = g i) → sumT f n = sumT g n
 | 0, _ => rfl
 | n + 1, h => by
  show sumT f n + f n = sumT g n + g n
  rw [sumT_congr n (fun i hi => h i (by omega)), h n (by omega)]
theorem sumT_shift (f : Nat → Nat) : ∀ n, sumT f (n + 1) = f 0 + sumT (fun i => f (i + 1)) n
 | 0 => by simp [sumT]
 | n + 1 => by
  show sumT f (n + 1) + f (n + 1) = f 0 + (sumT (fun i => f (i + 1)) n + f (n + 1))
  rw [sumT_shift f n]; omega
theorem sumT_add (f g : Nat → Nat) : ∀ n, sumT (fun i => f i + g i) n = sumT f n + sumT g n
 | 0 => rfl
 | n + 1 => by
  show sumT (fun i => f i + g i) n + (f n + g n) = sumT f n + f n + (sumT g n + g n)
  rw [sumT_add f g n]; omega
theorem sumT_mul (a : Nat) (f : Nat → Nat) : ∀ n, sumT (fun i => a * f i) n = a * sumT f n
 | 0 => rfl
 | n + 1 => by
  show sumT (fun i => a * f i) n + a * f n = a * (sumT f n + f n)
  rw [sumT_mul a f n, Nat.mul_add]
theorem binom (a : Nat) : ∀ n, (a + 1) ^ n = sumT (fun k => chs n k * a ^ k) (n + 1)
 | 0 => by simp [sumT, chs]
 | n + 1 => by
  rw [Nat.pow_succ, binom a n, Nat.mul_add, Nat.mul_one, sumT_shift (fun k => chs (n + 1) k * a ^ k) (n + 1)]
  have e1 : sumT (fun i => chs (n + 1) (i + 1) * a ^ (i + 1)) (n + 1) = sumT (fun i => a * (chs n i * a ^ i) + chs n (i + 1) * a ^ (i + 1)) (n + 1) := sumT_congr _ fun i _ => by
   show (chs n i + chs n (i + 1)) * a ^ (i + 1) = _
   rw [Nat.add_mul, Nat.pow_succ, Nat.mul_comm a, Nat.mul_assoc]
  have e2 : sumT (fun k => chs n k * a ^ k) (n + 1) = 1 + sumT (fun i => chs n (i + 1) * a ^ (i + 1)) n := by
   rw [sumT_shift]
   cases n <;> simp [chs]
  have e3 : sumT (fun i => chs n (i + 1) * a ^ (i + 1)) (n + 1) = sumT (fun i => chs n (i + 1) * a ^ (i + 1)) n := by
   show _ + chs n (n + 1) * _ = _
   rw [chs_gt n (n + 1) (by omega)]; simp
  rw [e1, sumT_add, sumT_mul, e3]
  have e4 : chs (n + 1) 0 * a ^ 0 = 1 := by simp [chs]
  rw [e4, Nat.mul_comm _ a]
  omega
theorem sumT_dvd {p : Nat} {f : Nat → Nat} : ∀ n, (∀ i, i < n → p ∣ f i) → p ∣ sumT f n
 | 0, _ => Nat.dvd_zero _
 | n + 1, h => Nat.dvd_add (sumT_dvd n fun i hi => h i (by omega)) (h n (by omega))
theorem chs_dvd {p k : Nat} (hp : IsPr p) (h0 : 0 < k) (hk : k < p) : p ∣ chs p k := by
 obtain ⟨m, rfl⟩ : ∃ m, p = m + 1 := ⟨p - 1, by have := hp.1; omega⟩
 obtain ⟨j, rfl⟩ : ∃ j, k = j + 1 := ⟨k - 1, by omega⟩
 have h := chs_mul m j
 rcases hp.dvd_mul (show m + 1 ∣ (j + 1) * chs (m + 1) (j + 1) by rw [h]; exact Nat.dvd_mul_right _ _) with h1 | h1
 ·
  have := Nat.le_of_dvd (by omega) h1
  omega
 ·
  exact h1
def pwm (a m : Nat) : Nat → Nat → Nat
 | 0, _ => 1 % m
 | f + 1, e => if e = 0 then 1 % m else let h := pwm a m f (e / 2); if e % 2 = 1 then h * h % m * a % m else h * h % m
def noDiv (q : Nat) : Nat → Bool
 | 0 => true
 | 1 => true
 | 2 => true
 | d + 1 => (q % d != 0) && noDiv q d
open Go.Eng Go.Vx
set_option maxRecDepth 100000
theorem mul64_fn {x y : Nat} (hx : x < 18446744073709551616) (hy : y < 18446744073709551616) : Fn1 Tryz.prog 82 [.lit (.int .u64 x), .lit (.int .u64 y)] [] (.tup [.lit (.int .u64 ((x * y / 18446744073709551616 : Nat) : Int)), .lit (.int .u64 ((x * y % 18446744073709551616 : Nat) : Int))]) [] := by
 refine fn1N_of pl82 (by kernel_rfl) Tryz.call82 Tryz.func82 rfl (by kernel_rfl) rfl [.tmp 4, .tmp 5] (by kernel_rfl) fun Q hQ => ?_
 have hhi := mul_hi hx hy
 have hlo := wrap_nat (x * y)
 rw [show (2 : Nat) ^ 64 = 18446744073709551616 from rfl] at hlo
 have hxy : (x : Int) * (y : Int) = ((x * y : Nat) : Int) := by simp
 have e1 : (x : Int) % 4294967296 = ((x % 4294967296 : Nat) : Int) := by omega
 have e2 : (x : Int) / 4294967296 = ((x / 4294967296 : Nat) : Int) := by omega
 have e3 : (y : Int) % 4294967296 = ((y % 4294967296 : Nat) : Int) := by omega
 have e4 : (y : Int) / 4294967296 = ((y / 4294967296 : Nat) : Int) := by omega
 have l1 : x % 4294967296 ≤ 4294967295 := by omega
 have l2 : x / 4294967296 ≤ 4294967295 := by omega
 have l3 : y % 4294967296 ≤ 4294967295 := by omega
 have l4 : y / 4294967296 ≤ 4294967295 := by omega
 have p1 := Nat.mul_le_mul l1 l3
 have p2 := Nat.mul_le_mul l1 l4
 have p3 := Nat.mul_le_mul l2 l3
 have p4 := Nat.mul_le_mul l2 l4
 generalize x % 4294967296 = x0 at *
 generalize x / 4294967296 = x1 at *
 generalize y % 4294967296 = y0 at *
 generalize y / 4294967296 = y1 at *
 have m1 : (x0 : Int) * (y0 : Int) = ((x0 * y0 : Nat) : Int) := by simp
 have m2 : (x1 : Int) * (y0 : Int) = ((x1 * y0 : Nat) : Int) := by simp
 have m3 : (x0 : Int) * (y1 : Int) = ((x0 * y1 : Nat) : Int) := by simp
 have m4 : (x1 : Int) * (y1 : Int) = ((x1 * y1 : Nat) : Int) := by simp
 generalize x0 * y0 = s at *
 generalize x1 * y0 = q at *
 generalize x0 * y1 = r at *
 generalize x1 * y1 = p at *
 generalize x * y = z at *
 have d1 : (s : Int) / 4294967296 = ((s / 4294967296 : Nat) : Int) := by omega
 have d2 : ((q : Int) + ((s / 4294967296 : Nat) : Int)) % 4294967296 = (((q + s / 4294967296) % 4294967296 : Nat) : Int) := by omega
 have d3 : ((q : Int) + ((s / 4294967296 : Nat) : Int)) / 4294967296 = (((q + s / 4294967296) / 4294967296 : Nat) : Int) := by omega
 have d4 : ((((q + s / 4294967296) % 4294967296 : Nat) : Int) + (r : Int)) / 4294967296 = ((((q + s / 4294967296) % 4294967296 + r) / 4294967296 : Nat) : Int) := by omega
 have d5 : (p : Int) + (((q + s / 4294967296) / 4294967296 : Nat) : Int) + ((((q + s / 4294967296) % 4294967296 + r) / 4294967296 : Nat) : Int) = ((z / 18446744073709551616 : Nat) : Int) := by omega
 have hz : z / 18446744073709551616 < 18446744073709551616 := by omega
 simp (maxSteps := 1000000) (disch := (first | omega | (simp only [lnA, List.length_map, List.length_range, true_and, and_true]; (try omega); done) | fail)) only [go_sem, hxy, hlo, e1, e2, e3, e4, m1, m2, m3, m4, d1, d2, d3, d4, d5, Int.reduceEq, Int.reduceToNat, Nat.reduceAdd, Nat.reduceMul, Nat.reduceEqDiff, ↓reduceIte]
 exact endW [] hQ
theorem mul_digit {p u c : Nat} (hp : p ≤ 18446744073709551615 * 18446744073709551615) (hu : u < 18446744073709551616) (hc : c < 18446744073709551616) :
  ((p % 18446744073709551616 + u + 0) % 18446744073709551616 + c + 0) % 18446744073709551616 = (u + c + p) % 18446744073709551616 ∧
  p / 18446744073709551616 + (p % 18446744073709551616 + u + 0) / 18446744073709551616 + ((p % 18446744073709551616 + u + 0) % 18446744073709551616 + c + 0) / 18446744073709551616 = (u + c + p) / 18446744073709551616 ∧
  (u + c + p) / 18446744073709551616 < 18446744073709551616 := by
 have e : 18446744073709551615 * 18446744073709551615 = 340282366920938463426481119284349108225 := by decide
 rw [e] at hp
 refine ⟨?_, ?_, ?_⟩ <;> omega
set_option maxHeartbeats 4000000 in
theorem nmul_fn {a b : Nat} (ha : (wg a).length ≤ 1000000) (hb : (wg b).length ≤ 1000000) : Fn1 Tryz.prog 42 [NV a, NV b] [] (NV (a * b)) [] := by
 refine fn1N_of pl42 (by kernel_rfl) Tryz.call42 Tryz.func42 rfl (by kernel_rfl) rfl [.cell 4 31] (by kernel_rfl) fun Q hQ => ?_
 have hal := wg_lt a
 have hbl := wg_lt b
 have hav := wg_val a
 have hbv := wg_val b
 have hnA := nl_len (wg a)
 have hnB := nl_len (wg b)
 refine runW ?_
 refine LoopV_of (X := Nat × List Nat) (st := fun z => ([(2, .ref 0 0 0 0), (3, .ref 1 0 0 0), (4, .ref 2 0 0 0), (5, .sl 3 1 0 ((wg a).length + (wg b).length)), (23, .row 1 ((nl (wg a)).map (ie .u64))), (24, .lit (.int .i64 ((wg a).length : Int))), (25, .lit (.int .i64 (z.1 : Int)))],
   [some (.cells [.row 1 ((nl (wg a)).map (ie .u64))]), some (.cells [.row 1 ((nl (wg b)).map (ie .u64))]), some (.cells [.lit (.slice none 0 0)]), some (.row 1 ((nl z.2).map (ie .u64)))]))
  (inv := fun z => z.1 ≤ (wg a).length ∧ z.2.length = (wg a).length + (wg b).length ∧ (∀ d ∈ z.2, d < 18446744073709551616) ∧ valB 18446744073709551616 z.2 = valB 18446744073709551616 ((wg a).take z.1) * b ∧ ∀ j, z.1 + (wg b).length ≤ j → z.2.getD j 0 = 0)
  (m := fun z => (wg a).length - z.1) (0, List.replicate ((wg a).length + (wg b).length) 0) [some 0, some 1, some 2, some 3] rfl (by simp only [← nl_rep]; (simp (disch := (first | omega | (simp only [lnA, List.length_map, List.length_range, true_and, and_true]; (try omega); done) | fail)) only [go_sem, Int.reduceEq, Int.reduceToNat, Nat.reduceAdd, Nat.reduceMul, Nat.reduceEqDiff, ↓reduceIte, true_and, and_true, and_self, List.drop_zero, List.take_length, Nat.le_refl, V.lit.injEq, Value.int.injEq, Value.bool.injEq]; try (first | omega | (simp; done) | (simp; omega)))) (by simp (disch := (first | omega | (simp only [lnA, List.length_map, List.length_range, true_and, and_true]; (try omega); done) | fail)) only [go_sem, Int.reduceEq, Int.reduceToNat, Nat.reduceAdd, Nat.reduceMul, Nat.reduceEqDiff, ↓reduceIte, true_and, and_true, and_self, List.drop_zero, List.take_length, Nat.le_refl, V.lit.injEq, Value.int.injEq, Value.bool.injEq]; try (first | omega | (simp; done) | (simp; omega)))
  ⟨by simp, by simp, fun d hd => by rw [List.eq_of_mem_replicate hd]; decide, by simp [valB_rep, valB], fun j _ => by rw [List.getD_eq_getElem?_getD, List.getElem?_replicate]; split <;> rfl⟩ ?_
 rintro ⟨i, O⟩ ⟨hi, hO, hOl, hv, hz0⟩
 simp only at hi hO hOl hv hz0 ⊢
 have hnO := nl_len O
 by_cases h1 : i < (wg a).length
 ·
  have hxa := getD_ltB (by decide) hal i
  have hga := nl_get (wg a) i
  have hti := valB_take' (B := 18446744073709551616) (wg a) i
  obtain ⟨x, hx⟩ : ∃ x, (wg a).getD i 0 = x := ⟨_, rfl⟩
  rw [hx] at hxa hga hti
  simp (maxSteps := 1000000) (disch := (first | omega | (simp only [lnA, List.length_map, List.length_range, true_and, and_true]; (try omega); done) | fail)) only [go_sem, hga, Int.reduceEq, Int.reduceToNat, Nat.reduceAdd, Nat.reduceMul, Nat.reduceEqDiff, ↓reduceIte]
  refine loopW (X := Nat × Nat × List Nat) (st := fun z => ([(2, .ref 0 0 0 0), (3, .ref 1 0 0 0), (4, .ref 2 0 0 0), (5, .sl 3 1 0 ((wg a).length + (wg b).length)), (23, .row 1 ((nl (wg a)).map (ie .u64))), (24, .lit (.int .i64 ((wg a).length : Int))), (25, .lit (.int .i64 (i : Int))),
     (6, .lit (.int .i64 (i : Int))), (7, .lit (.int .u64 (x : Int))), (8, .lit (.int .u64 (z.2.1 : Int))), (31, .row 1 ((nl (wg b)).map (ie .u64))), (32, .lit (.int .i64 ((wg b).length : Int))), (33, .lit (.int .i64 (z.1 : Int)))],
    [some (.cells [.row 1 ((nl (wg a)).map (ie .u64))]), some (.cells [.row 1 ((nl (wg b)).map (ie .u64))]), some (.cells [.lit (.slice none 0 0)]), some (.row 1 ((nl z.2.2).map (ie .u64)))]))
   (inv := fun z => z.1 ≤ (wg b).length ∧ z.2.1 < 18446744073709551616 ∧ z.2.2.length = (wg a).length + (wg b).length ∧ (∀ d ∈ z.2.2, d < 18446744073709551616) ∧ valB 18446744073709551616 z.2.2 + 18446744073709551616 ^ (i + z.1) * z.2.1 = valB 18446744073709551616 O + 18446744073709551616 ^ i * (x * valB 18446744073709551616 ((wg b).take z.1)) ∧ ∀ j, i + (wg b).length ≤ j → z.2.2.getD j 0 = 0)
   (m := fun z => (wg b).length - z.1) (0, 0, O) [some 0, some 1, some 2, some 3] ⟨by simp, by simp, hO, hOl, by simp [valB], hz0⟩ ?_
  rintro ⟨k, c, U⟩ ⟨hk, hc, hU, hUl, hw, hzU⟩
  simp only at hk hc hU hUl hw hzU ⊢
  have hnU := nl_len U
  by_cases hkb : k < (wg b).length
  ·
   have hxb := getD_ltB (by decide) hbl k
   have hxu := getD_ltB (by decide) hUl (i + k)
   have hgb := nl_get (wg b) k
   have hgu := nl_get U (i + k)
   have htb := valB_take' (B := 18446744073709551616) (wg b) k
   have hik : ((i : Int) + (k : Int)).toNat = i + k := by omega
   obtain ⟨y, hy⟩ : ∃ y, (wg b).getD k 0 = y := ⟨_, rfl⟩
   rw [hy] at hxb hgb htb
   obtain ⟨u, hu⟩ : ∃ u, U.getD (i + k) 0 = u := ⟨_, rfl⟩
   have hxy : x * y ≤ 18446744073709551615 * 18446744073709551615 := Nat.mul_le_mul (by omega) (by omega)
   have hst := mulD_step (B := 18446744073709551616) (j := i + k) (c := c) (y := x * y) (O := U) (by omega)
   rw [hu] at hst hxu hgu
   obtain ⟨hd1, hd2, hd3⟩ := mul_digit hxy hxu hc
   have hinv : valB 18446744073709551616 (U.set (i + k) ((u + c + x * y) % 18446744073709551616)) + 18446744073709551616 ^ (i + (k + 1)) * ((u + c + x * y) / 18446744073709551616) = valB 18446744073709551616 O + 18446744073709551616 ^ i * (x * valB 18446744073709551616 ((wg b).take (k + 1))) := by
    rw [htb, show i + (k + 1) = i + k + 1 by omega, hst]
    have e : 18446744073709551616 ^ i * (x * (valB 18446744073709551616 ((wg b).take k) + 18446744073709551616 ^ k * y)) = 18446744073709551616 ^ i * (x * valB 18446744073709551616 ((wg b).take k)) + 18446744073709551616 ^ (i + k) * (x * y) := by
     rw [Nat.mul_add, Nat.mul_add, Nat.pow_add]
     congr 1
     rw [Nat.mul_left_comm x, ← Nat.mul_assoc]
    rw [e]
    generalize 18446744073709551616 ^ (i + k) * c = A1 at *
    generalize 18446744073709551616 ^ (i + k) * (x * y) = A2 at *
    generalize 18446744073709551616 ^ i * (x * valB 18446744073709551616 ((wg b).take k)) = A3 at *
    omega
   have hset := nl_set U (i + k) ((u + c + x * y) % 18446744073709551616)
   have hlen2 : (U.set (i + k) ((u + c + x * y) % 18446744073709551616)).length = (wg a).length + (wg b).length := by rw [List.length_set, hU]
   have hall := setB (B := 18446744073709551616) (x := (u + c + x * y) % 18446744073709551616) (i := i + k) hUl (Nat.mod_lt _ (by decide))
   have hz2 : ∀ j, i + (wg b).length ≤ j → (U.set (i + k) ((u + c + x * y) % 18446744073709551616)).getD j 0 = 0 := fun j hj => by
    rw [List.getD_eq_getElem?_getD, List.getElem?_set_ne (by omega), ← List.getD_eq_getElem?_getD]
    exact hzU j hj
   have hm64 := mul64_fn (x := x) (y := y) hxa hxb
   generalize x * y = p at *
   generalize hsd : (u + c + p) % 18446744073709551616 = s at *
   generalize hcd : (u + c + p) / 18446744073709551616 = c' at *
   simp (maxSteps := 1000000) (disch := (first | omega | (simp only [lnA, List.length_map, List.length_range, true_and, and_true]; (try omega); done) | fail)) only [go_sem, hgb, Int.reduceEq, Int.reduceToNat, Nat.reduceAdd, Nat.reduceMul, Nat.reduceEqDiff, ↓reduceIte]
   refine callV0 (hm64) rfl rfl ?_
   simp (maxSteps := 1000000) (disch := (first | omega | (simp only [lnA, List.length_map, List.length_range, true_and, and_true]; (try omega); done) | fail)) only [go_sem, hgu, hik, Int.reduceEq, Int.reduceToNat, Nat.reduceAdd, Nat.reduceMul, Nat.reduceEqDiff, ↓reduceIte]
   refine call_add64 (c := 0) Tryz.func83 (by kernel_rfl) (by kernel_rfl) (by kernel_rfl) (by kernel_rfl) (by omega) ?_
   have hs1 : (p % 18446744073709551616 + u + 0) / 18446744073709551616 ≤ 1 := by omega
   generalize (p % 18446744073709551616 + u + 0) / 18446744073709551616 = c1 at *
   generalize (p % 18446744073709551616 + u + 0) % 18446744073709551616 = l1 at *
   have hq1 : ((p / 18446744073709551616 : Nat) : Int) + (c1 : Int) = ((p / 18446744073709551616 + c1 : Nat) : Int) := by omega
   simp (maxSteps := 1000000) (disch := (first | omega | (simp only [lnA, List.length_map, List.length_range, true_and, and_true]; (try omega); done) | fail)) only [go_sem, hq1, Int.reduceEq, Int.reduceToNat, Nat.reduceAdd, Nat.reduceMul, Nat.reduceEqDiff, ↓reduceIte]
   refine call_add64 (c := 0) Tryz.func83 (by kernel_rfl) (by kernel_rfl) (by kernel_rfl) (by kernel_rfl) (by omega) ?_
   rw [hd1]
   generalize (l1 + c + 0) / 18446744073709551616 = c2 at *
   have hq2 : ((p / 18446744073709551616 + c1 : Nat) : Int) + (c2 : Int) = (c' : Int) := by omega
   simp (maxSteps := 1000000) (disch := (first | omega | (simp only [lnA, List.length_map, List.length_range, true_and, and_true]; (try omega); done) | fail)) only [go_sem, hik, hq1, hq2, hset, Int.reduceEq, Int.reduceToNat, Nat.reduceAdd, Nat.reduceMul, Nat.reduceEqDiff, ↓reduceIte]
   refine nextW (k + 1, c', U.set (i + k) s) [some 0, some 1, some 2, some 3] ⟨by simp only; omega, hd3, hlen2, hall, hinv, hz2⟩ (by simp only; omega)
  ·
   obtain rfl : k = (wg b).length := by omega
   have hfull : (wg b).take (wg b).length = wg b := List.take_of_length_le (Nat.le_refl _)
   rw [hfull, hbv] at hw
   have hset := nl_set U (i + (wg b).length) c
   have hlen2 : (U.set (i + (wg b).length) c).length = (wg a).length + (wg b).length := by rw [List.length_set, hU]
   have hall := setB (B := 18446744073709551616) (x := c) (i := i + (wg b).length) hUl hc
   have hz2 : ∀ j, i + 1 + (wg b).length ≤ j → (U.set (i + (wg b).length) c).getD j 0 = 0 := fun j hj => by
    rw [List.getD_eq_getElem?_getD, List.getElem?_set_ne (by omega), ← List.getD_eq_getElem?_getD]
    exact hzU j (by omega)
   have hvs := valB_set (B := 18446744073709551616) (l := U) (i := i + (wg b).length) (x := c) (by omega)
   rw [hzU _ (Nat.le_refl _), Nat.mul_zero, Nat.add_zero, hw, hv] at hvs
   have hik : ((i : Int) + ((wg b).length : Int)).toNat = i + (wg b).length := by omega
   have hik2 : ((i : Int) + ((nl (wg b)).length : Int)).toNat = i + (wg b).length := by omega
   simp (maxSteps := 1000000) (disch := (first | omega | (simp only [lnA, List.length_map, List.length_range, true_and, and_true]; (try omega); done) | fail)) only [go_sem, hik, hik2, hset, Int.reduceEq, Int.reduceToNat, Nat.reduceAdd, Nat.reduceMul, Nat.reduceEqDiff, ↓reduceIte]
   refine nextW (i + 1, U.set (i + (wg b).length) c) [some 0, some 1, some 2, some 3] ⟨by simp only; omega, hlen2, hall, by simp only; rw [hvs, hti, Nat.add_mul, Nat.mul_assoc], hz2⟩ (by simp only; omega)
 ·
  have hfull : (wg a).take i = wg a := List.take_of_length_le (by omega)
  rw [hfull, hav] at hv
  refine runW ?_
  refine callW [] [3] (trimmed_fn (l := O) hOl (by omega)) ?_
  rw [hv]
  refine runW ?_
  exact endW [] hQ
end Go.Proofs.YtdohmppildfjhaaGreatDoor
