import Derived.Test.YtdohmppildfjhaaGreatDoorE7
import Derived.Test.YtdohmppildfjhaaGreatDoorRa
namespace Go.Proofs.YtdohmppildfjhaaGreatDoor
open Go.Eng
set_option linter.unusedSimpArgs false
set_option linter.unusedVariables false
theorem half_low {u d y1 y0 : Nat} (hd : d < 4294967296) (hy : 0 < y1) : (u * 4294967296 + d) / (y1 * 4294967296 + y0) ≤ u / y1 := by
 rw [Nat.le_div_iff_mul_le hy]
 have h := Nat.div_mul_le_self (u * 4294967296 + d) (y1 * 4294967296 + y0)
 generalize (u * 4294967296 + d) / (y1 * 4294967296 + y0) = Q at *
 rw [Nat.mul_add, ← Nat.mul_assoc] at h
 generalize Q * y1 = a at *
 generalize Q * y0 = b at *
 omega
theorem half_start {u y1 y0 : Nat} (hy1 : 2147483648 ≤ y1) (hy0 : y0 < 4294967296) (hu : u < y1 * 4294967296 + y0) : u / y1 ≤ 4294967297 := by
 have h := Nat.div_mul_le_self u y1
 refine Classical.byContradiction fun hn => ?_
 have h2 := Nat.mul_le_mul_right y1 (show 4294967298 ≤ u / y1 by omega)
 omega
theorem half_dec {u d y1 y0 q r : Nat} (hd : d < 4294967296) (hu : u < y1 * 4294967296 + y0) (hi : q * y1 + r = u) (hq : (u * 4294967296 + d) / (y1 * 4294967296 + y0) ≤ q) (hc : 4294967296 ≤ q ∨ 4294967296 * r + d < q * y0) :
  0 < q ∧ (u * 4294967296 + d) / (y1 * 4294967296 + y0) ≤ q - 1 ∧ (q - 1) * y1 + (r + y1) = u := by
 have hy : 0 < y1 * 4294967296 + y0 := by omega
 have hlt : (u * 4294967296 + d) / (y1 * 4294967296 + y0) < q := by
  rw [Nat.div_lt_iff_lt_mul hy]
  rcases hc with hc | hc
  ·
   have h1 : 4294967296 * (y1 * 4294967296 + y0) ≤ q * (y1 * 4294967296 + y0) := Nat.mul_le_mul_right _ hc
   omega
  ·
   rw [Nat.mul_add, ← Nat.mul_assoc]
   generalize q * y1 = a at *
   generalize q * y0 = b at *
   omega
 have hq0 : 0 < q := Nat.lt_of_le_of_lt (Nat.zero_le _) hlt
 obtain ⟨k, rfl⟩ : ∃ k, q = k + 1 := ⟨q - 1, by omega⟩
 rw [Nat.add_sub_cancel]
 rw [Nat.add_mul, Nat.one_mul] at hi
 exact ⟨hq0, Nat.le_of_lt_succ hlt, by omega⟩
theorem half_stop {u d y1 y0 q r : Nat} (hy : 0 < y1 * 4294967296 + y0) (hi : q * y1 + r = u) (hq : (u * 4294967296 + d) / (y1 * 4294967296 + y0) ≤ q) (hc : q * y0 ≤ 4294967296 * r + d) :
  q = (u * 4294967296 + d) / (y1 * 4294967296 + y0) := by
 refine Nat.le_antisymm ?_ hq
 rw [Nat.le_div_iff_mul_le hy, Nat.mul_add, ← Nat.mul_assoc]
 generalize q * y1 = a at *
 generalize q * y0 = b at *
 omega
theorem half_break {u d y1 y0 q r : Nat} (hy : 0 < y1 * 4294967296 + y0) (hy0 : y0 < 4294967296) (hi : q * y1 + r = u) (hq : (u * 4294967296 + d) / (y1 * 4294967296 + y0) ≤ q) (hq2 : q ≤ 4294967296) (hr : 4294967296 ≤ r) :
  q = (u * 4294967296 + d) / (y1 * 4294967296 + y0) := by
 refine half_stop hy hi hq ?_
 have := Nat.mul_le_mul hq2 (show y0 ≤ 4294967295 by omega)
 omega
theorem halves {b N2 un1 un0 Y : Nat} (hY : 0 < Y) (hu : N2 < Y) (h1 : un1 < b) (h0 : un0 < b) :
  (N2 * b + un1) / Y * b + ((N2 * b + un1) % Y * b + un0) / Y = ((N2 * b + un1) * b + un0) / Y ∧
  ((N2 * b + un1) % Y * b + un0) % Y = ((N2 * b + un1) * b + un0) % Y ∧
  (N2 * b + un1) / Y < b ∧ ((N2 * b + un1) % Y * b + un0) / Y < b := by
 have key : ∀ x z : Nat, x < Y → z < b → (x * b + z) / Y < b := fun x z hx hz => by
  rw [Nat.div_lt_iff_lt_mul hY]
  have := Nat.mul_le_mul_right b (show x + 1 ≤ Y from hx)
  rw [Nat.add_mul, Nat.one_mul] at this
  rw [Nat.mul_comm b Y]
  omega
 have e1 := Nat.div_add_mod (N2 * b + un1) Y
 have l1 := Nat.mod_lt (N2 * b + un1) hY
 have q1 := key N2 un1 hu h1
 generalize hA : N2 * b + un1 = A at *
 generalize A / Y = Q1 at *
 generalize A % Y = R1 at *
 have e2 := Nat.div_add_mod (R1 * b + un0) Y
 have l2 := Nat.mod_lt (R1 * b + un0) hY
 have q2 := key R1 un0 l1 h0
 generalize hC : R1 * b + un0 = C at *
 generalize C / Y = Q0 at *
 generalize C % Y = R0 at *
 have hs : R0 + Y * (Q1 * b + Q0) = A * b + un0 := by
  rw [Nat.mul_add, ← Nat.mul_assoc, ← e1, Nat.add_mul]
  omega
 have hdm := (Nat.div_mod_unique hY (a := A * b + un0) (c := R0) (d := Q1 * b + Q0)).2 ⟨hs, l2⟩
 exact ⟨hdm.1.symm, hdm.2.symm, q1, q2⟩
theorem div_shift {a y s : Nat} (hy : 0 < y) : a * 2 ^ s / (y * 2 ^ s) = a / y ∧ a * 2 ^ s % (y * 2 ^ s) = a % y * 2 ^ s := by
 have hp : 0 < 2 ^ s := Nat.pow_pos (by decide)
 exact ⟨Nat.mul_div_mul_right _ _ hp, Nat.mul_mod_mul_right _ _ _⟩
theorem shift_words {hi lo y s : Nat} (hs : s ≤ 63) (hlo : lo < 18446744073709551616) (hhi : hi < y) (hy : y * 2 ^ s < 18446744073709551616) :
  (hi * 2 ^ s + lo / 2 ^ (64 - s)) * 18446744073709551616 + lo * 2 ^ s % 18446744073709551616 = (hi * 18446744073709551616 + lo) * 2 ^ s ∧
  hi * 2 ^ s + lo / 2 ^ (64 - s) < y * 2 ^ s ∧ lo / 2 ^ (64 - s) < 2 ^ s := by
 have e : (18446744073709551616 : Nat) = 2 ^ (64 - s) * 2 ^ s := by rw [← Nat.pow_add, show 64 - s + s = 64 by omega]
 have hp : 0 < 2 ^ s := Nat.pow_pos (by decide)
 have hq : 0 < 2 ^ (64 - s) := Nat.pow_pos (by decide)
 have hmm : lo * 2 ^ s % 18446744073709551616 = lo % 2 ^ (64 - s) * 2 ^ s := by rw [e, Nat.mul_mod_mul_right]
 have hl : lo / 2 ^ (64 - s) < 2 ^ s := by rw [Nat.div_lt_iff_lt_mul hq, Nat.mul_comm, ← e]; exact hlo
 refine ⟨?_, ?_, hl⟩
 ·
  rw [hmm]
  have h := Nat.div_add_mod lo (2 ^ (64 - s))
  generalize lo / 2 ^ (64 - s) = a at *
  generalize lo % 2 ^ (64 - s) = b at *
  rw [← h, Nat.add_mul, e]
  generalize 2 ^ s = S at *
  generalize 2 ^ (64 - s) = T at *
  simp only [Nat.add_mul, Nat.mul_add, Nat.mul_assoc, Nat.mul_comm, Nat.mul_left_comm, Nat.add_assoc, Nat.add_comm, Nat.add_left_comm]
 ·
  have := Nat.mul_le_mul_right (2 ^ s) (show hi + 1 ≤ y from hhi)
  rw [Nat.add_mul, Nat.one_mul] at this
  omega
theorem norm_up {y : Nat} (h0 : 0 < y) (h : y < 18446744073709551616) : 64 - bl y ≤ 63 ∧ bl y ≤ 64 ∧ 9223372036854775808 ≤ y * 2 ^ (64 - bl y) ∧ y * 2 ^ (64 - bl y) < 18446744073709551616 := by
 have h1 := bl_le_of (n := y) (k := 64) (by omega)
 have h2 := bl_pos (n := y) (by omega)
 have h3 := bl_le (n := y) (by omega)
 have h4 := bl_lt y
 refine ⟨by omega, h1, ?_, ?_⟩
 ·
  have := Nat.mul_le_mul_right (2 ^ (64 - bl y)) h3
  rw [← Nat.pow_add, show bl y - 1 + (64 - bl y) = 63 by omega] at this
  exact this
 ·
  have := Nat.mul_lt_mul_of_pos_right h4 (show 0 < 2 ^ (64 - bl y) from Nat.pow_pos (by decide))
  rw [← Nat.pow_add, show bl y + (64 - bl y) = 64 by omega] at this
  exact this
def fw (B : Nat) : Nat → Nat → List Nat
 | 0, _ => []
 | k + 1, v => v % B :: fw B k (v / B)
theorem fw_len {B : Nat} : ∀ k v, (fw B k v).length = k
 | 0, _ => rfl
 | k + 1, v => by show (fw B k (v / B)).length + 1 = _; rw [fw_len k]
theorem fw_lt {B : Nat} (hB : 0 < B) : ∀ k v, ∀ d ∈ fw B k v, d < B
 | 0, _, d, hd => by simp [fw] at hd
 | k + 1, v, d, hd => by
  rcases List.mem_cons.1 hd with rfl | hd
  ·
   exact Nat.mod_lt _ hB
  ·
   exact fw_lt hB k _ d hd
theorem fw_val {B : Nat} (hB : 0 < B) : ∀ k v, valB B (fw B k v) = v % B ^ k
 | 0, v => by rw [Nat.pow_zero, Nat.mod_one]; rfl
 | k + 1, v => by
  show v % B + B * valB B (fw B k (v / B)) = _
  rw [fw_val hB k, Nat.pow_succ, Nat.mul_comm (B ^ k), Nat.mod_mul]
theorem fw_of {B : Nat} : ∀ {l : List Nat}, (∀ d ∈ l, d < B) → fw B l.length (valB B l) = l
 | [], _ => rfl
 | d :: l, h => by
  have hd := h d (by simp)
  have ih := fw_of (l := l) (fun x hx => h x (by simp [hx]))
  show (d + B * valB B l) % B :: fw B l.length ((d + B * valB B l) / B) = _
  rw [Nat.add_mul_mod_self_left, Nat.mod_eq_of_lt hd, Nat.add_mul_div_left _ _ (by omega), Nat.div_eq_of_lt hd, Nat.zero_add, ih]
theorem fw_eq {B k v : Nat} {l : List Nat} (h : ∀ d ∈ l, d < B) (hk : l.length = k) (hv : valB B l = v) : fw B k v = l := by rw [← hk, ← hv]; exact fw_of h
theorem fw_add {B : Nat} : ∀ a b v, fw B (a + b) v = fw B a v ++ fw B b (v / B ^ a)
 | 0, b, v => by rw [Nat.zero_add, Nat.pow_zero, Nat.div_one]; rfl
 | a + 1, b, v => by
  rw [show a + 1 + b = (a + b) + 1 by omega]
  show v % B :: fw B (a + b) (v / B) = v % B :: (fw B a (v / B) ++ fw B b (v / B ^ (a + 1)))
  rw [fw_add a b, Nat.pow_succ, Nat.mul_comm, Nat.div_div_eq_div_mul]
theorem fw_mod {B : Nat} (hB : 0 < B) : ∀ k v, fw B k (v % B ^ k) = fw B k v
 | 0, _ => rfl
 | k + 1, v => by
  show v % B ^ (k + 1) % B :: fw B k (v % B ^ (k + 1) / B) = v % B :: fw B k (v / B)
  rw [Nat.pow_succ, Nat.mod_mul_left_mod, Nat.mul_comm, Nat.mod_mul_right_div_self, fw_mod hB k]
theorem fw_getD {B : Nat} : ∀ {k i} (v : Nat), i < k → (fw B k v).getD i 0 = v / B ^ i % B
 | 0, _, _, h => absurd h (Nat.not_lt_zero _)
 | k + 1, 0, v, _ => by simp [fw]
 | k + 1, i + 1, v, h => by
  show (fw B k (v / B)).getD i 0 = _
  rw [fw_getD (v / B) (by omega), Nat.pow_succ, Nat.mul_comm (B ^ i), Nat.div_div_eq_div_mul]
def prt (P N T : List Nat) : List Nat := P ++ (N ++ T.drop N.length)
theorem prt_nil (P T : List Nat) : prt P [] T = P ++ T := rfl
theorem prt_len {P N T : List Nat} (h : N.length ≤ T.length) : (prt P N T).length = P.length + T.length := by unfold prt; simp; omega
theorem prt_get {P N T : List Nat} {i : Nat} (h : N.length ≤ i) (hi : i < T.length) : (prt P N T).getD (P.length + i) 0 = T.getD i 0 := by
 unfold prt
 rw [List.getD_eq_getElem?_getD, List.getElem?_append_right (by omega), List.getElem?_append_right (by omega), List.getElem?_drop, List.getD_eq_getElem?_getD]
 congr 2
 omega
theorem prt_set {P N T : List Nat} {x : Nat} (h : N.length < T.length) : (prt P N T).set (P.length + N.length) x = prt P (N ++ [x]) T := by
 unfold prt
 rw [List.set_append_right (h := by omega), Nat.add_sub_cancel_left, List.set_append_right (h := Nat.le_refl _), Nat.sub_self, List.drop_eq_getElem_cons h, List.set_cons_zero, List.length_append, List.length_singleton, List.append_assoc]
 rfl
theorem guess_ge {U D P : Nat} (hP : 0 < P) (h : 0 < D / P) : U / D ≤ U / P / (D / P) := by
 rw [Nat.le_div_iff_mul_le h, Nat.le_div_iff_mul_le hP]
 have h1 := Nat.div_mul_le_self D P
 have h2 := Nat.div_mul_le_self U D
 have h3 := Nat.mul_le_mul_left (U / D) h1
 rw [← Nat.mul_assoc] at h3
 exact Nat.le_trans h3 h2
theorem tops {B n U D : Nat} (hB : 0 < B) (hn : 0 < n) (hU : U < B ^ (n + 1)) (hD : D < B ^ n) :
  U / B ^ n % B = U / B ^ n ∧ D / B ^ (n - 1) % B = D / B ^ (n - 1) ∧ U / B ^ n * B + U / B ^ (n - 1) % B = U / B ^ (n - 1) := by
 obtain ⟨m, rfl⟩ : ∃ m, n = m + 1 := ⟨n - 1, by omega⟩
 rw [Nat.add_sub_cancel]
 refine ⟨?_, ?_, ?_⟩
 ·
  refine Nat.mod_eq_of_lt ?_
  rw [Nat.div_lt_iff_lt_mul (Nat.pow_pos hB), Nat.mul_comm, ← Nat.pow_succ]
  exact hU
 ·
  refine Nat.mod_eq_of_lt ?_
  rw [Nat.div_lt_iff_lt_mul (Nat.pow_pos hB), Nat.mul_comm, ← Nat.pow_succ]
  exact hD
 ·
  rw [show U / B ^ (m + 1) = U / B ^ m / B by rw [Nat.pow_succ, Nat.div_div_eq_div_mul], Nat.mul_comm, Nat.div_add_mod]
theorem back_last {U D Q X V g : Nat} (hQ : Q = U / D) (h : V + g * D = U + X) (hg : g = Q + 1) : V + D = U % D + X := by
 have := Nat.div_add_mod U D
 subst hg
 rw [Nat.add_mul, Nat.one_mul] at h
 rw [← hQ, Nat.mul_comm] at this
 omega
theorem back_more {U D X V g : Nat} (hD : 0 < D) (hQ : U / D + 1 < g) (h : V + g * D = U + X) : V + D < X ∧ (V + D) + (g - 1) * D = U + X := by
 obtain ⟨k, rfl⟩ : ∃ k, g = k + 1 := ⟨g - 1, by have := Nat.zero_le (U / D); omega⟩
 rw [Nat.add_sub_cancel]
 rw [Nat.add_mul, Nat.one_mul] at h
 have h1 : U < k * D := by
  rw [← Nat.div_lt_iff_lt_mul hD]
  omega
 exact ⟨by omega, by omega⟩
theorem back_top {B n U D V g : Nat} (hB : 0 < B) (hD : D < B ^ n) (hg : g < B) (h : V + g * D = U + B ^ (n + 1)) : B ^ n ≤ V := by
 have h1 : g * D ≤ (B - 1) * B ^ n := Nat.mul_le_mul (by omega) (Nat.le_of_lt hD)
 have h2 : B ^ (n + 1) = (B - 1) * B ^ n + B ^ n := by
  obtain ⟨k, rfl⟩ : ∃ k, B = k + 1 := ⟨B - 1, by omega⟩
  rw [Nat.add_sub_cancel, Nat.pow_succ, Nat.mul_comm, Nat.add_mul, Nat.one_mul]
 omega
def longV (B A D k : Nat) : Nat := A / B ^ k % D * B ^ k + A % B ^ k
theorem long_div {B A D i : Nat} (hB : 0 < B) : longV B A D (i + 1) / B ^ i = A / B ^ (i + 1) % D * B + A / B ^ i % B := by
 unfold longV
 have hP : 0 < B ^ i := Nat.pow_pos hB
 have e : A % B ^ (i + 1) = A % B ^ i + B ^ i * (A / B ^ i % B) := Nat.mod_pow_succ
 rw [e, Nat.pow_succ]
 generalize A / (B ^ i * B) % D = r
 have hm := Nat.mod_lt A hP
 generalize A % B ^ i = x at *
 generalize A / B ^ i % B = y at *
 have e2 : r * (B ^ i * B) + (x + B ^ i * y) = x + B ^ i * (r * B + y) := by
  rw [Nat.mul_left_comm r, Nat.mul_add, Nat.add_left_comm]
 rw [e2, Nat.add_mul_div_left _ _ hP, Nat.div_eq_of_lt hm, Nat.zero_add]
theorem long_mod {B A D i : Nat} (hB : 0 < B) : longV B A D (i + 1) % B ^ i = A % B ^ i := by
 unfold longV
 have e : A % B ^ (i + 1) = A % B ^ i + B ^ i * (A / B ^ i % B) := Nat.mod_pow_succ
 rw [e, Nat.pow_succ]
 generalize A / (B ^ i * B) % D = r
 generalize hy : A / B ^ i % B = y
 have hx := Nat.mod_mod A (B ^ i)
 generalize A % B ^ i = x at *
 have e2 : r * (B ^ i * B) + (x + B ^ i * y) = x + B ^ i * (r * B + y) := by
  rw [Nat.mul_left_comm r, Nat.mul_add, Nat.add_left_comm]
 rw [e2, Nat.add_mul_mod_self_left, hx]
theorem long_lt {B A D i : Nat} (hB : 0 < B) (hD : 0 < D) : longV B A D (i + 1) / B ^ i < D * B := by
 rw [long_div hB]
 have h1 := Nat.mod_lt (A / B ^ (i + 1)) hD
 have h2 := Nat.mod_lt (A / B ^ i) hB
 generalize A / B ^ (i + 1) % D = r at *
 generalize A / B ^ i % B = y at *
 have := Nat.mul_le_mul_right B (show r + 1 ≤ D from h1)
 rw [Nat.add_mul, Nat.one_mul] at this
 omega
theorem long_split {B A i : Nat} (hB : 0 < B) : A / B ^ i = A / B ^ (i + 1) * B + A / B ^ i % B := by
 rw [Nat.pow_succ, ← Nat.div_div_eq_div_mul, Nat.div_add_mod']
theorem long_next {B A D i : Nat} (hB : 0 < B) : longV B A D (i + 1) / B ^ i % D * B ^ i + A % B ^ i = longV B A D i := by
 rw [long_div hB]
 unfold longV
 congr 2
 conv => rhs; rw [long_split (i := i) (A := A) hB]
 have h := Nat.div_add_mod (A / B ^ (i + 1)) D
 generalize A / B ^ i % B = y
 generalize A / B ^ (i + 1) % D = r at *
 generalize A / B ^ (i + 1) / D = q at *
 rw [← h, Nat.add_mul, Nat.add_assoc, Nat.mul_assoc, Nat.mul_add_mod]
theorem long_quo {B A D i : Nat} (hB : 0 < B) (hD : 0 < D) : longV B A D (i + 1) / B ^ i / D + B * (A / B ^ (i + 1) / D) = A / B ^ i / D := by
 rw [long_div hB]
 conv => rhs; rw [long_split (i := i) (A := A) hB]
 have h := Nat.div_add_mod (A / B ^ (i + 1)) D
 generalize A / B ^ i % B = y
 generalize A / B ^ (i + 1) % D = r at *
 generalize A / B ^ (i + 1) / D = q at *
 rw [← h, Nat.add_mul, Nat.add_assoc, Nat.mul_assoc, Nat.mul_add_div hD, Nat.mul_comm q B, Nat.add_comm]
theorem long_first {B A D k : Nat} (h : A / B ^ k < D) : longV B A D k = A ∧ A / B ^ k / D = 0 := by
 unfold longV
 rw [Nat.mod_eq_of_lt h, Nat.div_eq_of_lt h, Nat.mul_comm, Nat.div_add_mod]
 exact ⟨rfl, rfl⟩
theorem long_last {B A D : Nat} : longV B A D 0 = A % D := by
 unfold longV
 rw [Nat.pow_zero, Nat.div_one, Nat.mod_one, Nat.mul_one, Nat.add_zero]
theorem long_words {B V i n e : Nat} : fw B (i + (n + 1 + e)) V = fw B i V ++ (fw B (n + 1) (V / B ^ i) ++ fw B e (V / B ^ i / B ^ (n + 1))) := by
 rw [fw_add, fw_add]
theorem long_back {B V W i n e : Nat} (hB : 0 < B) (hV : V / B ^ i < B ^ (n + 1)) (hW : W < B ^ (n + 1)) :
  fw B i V ++ (fw B (n + 1) W ++ fw B e (V / B ^ i / B ^ (n + 1))) = fw B (i + (n + 1 + e)) (W * B ^ i + V % B ^ i) := by
 have hP : 0 < B ^ i := Nat.pow_pos hB
 rw [fw_add i, fw_add (n + 1)]
 have e1 : fw B i (W * B ^ i + V % B ^ i) = fw B i V := by
  rw [← fw_mod hB i (W * B ^ i + V % B ^ i), Nat.mul_comm, Nat.mul_add_mod, Nat.mod_mod, fw_mod hB]
 have e2 : (W * B ^ i + V % B ^ i) / B ^ i = W := by
  rw [Nat.mul_comm, Nat.mul_add_div hP, Nat.div_eq_of_lt (Nat.mod_lt _ hP), Nat.add_zero]
 rw [e1, e2, Nat.div_eq_of_lt hV, Nat.div_eq_of_lt hW]
theorem drop_val {l : List Nat} {i B : Nat} (h : i < l.length) : valB B (l.drop i) = l.getD i 0 + B * valB B (l.drop (i + 1)) := by
 rw [List.drop_eq_getElem_cons h]
 have e : l.getD i 0 = l[i] := by simp [List.getD_eq_getElem?_getD, h]
 rw [e]
 rfl
theorem set_drop {l : List Nat} {i x : Nat} (h : i < l.length) : (l.set i x).drop i = x :: l.drop (i + 1) := by
 rw [List.drop_eq_getElem_cons (by simpa using h), List.getElem_set_self, List.drop_set_of_lt (by omega)]
end Go.Proofs.YtdohmppildfjhaaGreatDoor
