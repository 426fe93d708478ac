import Derived.Test.YtdohmppildfjhaaGreatDoorRa
import Derived.Test.YtdohmppildfjhaaGreatDoorE6
import Derived.Test.YtdohmppildfjhaaGreatDoorD1
import Derived.Test.YtdohmppildfjhaaGreatDoorE7
import Derived.Test.YtdohmppildfjhaaGreatDoorNe
import Derived.Test.YtdohmppildfjhaaGreatDoorZ2
import Derived.Test.YtdohmppildfjhaaGreatDoorRh
namespace Go.Proofs.YtdohmppildfjhaaGreatDoor
open Go.Eng Go.Vx
set_option linter.unusedSimpArgs false
set_option linter.unusedVariables false
set_option maxRecDepth 100000
def dg (n : Nat) : List Nat := dgB 10000 n
def DV (n : Nat) : V := .row 1 ((nl (dg n)).map (ie .i64))
attribute [go_sem] DV
def wv (W : List Nat) : Nat := valB 18446744073709551616 W

def wrC (o : Nat) (L : List Bool) : Ob := .cells [.sl o 1 0 (pk L).length, .lit (.int .i64 (L.length : Int))]
def wrR (L : List Bool) : Ob := .row 1 ((pk L).map (ie .u8))
attribute [go_sem] wrC wrR


def rdC (B : List Int) (p : Nat) : Ob := .cells [.row 1 (B.map (ie .u8)), .lit (.int .i64 (p : Int))]
attribute [go_sem] rdC
theorem IsB.get {B : List Int} (h : IsB B) (i : Nat) : 0 ≤ B.getD i 0 ∧ B.getD i 0 ≤ 255 := by
 rw [List.getD_eq_getElem?_getD]
 cases hx : B[i]? with
 | none => simp
 | some x => exact h x (List.mem_of_getElem? hx)

theorem RS_small {z : Int} (h : z.natAbs < 18446744073709551616) : RS 1 (z : Rat) := RS_int (wg_one h) (by decide)
def hf (b : Nat) : Rat := mkRat 1 (2 ^ b)
def tw (b : Nat) : Rat := (((2 ^ b : Nat) : Int) : Rat)
def dn (x : Rat) (b : Nat) : Rat := ((x * tw b).floor : Rat) * hf b
def up (x : Rat) (b : Nat) : Rat := 0 - dn (0 - x) b
theorem tw_pos (b : Nat) : 0 < tw b := by
 unfold tw
 have : 0 < 2 ^ b := Nat.pow_pos (by decide)
 have h : ((0 : Int) : Rat) < (((2 ^ b : Nat) : Int) : Rat) := Rat.intCast_lt_intCast.2 (by omega)
 exact h
theorem hf_tw (b : Nat) : hf b * tw b = 1 := by
 unfold hf
 have h : mkRat 1 (2 ^ b) = 1 / tw b := by
  unfold tw
  rw [← Rat.divInt_ofNat, Rat.divInt_eq_div]
  rfl
 have := tw_pos b
 rw [h]
 grind
theorem hf_pos (b : Nat) : 0 < hf b := by
 have h1 := hf_tw b
 have h2 := tw_pos b
 by_cases h : 0 < hf b
 ·
  exact h
 ·
  have : hf b * tw b ≤ 0 := by
   have h3 : hf b ≤ 0 := by grind
   have := Rat.mul_le_mul_of_nonneg_right h3 (Rat.le_of_lt h2)
   grind
  grind
theorem dn_le (x : Rat) (b : Nat) : dn x b ≤ x := by
 have h1 := Rat.floor_le (x * tw b)
 have h2 := Rat.mul_le_mul_of_nonneg_right h1 (Rat.le_of_lt (hf_pos b))
 have h3 := hf_tw b
 unfold dn
 have : x * tw b * hf b = x := by grind
 grind
theorem dn_gt (x : Rat) (b : Nat) : x < dn x b + hf b := by
 have h1 := Rat.lt_floor_add_one (x * tw b)
 have h2 := Rat.mul_lt_mul_of_pos_right h1 (hf_pos b)
 have h3 := hf_tw b
 unfold dn
 have h4 : x * tw b * hf b = x := by grind
 rw [h4, Rat.intCast_add] at h2
 have : (((x * tw b).floor : Rat) + ((1 : Int) : Rat)) * hf b = (x * tw b).floor * hf b + hf b := by
  rw [show ((1 : Int) : Rat) = 1 from rfl]
  grind
 grind
theorem up_ge (x : Rat) (b : Nat) : x ≤ up x b := by
 have := dn_le (0 - x) b
 unfold up
 grind
theorem up_lt (x : Rat) (b : Nat) : up x b < x + hf b := by
 have := dn_gt (0 - x) b
 unfold up
 grind
theorem dn_nonneg {x : Rat} (h : 0 ≤ x) (b : Nat) : 0 ≤ dn x b := by
 have h1 : (0 : Int) ≤ (x * tw b).floor := Rat.le_floor_iff.2 (Rat.mul_nonneg h (Rat.le_of_lt (tw_pos b)))
 exact Rat.mul_nonneg (by exact_mod_cast h1) (Rat.le_of_lt (hf_pos b))
theorem dn_mono {x y : Rat} (h : x ≤ y) (b : Nat) : dn x b ≤ dn y b := by
 have h1 := Rat.floor_monotone (Rat.mul_le_mul_of_nonneg_right h (Rat.le_of_lt (tw_pos b)))
 exact Rat.mul_le_mul_of_nonneg_right (by exact_mod_cast h1) (Rat.le_of_lt (hf_pos b))
theorem up_mono {x y : Rat} (h : x ≤ y) (b : Nat) : up x b ≤ up y b := by
 have := dn_mono (x := 0 - y) (y := 0 - x) (by grind) b
 unfold up
 grind
def tau (x : Rat) : Nat → Rat
 | 0 => 1
 | n + 1 => tau x n * (x * (1 / ((n + 1 : Nat) : Int)))
def Sx (x : Rat) : Nat → Rat
 | 0 => 1
 | n + 1 => Sx x n + tau x (n + 1)
theorem inv_pos {n : Nat} (h : 0 < n) : 0 < (1 : Rat) / ((n : Nat) : Int) ∧ (1 : Rat) / ((n : Nat) : Int) ≤ 1 := by
 have h1 : (1 : Rat) ≤ (((n : Nat) : Int) : Rat) := by
  have : ((1 : Int) : Rat) ≤ (((n : Nat) : Int) : Rat) := Rat.intCast_le_intCast.2 (by omega)
  simpa using this
 generalize (((n : Nat) : Int) : Rat) = k at *
 have h2 : (1 : Rat) / k * k = 1 := by grind
 generalize (1 : Rat) / k = i at *
 have h3 : 0 < i := by
  by_cases h : 0 < i
  ·
   exact h
  ·
   have := Rat.mul_le_mul_of_nonneg_right (c := k) (show i ≤ 0 by grind) (by grind)
   grind
 refine ⟨h3, ?_⟩
 have := Rat.mul_le_mul_of_nonneg_left (c := i) h1 (by grind)
 grind
theorem inv_half {n : Nat} (h : 2 ≤ n) : (1 : Rat) / ((n : Nat) : Int) ≤ 1 / 2 := by
 have h1 : (2 : Rat) ≤ (((n : Nat) : Int) : Rat) := by
  have : ((2 : Int) : Rat) ≤ (((n : Nat) : Int) : Rat) := Rat.intCast_le_intCast.2 (by omega)
  simpa using this
 have h0 := (inv_pos (n := n) (by omega)).1
 have h2 : (1 : Rat) / (((n : Nat) : Int) : Rat) * (((n : Nat) : Int) : Rat) = 1 := by grind
 generalize (((n : Nat) : Int) : Rat) = k at *
 generalize (1 : Rat) / k = i at *
 have := Rat.mul_le_mul_of_nonneg_left (c := i) h1 (by grind)
 grind
theorem fac_le {x : Rat} (h0 : 0 ≤ x) (h1 : x ≤ 1 / 2) (n : Nat) : 0 ≤ x * (1 / ((n + 1 : Nat) : Int)) ∧ x * (1 / ((n + 1 : Nat) : Int)) ≤ 1 / 2 ∧ (1 ≤ n → x * (1 / ((n + 1 : Nat) : Int)) ≤ 1 / 4) := by
 obtain ⟨a, b⟩ := inv_pos (n := n + 1) (by omega)
 have c := fun h => inv_half (n := n + 1) h
 generalize (1 : Rat) / ((n + 1 : Nat) : Int) = i at *
 refine ⟨Rat.mul_nonneg h0 (by grind), ?_, fun hn => ?_⟩
 ·
  have := Rat.mul_le_mul_of_nonneg_left (c := x) b h0
  grind
 ·
  have := Rat.mul_le_mul_of_nonneg_left (c := x) (c (by omega)) h0
  grind
theorem mul_le_mul' {a b c d : Rat} (h1 : a ≤ c) (h2 : b ≤ d) (h3 : 0 ≤ b) (h4 : 0 ≤ c) : a * b ≤ c * d := by
 have := Rat.mul_le_mul_of_nonneg_right (c := b) h1 h3
 have := Rat.mul_le_mul_of_nonneg_left (c := c) h2 h4
 grind
theorem tau_nonneg {x : Rat} (h0 : 0 ≤ x) : ∀ n, 0 ≤ tau x n := by
 intro n
 induction n with
 | zero => unfold tau; decide +kernel
 | succ n ih =>
  unfold tau
  obtain ⟨a, b⟩ := inv_pos (n := n + 1) (by omega)
  exact Rat.mul_nonneg ih (Rat.mul_nonneg h0 (by grind))
theorem tau_half {x : Rat} (h0 : 0 ≤ x) (h1 : x ≤ 1 / 2) (n : Nat) : tau x (n + 1) ≤ tau x n * (1 / 2) ∧ (1 ≤ n → tau x (n + 1) ≤ tau x n * (1 / 4)) := by
 obtain ⟨a, b, c⟩ := fac_le h0 h1 n
 have h := tau_nonneg h0 n
 rw [show tau x (n + 1) = tau x n * (x * (1 / ((n + 1 : Nat) : Int))) from rfl]
 exact ⟨Rat.mul_le_mul_of_nonneg_left b h, fun hn => Rat.mul_le_mul_of_nonneg_left (c hn) h⟩
theorem Sx_mono {x : Rat} (h0 : 0 ≤ x) {n m : Nat} (h : n ≤ m) : Sx x n ≤ Sx x m := by
 induction h with
 | refl => exact Rat.le_refl
 | step _ ih =>
  rename_i k _
  have := tau_nonneg h0 (k + 1)
  rw [show Sx x (k + 1) = Sx x k + tau x (k + 1) from rfl]
  grind
theorem Sx_tail {x : Rat} (h0 : 0 ≤ x) (h1 : x ≤ 1 / 2) {n m : Nat} (h : n ≤ m) : Sx x m + tau x m ≤ Sx x n + tau x n := by
 induction h with
 | refl => exact Rat.le_refl
 | step _ ih =>
  rename_i k _
  have := (tau_half h0 h1 k).1
  rw [show Sx x (k + 1) = Sx x k + tau x (k + 1) from rfl]
  grind
theorem Sx_top {x : Rat} (h0 : 0 ≤ x) (h1 : x ≤ 1 / 2) (n : Nat) : Sx x (n + 1) + tau x (n + 1) * (1 / 3) ≤ 5 / 3 := by
 induction n with
 | zero =>
  have := tau_half h0 h1 0
  have e : tau x 0 = 1 := rfl
  rw [show Sx x (0 + 1) = Sx x 0 + tau x (0 + 1) from rfl, show Sx x 0 = 1 from rfl]
  grind
 | succ n ih =>
  have := (tau_half h0 h1 (n + 1)).2 (by omega)
  rw [show Sx x (n + 1 + 1) = Sx x (n + 1) + tau x (n + 1 + 1) from rfl]
  grind
theorem Sx_le {x : Rat} (h0 : 0 ≤ x) (h1 : x ≤ 1 / 2) (n : Nat) : Sx x n ≤ 5 / 3 := by
 have a := Sx_top h0 h1 n
 have b := Sx_mono h0 (show n ≤ n + 1 by omega)
 have c := tau_nonneg h0 (n + 1)
 grind
structure SerI (x : Rat) (b : Nat) (n : Nat) (tl th sl sh : Rat) : Prop where
 t0 : 0 ≤ tl
 t1 : tl ≤ tau x n
 t2 : tau x n ≤ th
 t3 : th - tl ≤ 4 * hf b
 t4 : th ≤ hf n + 2 * hf b
 s1 : sl ≤ Sx x n
 s2 : Sx x n ≤ sh
 s3 : sh - sl ≤ ((4 * n : Nat) : Int) * hf b
 s4 : 1 ≤ sl
theorem hf_succ (n : Nat) : hf (n + 1) = hf n * (1 / 2) := by
 have h1 := hf_tw n
 have h2 := hf_tw (n + 1)
 have h3 : tw (n + 1) = tw n * 2 := by
  unfold tw
  rw [Nat.pow_succ]
  simp
 have := tw_pos n
 rw [h3] at h2
 generalize hf n = a at *
 generalize hf (n + 1) = c at *
 generalize tw n = t at *
 have : a * (c * (t * 2)) = a := by rw [h2]; grind
 have : c * 2 * (a * t) = c * 2 := by rw [h1]; grind
 grind
theorem hf_zero : hf 0 = 1 := by decide +kernel
theorem SerI.start (x : Rat) (b : Nat) : SerI x b 0 1 1 1 1 := by
 have h := hf_pos b
 have e : tau x 0 = 1 := rfl
 have e2 : Sx x 0 = 1 := rfl
 refine ⟨by decide +kernel, by rw [e]; exact Rat.le_refl, by rw [e]; exact Rat.le_refl, by grind, by rw [hf_zero]; grind, by rw [e2]; exact Rat.le_refl, by rw [e2]; exact Rat.le_refl, ?_, by decide +kernel⟩
 have : (((4 * 0 : Nat) : Int) : Rat) = 0 := rfl
 rw [this]
 grind
theorem SerI.next {x : Rat} {b n : Nat} {tl th sl sh : Rat} (h0 : 0 ≤ x) (h1 : x ≤ 1 / 2) (h : SerI x b n tl th sl sh) :
  SerI x b (n + 1) (dn (tl * (x * (1 / ((n + 1 : Nat) : Int)))) b) (up (th * (x * (1 / ((n + 1 : Nat) : Int)))) b) (sl + dn (tl * (x * (1 / ((n + 1 : Nat) : Int)))) b) (sh + up (th * (x * (1 / ((n + 1 : Nat) : Int)))) b) := by
 obtain ⟨t0, t1, t2, t3, t4, s1, s2, s3, s4⟩ := h
 obtain ⟨a, c, -⟩ := fac_le h0 h1 n
 have hp := hf_pos b
 have ht : tau x (n + 1) = tau x n * (x * (1 / ((n + 1 : Nat) : Int))) := rfl
 have hS : Sx x (n + 1) = Sx x n + tau x (n + 1) := rfl
 have hs := hf_succ n
 have e4 : (((4 * (n + 1) : Nat) : Int) : Rat) = (((4 * n : Nat) : Int) : Rat) + 4 := by
  rw [show ((4 * (n + 1) : Nat) : Int) = ((4 * n : Nat) : Int) + 4 by omega, Rat.intCast_add]
  rfl
 generalize x * (1 / ((n + 1 : Nat) : Int)) = f at *
 have d1 := dn_le (tl * f) b
 have d2 := dn_gt (tl * f) b
 have u1 := up_ge (th * f) b
 have u2 := up_lt (th * f) b
 have n1 : 0 ≤ tl * f := Rat.mul_nonneg t0 a
 have n2 := dn_nonneg n1 b
 have m1 := Rat.mul_le_mul_of_nonneg_right t1 a
 have m2 := Rat.mul_le_mul_of_nonneg_right t2 a
 have m3 : (th - tl) * f ≤ (4 * hf b) * (1 / 2) := mul_le_mul' t3 c a (by grind)
 have m4 : th * f ≤ (hf n + 2 * hf b) * (1 / 2) := mul_le_mul' t4 c a (by have := hf_pos n; grind)
 generalize dn (tl * f) b = DL at *
 generalize up (th * f) b = UH at *
 generalize hhb : hf b = hb at *
 generalize (((4 * n : Nat) : Int) : Rat) = N4 at *
 generalize hN5 : (((4 * (n + 1) : Nat) : Int) : Rat) = N5 at *
 generalize hh2 : hf (n + 1) = h2 at *
 generalize hf n = h3 at *
 generalize hT2 : tau x (n + 1) = T2 at *
 generalize hS2 : Sx x (n + 1) = S2 at *
 generalize tau x n = T at *
 generalize Sx x n = S at *
 refine ⟨n2, by rw [hT2]; grind, by rw [hT2]; grind, by rw [hhb]; grind, by rw [hhb, hh2]; grind, by rw [hS2]; grind, by rw [hS2]; grind, by rw [hN5, hhb]; clear hN5; have e5 : N5 * hb = N4 * hb + 4 * hb := (by rw [e4]; grind); clear e4; grind, by grind⟩
end Go.Proofs.YtdohmppildfjhaaGreatDoor
