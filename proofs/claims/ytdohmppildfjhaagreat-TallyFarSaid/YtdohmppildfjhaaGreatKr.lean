import Derived.Test.YtdohmppildfjhaaGreatRa
import Derived.Test.YtdohmppildfjhaaGreatE6
import Derived.Test.YtdohmppildfjhaaGreatD1
import Derived.Test.YtdohmppildfjhaaGreatE7
import Derived.Test.YtdohmppildfjhaaGreatKp
import Derived.Test.YtdohmppildfjhaaGreatD3
namespace Go.Proofs.YtdohmppildfjhaaGreat
open Go.Eng Go.Vx
set_option linter.unusedSimpArgs false
set_option linter.unusedVariables false
set_option maxRecDepth 100000
def dg (n : Nat) : List Nat := dgB 10000 n
def DV (n : Nat) : V := .row 1 ((nl (dg n)).map (ie .i64))
attribute [go_sem] DV
end Go.Proofs.YtdohmppildfjhaaGreat

namespace Go.Proofs.YtdohmppildfjhaaGreat
open Go.Eng Go.Vx
set_option linter.unusedSimpArgs false
set_option linter.unusedVariables false
set_option maxRecDepth 100000
def wv (W : List Nat) : Nat := valB 18446744073709551616 W
end Go.Proofs.YtdohmppildfjhaaGreat

namespace Go.Proofs.YtdohmppildfjhaaGreat
open Go.Eng
set_option linter.unusedSimpArgs false
set_option linter.unusedVariables false
def lgs (K : Nat) (s : Nat × Nat) : Nat × Nat := if 2 * K ≤ s.1 * s.1 / K then (s.1 * s.1 / K / 2, 2 * s.2 + 1) else (s.1 * s.1 / K, 2 * s.2)
def lgi (K : Nat) (s : Nat × Nat) : Nat → Nat × Nat
 | 0 => s
 | j + 1 => lgs K (lgi K s j)
theorem lgs_in {K : Nat} {s : Nat × Nat} (hK : 0 < K) (h : K ≤ s.1 ∧ s.1 < 2 * K) : K ≤ (lgs K s).1 ∧ (lgs K s).1 < 2 * K ∧ (lgs K s).2 ≤ 2 * s.2 + 1 := by
 have h1 : K * K ≤ s.1 * s.1 := Nat.mul_le_mul h.1 h.1
 have h2 : s.1 * s.1 < 4 * K * K := by
  have := Nat.mul_lt_mul'' h.2 h.2
  have e : 2 * K * (2 * K) = 4 * K * K := by rw [Nat.mul_mul_mul_comm, Nat.mul_assoc 4]
  omega
 have h3 : K ≤ s.1 * s.1 / K := (Nat.le_div_iff_mul_le hK).2 h1
 have h4 : s.1 * s.1 / K < 4 * K := (Nat.div_lt_iff_lt_mul hK).2 h2
 unfold lgs
 split
 ·
  simp only; omega
 ·
  simp only; omega
theorem lgi_in {K x o : Nat} (hK : 0 < K) (h : K ≤ x ∧ x < 2 * K) : ∀ j, K ≤ (lgi K (x, o) j).1 ∧ (lgi K (x, o) j).1 < 2 * K ∧ (lgi K (x, o) j).2 + 1 ≤ (o + 1) * 2 ^ j
 | 0 => ⟨h.1, h.2, by simp [lgi]⟩
 | j + 1 => by
  obtain ⟨a, b, c⟩ := lgi_in hK h j (o := o)
  have := lgs_in hK ⟨a, b⟩
  refine ⟨this.1, this.2.1, ?_⟩
  have h3 := this.2.2
  show (lgs K (lgi K (x, o) j)).2 + 1 ≤ _
  rw [Nat.pow_succ, ← Nat.mul_assoc]
  omega
def K62 : Nat := 4611686018427387904
def lgN (n : Nat) : Nat := (lgi K62 (n * 2 ^ (62 - (bl n - 1)), bl n - 1) 28).2
theorem lgs_low {K n x o t : Nat} (hK : 0 < K) (h : x * 2 ^ o ≤ n * K) : (lgs K (x, o)).1 * 2 ^ (lgs K (x, o)).2 ≤ n * n * K := by
 have h1 : x * x / K * K ≤ x * x := Nat.div_mul_le_self _ _
 have h2 : x * 2 ^ o * (x * 2 ^ o) ≤ n * K * (n * K) := Nat.mul_le_mul h h
 have e1 : x * 2 ^ o * (x * 2 ^ o) = x * x * 2 ^ (2 * o) := by rw [Nat.two_mul, Nat.pow_add]; simp only [Nat.mul_assoc, Nat.mul_left_comm]
 have e2 : n * K * (n * K) = n * n * K * K := by simp only [Nat.mul_assoc, Nat.mul_left_comm]
 rw [e1, e2] at h2
 have h3 : x * x / K * 2 ^ (2 * o) * K ≤ n * n * K * K := by
  have : x * x / K * 2 ^ (2 * o) * K = x * x / K * K * 2 ^ (2 * o) := by rw [Nat.mul_right_comm]
  rw [this]
  exact Nat.le_trans (Nat.mul_le_mul_right _ h1) h2
 have h4 := Nat.le_of_mul_le_mul_right h3 hK
 unfold lgs
 split
 ·
  simp only
  have e3 : x * x / K / 2 * 2 ^ (2 * o + 1) = x * x / K / 2 * 2 * 2 ^ (2 * o) := by rw [Nat.pow_succ]; simp only [Nat.mul_assoc, Nat.mul_left_comm, Nat.mul_comm]
  rw [e3]
  exact Nat.le_trans (Nat.mul_le_mul_right _ (Nat.div_mul_le_self _ _)) h4
 ·
  exact h4
theorem lgs_up {K x o : Nat} (hK : 0 < K) (hx : K ≤ x ∧ x < 2 * K) : x * x * 2 ^ (2 * o) ≤ (lgs K (x, o)).1 * 2 ^ (lgs K (x, o)).2 * (K + 1) := by
 have hin := lgs_in (s := (x, o)) hK hx
 have h1 : x * x < (x * x / K + 1) * K := by
  have := Nat.lt_div_mul_add hK (a := x * x)
  rw [Nat.add_mul, Nat.one_mul]
  omega
 unfold lgs at hin ⊢
 split
 ·
  rename_i hc
  rw [if_pos hc] at hin
  simp only at hin ⊢
  generalize x * x / K = y at *
  have h2 : (y + 1) * K ≤ y / 2 * 2 * (K + 1) := by
   have a0 : 2 * K ≤ y / 2 * 2 ∧ y + 1 ≤ y / 2 * 2 + 2 := by omega
   generalize y / 2 * 2 = t at *
   have a1 : (y + 1) * K ≤ (t + 2) * K := Nat.mul_le_mul_right _ a0.2
   rw [Nat.add_mul t] at a1
   rw [Nat.mul_add, Nat.mul_one]
   omega
  have e : y / 2 * 2 ^ (2 * o + 1) * (K + 1) = y / 2 * 2 * (K + 1) * 2 ^ (2 * o) := by rw [Nat.pow_succ]; simp only [Nat.mul_assoc, Nat.mul_left_comm, Nat.mul_comm]
  rw [e]
  exact Nat.mul_le_mul_right _ (by omega)
 ·
  rename_i hc
  rw [if_neg hc] at hin
  simp only at hin ⊢
  generalize x * x / K = y at *
  have h2 : (y + 1) * K ≤ y * (K + 1) := by
   rw [Nat.add_mul, Nat.mul_add, Nat.one_mul, Nat.mul_one]
   omega
  have e : y * 2 ^ (2 * o) * (K + 1) = y * (K + 1) * 2 ^ (2 * o) := by rw [Nat.mul_right_comm]
  rw [e]
  exact Nat.mul_le_mul_right _ (by omega)
def D28 : Nat := 268435456
end Go.Proofs.YtdohmppildfjhaaGreat

namespace Go.Proofs.YtdohmppildfjhaaGreat
open Go.Eng Go.Vx
set_option linter.unusedSimpArgs false
set_option linter.unusedVariables false
set_option maxRecDepth 100000

def wrC (o : Nat) (L : List Bool) : Ob := .cells [.sl o 1 0 (pk L).length, .lit (.int .i64 (L.length : Int))]
def wrR (L : List Bool) : Ob := .row 1 ((pk L).map (ie .u8))
attribute [go_sem] wrC wrR

end Go.Proofs.YtdohmppildfjhaaGreat

namespace Go.Proofs.YtdohmppildfjhaaGreat
open Go.Eng Go.Vx
set_option linter.unusedSimpArgs false
set_option linter.unusedVariables false
set_option maxRecDepth 100000

def rdC (B : List Int) (p : Nat) : Ob := .cells [.row 1 (B.map (ie .u8)), .lit (.int .i64 (p : Int))]
attribute [go_sem] rdC
theorem IsB.get {B : List Int} (h : IsB B) (i : Nat) : 0 ≤ B.getD i 0 ∧ B.getD i 0 ≤ 255 := by
 rw [List.getD_eq_getElem?_getD]
 cases hx : B[i]? with
 | none => simp
 | some x => exact h x (List.mem_of_getElem? hx)
end Go.Proofs.YtdohmppildfjhaaGreat

namespace Go.Proofs.YtdohmppildfjhaaGreat
open Go.Eng Go.Vx
set_option linter.unusedSimpArgs false
set_option linter.unusedVariables false
set_option maxRecDepth 100000

end Go.Proofs.YtdohmppildfjhaaGreat

namespace Go.Proofs.YtdohmppildfjhaaGreat
open Go.Eng Go.Vx
set_option linter.unusedSimpArgs false
set_option linter.unusedVariables false
set_option maxRecDepth 100000
end Go.Proofs.YtdohmppildfjhaaGreat

namespace Go.Proofs.YtdohmppildfjhaaGreat
open Go.Eng Go.Vx
set_option linter.unusedSimpArgs false
set_option linter.unusedVariables false
set_option maxRecDepth 100000
end Go.Proofs.YtdohmppildfjhaaGreat

namespace Go.Proofs.YtdohmppildfjhaaGreat
open Go.Eng Go.Vx
set_option linter.unusedSimpArgs false
set_option linter.unusedVariables false
set_option maxRecDepth 100000
end Go.Proofs.YtdohmppildfjhaaGreat

namespace Go.Proofs.YtdohmppildfjhaaGreat
open Go.Eng Go.Vx
set_option linter.unusedSimpArgs false
set_option linter.unusedVariables false
set_option maxRecDepth 100000
end Go.Proofs.YtdohmppildfjhaaGreat

namespace Go.Proofs.YtdohmppildfjhaaGreat
open Go.Eng Go.Vx
set_option linter.unusedSimpArgs false
set_option linter.unusedVariables false
set_option maxRecDepth 100000
theorem RS_small {z : Int} (h : z.natAbs < 18446744073709551616) : RS 1 (z : Rat) := RS_int (wg_one h) (by decide)
end Go.Proofs.YtdohmppildfjhaaGreat

namespace Go.Proofs.YtdohmppildfjhaaGreat
set_option linter.unusedVariables false
theorem hf_add (m n : Nat) : hf (m + n) = hf m * hf n := by
 induction n with
 | zero => rw [hf_zero, Nat.add_zero, Rat.mul_one]
 | succ n ih => rw [← Nat.add_assoc, hf_succ, ih, hf_succ, Rat.mul_assoc]
theorem hf_anti {m n : Nat} (h : m ≤ n) : hf n ≤ hf m := by
 induction h with
 | refl => exact Rat.le_refl
 | step _ ih =>
  rename_i k _
  have := hf_pos k
  rw [hf_succ]
  grind
theorem hf_8 (b : Nat) (h : 8 ≤ b) : hf (b - 8) = 256 * hf b := by
 have e := hf_add (b - 8) 8
 rw [Nat.sub_add_cancel h, show hf 8 = 1 / 256 by decide +kernel] at e
 rw [e]
 grind
theorem SerI.lt {x : Rat} {b n : Nat} {tl th sl sh : Rat} (h : SerI x b n tl th sl sh) (hb : 8 ≤ b) (hc : ¬ th ≤ hf (b - 8)) : n < b := by
 by_cases hn : n < b
 ·
  exact hn
 ·
  exfalso
  have h1 := h.t4
  have h2 := hf_anti (show b ≤ n by omega)
  have h3 := hf_pos b
  rw [hf_8 b hb] at hc
  grind
theorem nat_le {m n : Nat} (h : m ≤ n) : (((m : Nat) : Int) : Rat) ≤ (((n : Nat) : Int) : Rat) := Rat.intCast_le_intCast.2 (by omega)
structure SerE (x : Rat) (b : Nat) (L H : Rat) : Prop where
 lo : ∃ n0, ∀ N, n0 ≤ N → L ≤ Sx x N
 hi : ∀ N, Sx x N ≤ H
 one : 1 ≤ L
 le : L ≤ H
 wid : H ≤ L + 2048 * hf b
 top : H ≤ 7 / 4
theorem hf_200 {b : Nat} (h : 200 ≤ b) : 2048 * hf b ≤ 1 / 1000000 := by
 have h1 := hf_anti h
 have h2 : hf 200 ≤ 1 / 2048000000 := by decide +kernel
 grind
theorem SerI.done {x : Rat} {b n : Nat} {tl th sl sh : Rat} (h0 : 0 ≤ x) (h1 : x ≤ 1 / 2) (h : SerI x b n tl th sl sh) (hb : 200 ≤ b) (hb2 : b ≤ 300) (hn : n ≤ b) (hc : th ≤ hf (b - 8)) : SerE x b sl (sh + th) := by
 have hp := hf_pos b
 rw [hf_8 b (by omega)] at hc
 have hw : ((4 * n : Nat) : Int) * hf b ≤ (1200 : Rat) * hf b := by
  refine Rat.mul_le_mul_of_nonneg_right ?_ (Rat.le_of_lt hp)
  exact nat_le (show 4 * n ≤ 1200 by omega)
 have hs := hf_200 hb
 have hx := Sx_le h0 h1 n
 have ht := h.t0
 have ht1 := h.t1
 have ht2 := h.t2
 have h3 := h.s1
 have h4 := h.s2
 have h5 := h.s3
 refine ⟨⟨n, fun N hN => ?_⟩, fun N => ?_, h.s4, by grind, by grind, by grind⟩
 ·
  have := Sx_mono h0 hN
  grind
 ·
  by_cases hN : N ≤ n
  ·
   have := Sx_mono h0 hN
   grind
  ·
   have h6 := Sx_tail h0 h1 (show n ≤ N by omega)
   have h7 := tau_nonneg h0 N
   grind
def pw2 (a : Rat) : Nat → Rat
 | 0 => a
 | i + 1 => pw2 a i * pw2 a i
def cap : Nat → Rat
 | 0 => 7 / 4
 | 1 => 31 / 10
 | 2 => 10
 | 3 => 101
 | 4 => 10202
 | 5 => 104080900
 | 6 => 10833000000000000
 | _ => 162259276829213363391578010288128
structure PowE (y : Rat) (b i : Nat) (L H : Rat) : Prop where
 lo : ∃ n0, ∀ N, n0 ≤ N → L ≤ pw2 (Sx y N) i
 hi : ∀ N, pw2 (Sx y N) i ≤ H
 one : 1 ≤ L
 le : L ≤ H
 wid : H ≤ L * (1 + (((3 ^ i : Nat) : Int) : Rat) * (2048 * hf b))
 top : H ≤ cap i
theorem pw2_nonneg {a : Rat} (h : 0 ≤ a) : ∀ i, 0 ≤ pw2 a i := by
 intro i
 induction i with
 | zero => exact h
 | succ i ih => exact Rat.mul_nonneg ih ih
theorem dn_one (b : Nat) : dn 1 b = 1 := by
 unfold dn
 rw [Rat.one_mul]
 unfold tw
 rw [Rat.floor_intCast]
 have := hf_tw b
 unfold tw at this
 grind
theorem SerE.pow {x : Rat} {b : Nat} {L H : Rat} (h : SerE x b L H) (hb : 200 ≤ b) : PowE x b 0 L H := by
 refine ⟨h.lo, h.hi, h.one, h.le, ?_, h.top⟩
 have h1 := h.wid
 have h2 := h.one
 have h3 := hf_pos b
 have e : (((3 ^ 0 : Nat) : Int) : Rat) = 1 := rfl
 rw [e]
 have h4 := Rat.mul_le_mul_of_nonneg_right (c := 2048 * hf b) h2 (by grind)
 grind
theorem cap_le {i : Nat} (hi : i < 7) : cap i * cap i + 1 / 1000000 ≤ cap (i + 1) := by
 have h : i = 0 ∨ i = 1 ∨ i = 2 ∨ i = 3 ∨ i = 4 ∨ i = 5 ∨ i = 6 := by omega
 rcases h with rfl | rfl | rfl | rfl | rfl | rfl | rfl <;> decide +kernel
theorem Sx_pos {x : Rat} (h0 : 0 ≤ x) (N : Nat) : 0 ≤ Sx x N := by
 have := Sx_mono h0 (Nat.zero_le N)
 rw [show Sx x 0 = 1 from rfl] at this
 grind
theorem PowE.next {y : Rat} {b i : Nat} {L H : Rat} (h : PowE y b i L H) (h0 : 0 ≤ y) (hb : 200 ≤ b) (hi : i < 7) : PowE y b (i + 1) (dn (L * L) b) (up (H * H) b) := by
 have hp := hf_pos b
 have h2 := hf_200 hb
 have h1 := h.one
 have hle := h.le
 have d1 := dn_le (L * L) b
 have d2 := dn_gt (L * L) b
 have u1 := up_ge (H * H) b
 have u2 := up_lt (H * H) b
 have hL : 1 ≤ L * L := by
  have := mul_le_mul' h1 h1 (by grind) (by grind)
  grind
 have hLH : L * L ≤ H * H := mul_le_mul' hle hle (by grind) (by grind)
 have d3 := dn_mono hL b
 rw [dn_one] at d3
 refine ⟨?_, ?_, d3, by grind, ?_, ?_⟩
 ·
  obtain ⟨n0, hn⟩ := h.lo
  refine ⟨n0, fun N hN => ?_⟩
  have a := hn N hN
  have := mul_le_mul' a a (by grind) (by grind)
  rw [show pw2 (Sx y N) (i + 1) = pw2 (Sx y N) i * pw2 (Sx y N) i from rfl]
  grind
 ·
  intro N
  have a := h.hi N
  have c := pw2_nonneg (Sx_pos h0 N) i
  have := mul_le_mul' a a c (by grind)
  rw [show pw2 (Sx y N) (i + 1) = pw2 (Sx y N) i * pw2 (Sx y N) i from rfl]
  grind
 ·
  have hw := h.wid
  have hk1 : (1 : Rat) ≤ (((3 ^ i : Nat) : Int) : Rat) := nat_le (show 1 ≤ 3 ^ i from Nat.pow_pos (by decide))
  have hk2 : (((3 ^ i : Nat) : Int) : Rat) ≤ 1000 := nat_le (show 3 ^ i ≤ 1000 from Nat.le_trans (Nat.pow_le_pow_right (by decide) (show i ≤ 6 by omega)) (by decide))
  have hk3 : (((3 ^ (i + 1) : Nat) : Int) : Rat) = 3 * (((3 ^ i : Nat) : Int) : Rat) := by
   rw [Nat.pow_succ, Nat.mul_comm]
   simp
  rw [hk3]
  generalize (((3 ^ i : Nat) : Int) : Rat) = k at *
  generalize hq : k * (2048 * hf b) = r at *
  have hr0 : 2048 * hf b ≤ r := by
   have := Rat.mul_le_mul_of_nonneg_right (c := 2048 * hf b) hk1 (by grind)
   grind
  have hr1 : r ≤ 1 / 1000 := by
   have := Rat.mul_le_mul_of_nonneg_right (c := 2048 * hf b) hk2 (by grind)
   grind
  have e3 : 3 * k * (2048 * hf b) = 3 * r := by grind
  rw [e3]
  generalize hf b = e at *
  clear hq e3 hk1 hk2 hk3 h2
  have hHH : H * H ≤ (L * (1 + r)) * (L * (1 + r)) := mul_le_mul' hw hw (by grind) (by grind)
  have hrr : r * r ≤ (1 / 1000) * r := Rat.mul_le_mul_of_nonneg_right hr1 (by grind)
  have e4 : (L * (1 + r)) * (L * (1 + r)) = L * L + (2 * (L * L * r) + L * L * (r * r)) := by grind
  rw [e4] at hHH
  have hl1 : L * L * (r * r) ≤ L * L * ((1 / 1000) * r) := Rat.mul_le_mul_of_nonneg_left hrr (by grind)
  have hl2 : r ≤ L * L * r := by
   have := Rat.mul_le_mul_of_nonneg_right (c := r) hL (by grind)
   grind
  generalize L * L = A at *
  generalize H * H = B at *
  generalize dn A b = DA at *
  generalize up B b = UB at *
  have hl3 : A * ((1 / 1000) * r) = (1 / 1000) * (A * r) := by grind
  rw [hl3] at hl1
  have hd : (A - e) * (1 + 3 * r) ≤ DA * (1 + 3 * r) := Rat.mul_le_mul_of_nonneg_right (by grind) (by grind)
  have e5 : (A - e) * (1 + 3 * r) = A + 3 * (A * r) - e - 3 * (e * r) := by grind
  rw [e5] at hd
  have her : e * r ≤ e * (1 / 1000) := Rat.mul_le_mul_of_nonneg_left hr1 (by grind)
  generalize A * r = Ar at *
  generalize A * (r * r) = Arr at *
  generalize e * r = er at *
  grind
 ·
  have ht := h.top
  have hc := cap_le hi
  have := mul_le_mul' ht ht (by grind) (by grind)
  grind
end Go.Proofs.YtdohmppildfjhaaGreat

namespace Go.Proofs.YtdohmppildfjhaaGreat
open Go.Eng Go.Vx
set_option linter.unusedSimpArgs false
set_option linter.unusedVariables false
set_option maxRecDepth 100000
end Go.Proofs.YtdohmppildfjhaaGreat
