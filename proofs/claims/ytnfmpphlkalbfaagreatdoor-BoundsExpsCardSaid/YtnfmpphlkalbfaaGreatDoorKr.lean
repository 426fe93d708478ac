import Derived.Test.YtnfmpphlkalbfaaGreatDoorKp
/-! Package bounds: series of e to the x, and squares (plain). -/
namespace Go.Proofs.YtnfmpphlkalbfaaGreatDoor
set_option linter.unusedVariables false
theorem hf_add (m n : Nat) : hf (m + n) = hf m * hf n := by
  induction n with
  | zero => rw [hf_zero, Nat.add_zero, Rat.mul_one]
  | succ n ih => rw [← Nat.add_assoc, hf_succ, ih, hf_succ, Rat.mul_assoc]
theorem hf_anti {m n : Nat} (h : m ≤ n) : hf n ≤ hf m := by
  induction h with
  | refl => exact Rat.le_refl
  | step _ ih =>
    rename_i k _
    have := hf_pos k
    rw [hf_succ]
    grind
theorem hf_8 (b : Nat) (h : 8 ≤ b) : hf (b - 8) = 256 * hf b := by
  have e := hf_add (b - 8) 8
  rw [Nat.sub_add_cancel h, show hf 8 = 1 / 256 by decide +kernel] at e
  rw [e]
  grind
theorem SerI.lt {x : Rat} {b n : Nat} {tl th sl sh : Rat} (h : SerI x b n tl th sl sh) (hb : 8 ≤ b) (hc : ¬ th ≤ hf (b - 8)) : n < b := by
  by_cases hn : n < b
  · exact hn
  · exfalso
    have h1 := h.t4
    have h2 := hf_anti (show b ≤ n by omega)
    have h3 := hf_pos b
    rw [hf_8 b hb] at hc
    grind
theorem nat_le {m n : Nat} (h : m ≤ n) : (((m : Nat) : Int) : Rat) ≤ (((n : Nat) : Int) : Rat) := Rat.intCast_le_intCast.2 (by omega)
/-- What a series comes to. -/
structure SerE (x : Rat) (b : Nat) (L H : Rat) : Prop where
  lo : ∃ n0, ∀ N, n0 ≤ N → L ≤ Sx x N
  hi : ∀ N, Sx x N ≤ H
  one : 1 ≤ L
  le : L ≤ H
  wid : H ≤ L + 2048 * hf b
  top : H ≤ 7 / 4
theorem hf_200 {b : Nat} (h : 200 ≤ b) : 2048 * hf b ≤ 1 / 1000000 := by
  have h1 := hf_anti h
  have h2 : hf 200 ≤ 1 / 2048000000 := by decide +kernel
  grind
theorem SerI.done {x : Rat} {b n : Nat} {tl th sl sh : Rat} (h0 : 0 ≤ x) (h1 : x ≤ 1 / 2) (h : SerI x b n tl th sl sh) (hb : 200 ≤ b) (hb2 : b ≤ 300) (hn : n ≤ b) (hc : th ≤ hf (b - 8)) : SerE x b sl (sh + th) := by
  have hp := hf_pos b
  rw [hf_8 b (by omega)] at hc
  have hw : ((4 * n : Nat) : Int) * hf b ≤ (1200 : Rat) * hf b := by
    refine Rat.mul_le_mul_of_nonneg_right ?_ (Rat.le_of_lt hp)
    exact nat_le (show 4 * n ≤ 1200 by omega)
  have hs := hf_200 hb
  have hx := Sx_le h0 h1 n
  have ht := h.t0
  have ht1 := h.t1
  have ht2 := h.t2
  have h3 := h.s1
  have h4 := h.s2
  have h5 := h.s3
  refine ⟨⟨n, fun N hN => ?_⟩, fun N => ?_, h.s4, by grind, by grind, by grind⟩
  · have := Sx_mono h0 hN
    grind
  · by_cases hN : N ≤ n
    · have := Sx_mono h0 hN
      grind
    · have h6 := Sx_tail h0 h1 (show n ≤ N by omega)
      have h7 := tau_nonneg h0 N
      grind
def pw2 (a : Rat) : Nat → Rat
  | 0 => a
  | i + 1 => pw2 a i * pw2 a i
def cap : Nat → Rat
  | 0 => 7 / 4
  | 1 => 31 / 10
  | 2 => 10
  | 3 => 101
  | 4 => 10202
  | 5 => 104080900
  | 6 => 10833000000000000
  | _ => 162259276829213363391578010288128
/-- What is squared some times. -/
structure PowE (y : Rat) (b i : Nat) (L H : Rat) : Prop where
  lo : ∃ n0, ∀ N, n0 ≤ N → L ≤ pw2 (Sx y N) i
  hi : ∀ N, pw2 (Sx y N) i ≤ H
  one : 1 ≤ L
  le : L ≤ H
  wid : H ≤ L * (1 + (((3 ^ i : Nat) : Int) : Rat) * (2048 * hf b))
  top : H ≤ cap i
theorem pw2_nonneg {a : Rat} (h : 0 ≤ a) : ∀ i, 0 ≤ pw2 a i := by
  intro i
  induction i with
  | zero => exact h
  | succ i ih => exact Rat.mul_nonneg ih ih
theorem dn_one (b : Nat) : dn 1 b = 1 := by
  unfold dn
  rw [Rat.one_mul]
  unfold tw
  rw [Rat.floor_intCast]
  have := hf_tw b
  unfold tw at this
  grind
theorem SerE.pow {x : Rat} {b : Nat} {L H : Rat} (h : SerE x b L H) (hb : 200 ≤ b) : PowE x b 0 L H := by
  refine ⟨h.lo, h.hi, h.one, h.le, ?_, h.top⟩
  have h1 := h.wid
  have h2 := h.one
  have h3 := hf_pos b
  have e : (((3 ^ 0 : Nat) : Int) : Rat) = 1 := rfl
  rw [e]
  have h4 := Rat.mul_le_mul_of_nonneg_right (c := 2048 * hf b) h2 (by grind)
  grind
theorem cap_le {i : Nat} (hi : i < 7) : cap i * cap i + 1 / 1000000 ≤ cap (i + 1) := by
  have h : i = 0 ∨ i = 1 ∨ i = 2 ∨ i = 3 ∨ i = 4 ∨ i = 5 ∨ i = 6 := by omega
  rcases h with rfl | rfl | rfl | rfl | rfl | rfl | rfl <;> decide +kernel
theorem Sx_pos {x : Rat} (h0 : 0 ≤ x) (N : Nat) : 0 ≤ Sx x N := by
  have := Sx_mono h0 (Nat.zero_le N)
  rw [show Sx x 0 = 1 from rfl] at this
  grind
theorem PowE.next {y : Rat} {b i : Nat} {L H : Rat} (h : PowE y b i L H) (h0 : 0 ≤ y) (hb : 200 ≤ b) (hi : i < 7) : PowE y b (i + 1) (dn (L * L) b) (up (H * H) b) := by
  have hp := hf_pos b
  have h2 := hf_200 hb
  have h1 := h.one
  have hle := h.le
  have d1 := dn_le (L * L) b
  have d2 := dn_gt (L * L) b
  have u1 := up_ge (H * H) b
  have u2 := up_lt (H * H) b
  have hL : 1 ≤ L * L := by
    have := mul_le_mul' h1 h1 (by grind) (by grind)
    grind
  have hLH : L * L ≤ H * H := mul_le_mul' hle hle (by grind) (by grind)
  have d3 := dn_mono hL b
  rw [dn_one] at d3
  refine ⟨?_, ?_, d3, by grind, ?_, ?_⟩
  · obtain ⟨n0, hn⟩ := h.lo
    refine ⟨n0, fun N hN => ?_⟩
    have a := hn N hN
    have := mul_le_mul' a a (by grind) (by grind)
    rw [show pw2 (Sx y N) (i + 1) = pw2 (Sx y N) i * pw2 (Sx y N) i from rfl]
    grind
  · intro N
    have a := h.hi N
    have c := pw2_nonneg (Sx_pos h0 N) i
    have := mul_le_mul' a a c (by grind)
    rw [show pw2 (Sx y N) (i + 1) = pw2 (Sx y N) i * pw2 (Sx y N) i from rfl]
    grind
  · have hw := h.wid
    have hk1 : (1 : Rat) ≤ (((3 ^ i : Nat) : Int) : Rat) := nat_le (show 1 ≤ 3 ^ i from Nat.pow_pos (by decide))
    have hk2 : (((3 ^ i : Nat) : Int) : Rat) ≤ 1000 := nat_le (show 3 ^ i ≤ 1000 from Nat.le_trans (Nat.pow_le_pow_right (by decide) (show i ≤ 6 by omega)) (by decide))
    have hk3 : (((3 ^ (i + 1) : Nat) : Int) : Rat) = 3 * (((3 ^ i : Nat) : Int) : Rat) := by
      rw [Nat.pow_succ, Nat.mul_comm]
      simp
    rw [hk3]
    generalize (((3 ^ i : Nat) : Int) : Rat) = k at *
    generalize hq : k * (2048 * hf b) = r at *
    have hr0 : 2048 * hf b ≤ r := by
      have := Rat.mul_le_mul_of_nonneg_right (c := 2048 * hf b) hk1 (by grind)
      grind
    have hr1 : r ≤ 1 / 1000 := by
      have := Rat.mul_le_mul_of_nonneg_right (c := 2048 * hf b) hk2 (by grind)
      grind
    have e3 : 3 * k * (2048 * hf b) = 3 * r := by grind
    rw [e3]
    generalize hf b = e at *
    clear hq e3 hk1 hk2 hk3 h2
    have hHH : H * H ≤ (L * (1 + r)) * (L * (1 + r)) := mul_le_mul' hw hw (by grind) (by grind)
    have hrr : r * r ≤ (1 / 1000) * r := Rat.mul_le_mul_of_nonneg_right hr1 (by grind)
    have e4 : (L * (1 + r)) * (L * (1 + r)) = L * L + (2 * (L * L * r) + L * L * (r * r)) := by grind
    rw [e4] at hHH
    have hl1 : L * L * (r * r) ≤ L * L * ((1 / 1000) * r) := Rat.mul_le_mul_of_nonneg_left hrr (by grind)
    have hl2 : r ≤ L * L * r := by
      have := Rat.mul_le_mul_of_nonneg_right (c := r) hL (by grind)
      grind
    generalize L * L = A at *
    generalize H * H = B at *
    generalize dn A b = DA at *
    generalize up B b = UB at *
    have hl3 : A * ((1 / 1000) * r) = (1 / 1000) * (A * r) := by grind
    rw [hl3] at hl1
    have hd : (A - e) * (1 + 3 * r) ≤ DA * (1 + 3 * r) := Rat.mul_le_mul_of_nonneg_right (by grind) (by grind)
    have e5 : (A - e) * (1 + 3 * r) = A + 3 * (A * r) - e - 3 * (e * r) := by grind
    rw [e5] at hd
    have her : e * r ≤ e * (1 / 1000) := Rat.mul_le_mul_of_nonneg_left hr1 (by grind)
    generalize A * r = Ar at *
    generalize A * (r * r) = Arr at *
    generalize e * r = er at *
    grind
  · have ht := h.top
    have hc := cap_le hi
    have := mul_le_mul' ht ht (by grind) (by grind)
    grind
end Go.Proofs.YtnfmpphlkalbfaaGreatDoor
