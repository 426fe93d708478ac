import Derived.Test.YtfemchdaoihogaaE7
/-! Two digits by two: one of the quotient (plain facts). -/
namespace Go.Proofs.Ytfemchdaoihogaa
open Go.Eng
set_option linter.unusedSimpArgs false
set_option linter.unusedVariables false
/-- A guess of a digit: q times the divisor's high part and r are what is divided. -/
theorem half_low {u d y1 y0 : Nat} (hd : d < 4294967296) (hy : 0 < y1) : (u * 4294967296 + d) / (y1 * 4294967296 + y0) ≤ u / y1 := by
  rw [Nat.le_div_iff_mul_le hy]
  have h := Nat.div_mul_le_self (u * 4294967296 + d) (y1 * 4294967296 + y0)
  generalize (u * 4294967296 + d) / (y1 * 4294967296 + y0) = Q at *
  rw [Nat.mul_add, ← Nat.mul_assoc] at h
  generalize Q * y1 = a at *
  generalize Q * y0 = b at *
  omega
theorem half_start {u y1 y0 : Nat} (hy1 : 2147483648 ≤ y1) (hy0 : y0 < 4294967296) (hu : u < y1 * 4294967296 + y0) : u / y1 ≤ 4294967297 := by
  have h := Nat.div_mul_le_self u y1
  refine Classical.byContradiction fun hn => ?_
  have h2 := Nat.mul_le_mul_right y1 (show 4294967298 ≤ u / y1 by omega)
  omega
theorem half_dec {u d y1 y0 q r : Nat} (hd : d < 4294967296) (hu : u < y1 * 4294967296 + y0) (hi : q * y1 + r = u) (hq : (u * 4294967296 + d) / (y1 * 4294967296 + y0) ≤ q) (hc : 4294967296 ≤ q ∨ 4294967296 * r + d < q * y0) :
    0 < q ∧ (u * 4294967296 + d) / (y1 * 4294967296 + y0) ≤ q - 1 ∧ (q - 1) * y1 + (r + y1) = u := by
  have hy : 0 < y1 * 4294967296 + y0 := by omega
  have hlt : (u * 4294967296 + d) / (y1 * 4294967296 + y0) < q := by
    rw [Nat.div_lt_iff_lt_mul hy]
    rcases hc with hc | hc
    · have h1 : 4294967296 * (y1 * 4294967296 + y0) ≤ q * (y1 * 4294967296 + y0) := Nat.mul_le_mul_right _ hc
      omega
    · rw [Nat.mul_add, ← Nat.mul_assoc]
      generalize q * y1 = a at *
      generalize q * y0 = b at *
      omega
  have hq0 : 0 < q := Nat.lt_of_le_of_lt (Nat.zero_le _) hlt
  obtain ⟨k, rfl⟩ : ∃ k, q = k + 1 := ⟨q - 1, by omega⟩
  rw [Nat.add_sub_cancel]
  rw [Nat.add_mul, Nat.one_mul] at hi
  exact ⟨hq0, Nat.le_of_lt_succ hlt, by omega⟩
theorem half_stop {u d y1 y0 q r : Nat} (hy : 0 < y1 * 4294967296 + y0) (hi : q * y1 + r = u) (hq : (u * 4294967296 + d) / (y1 * 4294967296 + y0) ≤ q) (hc : q * y0 ≤ 4294967296 * r + d) :
    q = (u * 4294967296 + d) / (y1 * 4294967296 + y0) := by
  refine Nat.le_antisymm ?_ hq
  rw [Nat.le_div_iff_mul_le hy, Nat.mul_add, ← Nat.mul_assoc]
  generalize q * y1 = a at *
  generalize q * y0 = b at *
  omega
theorem half_break {u d y1 y0 q r : Nat} (hy : 0 < y1 * 4294967296 + y0) (hy0 : y0 < 4294967296) (hi : q * y1 + r = u) (hq : (u * 4294967296 + d) / (y1 * 4294967296 + y0) ≤ q) (hq2 : q ≤ 4294967296) (hr : 4294967296 ≤ r) :
    q = (u * 4294967296 + d) / (y1 * 4294967296 + y0) := by
  refine half_stop hy hi hq ?_
  have := Nat.mul_le_mul hq2 (show y0 ≤ 4294967295 by omega)
  omega
/-- What both halves come to, of any base. -/
theorem halves {b N2 un1 un0 Y : Nat} (hY : 0 < Y) (hu : N2 < Y) (h1 : un1 < b) (h0 : un0 < b) :
    (N2 * b + un1) / Y * b + ((N2 * b + un1) % Y * b + un0) / Y = ((N2 * b + un1) * b + un0) / Y ∧
    ((N2 * b + un1) % Y * b + un0) % Y = ((N2 * b + un1) * b + un0) % Y ∧
    (N2 * b + un1) / Y < b ∧ ((N2 * b + un1) % Y * b + un0) / Y < b := by
  have key : ∀ x z : Nat, x < Y → z < b → (x * b + z) / Y < b := fun x z hx hz => by
    rw [Nat.div_lt_iff_lt_mul hY]
    have := Nat.mul_le_mul_right b (show x + 1 ≤ Y from hx)
    rw [Nat.add_mul, Nat.one_mul] at this
    rw [Nat.mul_comm b Y]
    omega
  have e1 := Nat.div_add_mod (N2 * b + un1) Y
  have l1 := Nat.mod_lt (N2 * b + un1) hY
  have q1 := key N2 un1 hu h1
  generalize hA : N2 * b + un1 = A at *
  generalize A / Y = Q1 at *
  generalize A % Y = R1 at *
  have e2 := Nat.div_add_mod (R1 * b + un0) Y
  have l2 := Nat.mod_lt (R1 * b + un0) hY
  have q2 := key R1 un0 l1 h0
  generalize hC : R1 * b + un0 = C at *
  generalize C / Y = Q0 at *
  generalize C % Y = R0 at *
  have hs : R0 + Y * (Q1 * b + Q0) = A * b + un0 := by
    rw [Nat.mul_add, ← Nat.mul_assoc, ← e1, Nat.add_mul]
    omega
  have hdm := (Nat.div_mod_unique hY (a := A * b + un0) (c := R0) (d := Q1 * b + Q0)).2 ⟨hs, l2⟩
  exact ⟨hdm.1.symm, hdm.2.symm, q1, q2⟩
/-- Shifted up, both alike. -/
theorem div_shift {a y s : Nat} (hy : 0 < y) : a * 2 ^ s / (y * 2 ^ s) = a / y ∧ a * 2 ^ s % (y * 2 ^ s) = a % y * 2 ^ s := by
  have hp : 0 < 2 ^ s := Nat.pow_pos (by decide)
  exact ⟨Nat.mul_div_mul_right _ _ hp, Nat.mul_mod_mul_right _ _ _⟩
/-- The number shifted up, in its words. -/
theorem shift_words {hi lo y s : Nat} (hs : s ≤ 63) (hlo : lo < 18446744073709551616) (hhi : hi < y) (hy : y * 2 ^ s < 18446744073709551616) :
    (hi * 2 ^ s + lo / 2 ^ (64 - s)) * 18446744073709551616 + lo * 2 ^ s % 18446744073709551616 = (hi * 18446744073709551616 + lo) * 2 ^ s ∧
    hi * 2 ^ s + lo / 2 ^ (64 - s) < y * 2 ^ s ∧ lo / 2 ^ (64 - s) < 2 ^ s := by
  have e : (18446744073709551616 : Nat) = 2 ^ (64 - s) * 2 ^ s := by rw [← Nat.pow_add, show 64 - s + s = 64 by omega]
  have hp : 0 < 2 ^ s := Nat.pow_pos (by decide)
  have hq : 0 < 2 ^ (64 - s) := Nat.pow_pos (by decide)
  have hmm : lo * 2 ^ s % 18446744073709551616 = lo % 2 ^ (64 - s) * 2 ^ s := by rw [e, Nat.mul_mod_mul_right]
  have hl : lo / 2 ^ (64 - s) < 2 ^ s := by rw [Nat.div_lt_iff_lt_mul hq, Nat.mul_comm, ← e]; exact hlo
  refine ⟨?_, ?_, hl⟩
  · rw [hmm]
    have h := Nat.div_add_mod lo (2 ^ (64 - s))
    generalize lo / 2 ^ (64 - s) = a at *
    generalize lo % 2 ^ (64 - s) = b at *
    rw [← h, Nat.add_mul, e]
    generalize 2 ^ s = S at *
    generalize 2 ^ (64 - s) = T at *
    simp only [Nat.add_mul, Nat.mul_add, Nat.mul_assoc, Nat.mul_comm, Nat.mul_left_comm, Nat.add_assoc, Nat.add_comm, Nat.add_left_comm]
  · have := Nat.mul_le_mul_right (2 ^ s) (show hi + 1 ≤ y from hhi)
    rw [Nat.add_mul, Nat.one_mul] at this
    omega
/-- How far up. -/
theorem norm_up {y : Nat} (h0 : 0 < y) (h : y < 18446744073709551616) : 64 - bl y ≤ 63 ∧ bl y ≤ 64 ∧ 9223372036854775808 ≤ y * 2 ^ (64 - bl y) ∧ y * 2 ^ (64 - bl y) < 18446744073709551616 := by
  have h1 := bl_le_of (n := y) (k := 64) (by omega)
  have h2 := bl_pos (n := y) (by omega)
  have h3 := bl_le (n := y) (by omega)
  have h4 := bl_lt y
  refine ⟨by omega, h1, ?_, ?_⟩
  · have := Nat.mul_le_mul_right (2 ^ (64 - bl y)) h3
    rw [← Nat.pow_add, show bl y - 1 + (64 - bl y) = 63 by omega] at this
    exact this
  · have := Nat.mul_lt_mul_of_pos_right h4 (show 0 < 2 ^ (64 - bl y) from Nat.pow_pos (by decide))
    rw [← Nat.pow_add, show bl y + (64 - bl y) = 64 by omega] at this
    exact this
end Go.Proofs.Ytfemchdaoihogaa
