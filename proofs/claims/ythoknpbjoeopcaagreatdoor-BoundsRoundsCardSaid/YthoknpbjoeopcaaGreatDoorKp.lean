import Derived.Test.YthoknpbjoeopcaaGreatDoorZ2
/-! Package bounds: what is rounded (plain). -/
namespace Go.Proofs.YthoknpbjoeopcaaGreatDoor
set_option linter.unusedVariables false
def hf (b : Nat) : Rat := mkRat 1 (2 ^ b)
def tw (b : Nat) : Rat := (((2 ^ b : Nat) : Int) : Rat)
/-- Down. -/
def dn (x : Rat) (b : Nat) : Rat := ((x * tw b).floor : Rat) * hf b
def up (x : Rat) (b : Nat) : Rat := 0 - dn (0 - x) b
theorem tw_pos (b : Nat) : 0 < tw b := by
  unfold tw
  have : 0 < 2 ^ b := Nat.pow_pos (by decide)
  have h : ((0 : Int) : Rat) < (((2 ^ b : Nat) : Int) : Rat) := Rat.intCast_lt_intCast.2 (by omega)
  exact h
theorem hf_tw (b : Nat) : hf b * tw b = 1 := by
  unfold hf
  have h : mkRat 1 (2 ^ b) = 1 / tw b := by
    unfold tw
    rw [← Rat.divInt_ofNat, Rat.divInt_eq_div]
    rfl
  have := tw_pos b
  rw [h]
  grind
theorem hf_pos (b : Nat) : 0 < hf b := by
  have h1 := hf_tw b
  have h2 := tw_pos b
  by_cases h : 0 < hf b
  · exact h
  · have : hf b * tw b ≤ 0 := by
      have h3 : hf b ≤ 0 := by grind
      have := Rat.mul_le_mul_of_nonneg_right h3 (Rat.le_of_lt h2)
      grind
    grind
theorem dn_le (x : Rat) (b : Nat) : dn x b ≤ x := by
  have h1 := Rat.floor_le (x * tw b)
  have h2 := Rat.mul_le_mul_of_nonneg_right h1 (Rat.le_of_lt (hf_pos b))
  have h3 := hf_tw b
  unfold dn
  have : x * tw b * hf b = x := by grind
  grind
theorem dn_gt (x : Rat) (b : Nat) : x < dn x b + hf b := by
  have h1 := Rat.lt_floor_add_one (x * tw b)
  have h2 := Rat.mul_lt_mul_of_pos_right h1 (hf_pos b)
  have h3 := hf_tw b
  unfold dn
  have h4 : x * tw b * hf b = x := by grind
  rw [h4, Rat.intCast_add] at h2
  have : (((x * tw b).floor : Rat) + ((1 : Int) : Rat)) * hf b = (x * tw b).floor * hf b + hf b := by
    rw [show ((1 : Int) : Rat) = 1 from rfl]
    grind
  grind
theorem up_ge (x : Rat) (b : Nat) : x ≤ up x b := by
  have := dn_le (0 - x) b
  unfold up
  grind
theorem up_lt (x : Rat) (b : Nat) : up x b < x + hf b := by
  have := dn_gt (0 - x) b
  unfold up
  grind
theorem dn_nonneg {x : Rat} (h : 0 ≤ x) (b : Nat) : 0 ≤ dn x b := by
  have h1 : (0 : Int) ≤ (x * tw b).floor := Rat.le_floor_iff.2 (Rat.mul_nonneg h (Rat.le_of_lt (tw_pos b)))
  exact Rat.mul_nonneg (by exact_mod_cast h1) (Rat.le_of_lt (hf_pos b))
theorem dn_whole (x : Rat) (b : Nat) : dn x b / hf b = ((x * tw b).floor : Rat) := by
  have := hf_pos b
  unfold dn
  grind
theorem up_whole (x : Rat) (b : Nat) : up x b / hf b = ((-((0 - x) * tw b).floor : Int) : Rat) := by
  have := hf_pos b
  unfold up dn
  rw [Rat.intCast_neg]
  grind
theorem dn_mono {x y : Rat} (h : x ≤ y) (b : Nat) : dn x b ≤ dn y b := by
  have h1 := Rat.floor_monotone (Rat.mul_le_mul_of_nonneg_right h (Rat.le_of_lt (tw_pos b)))
  exact Rat.mul_le_mul_of_nonneg_right (by exact_mod_cast h1) (Rat.le_of_lt (hf_pos b))
theorem up_mono {x y : Rat} (h : x ≤ y) (b : Nat) : up x b ≤ up y b := by
  have := dn_mono (x := 0 - y) (y := 0 - x) (by grind) b
  unfold up
  grind
end Go.Proofs.YthoknpbjoeopcaaGreatDoor
