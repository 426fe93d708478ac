import Derived.Test.YthbcfjlalmhabaaPa
/-! Bits read: plain facts. -/
namespace Go.Proofs.Ythbcfjlalmhabaa
open Go.Eng
set_option linter.unusedSimpArgs false
set_option linter.unusedVariables false

/-- A number's bits, the highest first. -/
def numBits (n : Nat) : Nat → List Bool
  | 0 => []
  | m + 1 => decide (n / 2 ^ m % 2 = 1) :: numBits n m
theorem numBits_len (n : Nat) : ∀ m, (numBits n m).length = m
  | 0 => rfl
  | m + 1 => by simp [numBits, numBits_len n m]
theorem numBits_get (n : Nat) : ∀ (m i : Nat) (h : i < m), (numBits n m)[i]'(by rw [numBits_len]; exact h) = decide (n / 2 ^ (m - 1 - i) % 2 = 1)
  | m + 1, 0, _ => by simp [numBits]
  | m + 1, i + 1, h => by
    simp only [numBits, List.getElem_cons_succ]
    rw [numBits_get n m i (by omega)]
    congr 5
    omega
theorem byteV_bit (L : List Bool) (i : Nat) : byteV L (i / 8) / 2 ^ (7 - i % 8) % 2 = bAt L i := by
  have hr : i % 8 < 8 := Nat.mod_lt _ (by omega)
  have hi : i = 8 * (i / 8) + i % 8 := (Nat.div_add_mod _ 8).symm
  generalize i / 8 = k at *
  generalize i % 8 = r at *
  subst hi
  unfold byteV
  have h := bAt_le L
  have h0 := h (8 * k); have h1 := h (8 * k + 1); have h2 := h (8 * k + 2); have h3 := h (8 * k + 3); have h4 := h (8 * k + 4); have h5 := h (8 * k + 5); have h6 := h (8 * k + 6); have h7 := h (8 * k + 7)
  rcases (by omega : r = 0 ∨ r = 1 ∨ r = 2 ∨ r = 3 ∨ r = 4 ∨ r = 5 ∨ r = 6 ∨ r = 7) with rfl | rfl | rfl | rfl | rfl | rfl | rfl | rfl <;> simp only [Nat.reduceSub, Nat.reducePow, Nat.add_zero] <;> omega
/-- The number that bits are, the highest first. -/
def numOf (l : List Bool) : Nat := l.foldl (fun n b => 2 * n + b.toNat) 0
theorem numOf_nil : numOf [] = 0 := rfl
theorem numOf_snoc (l : List Bool) (b : Bool) : numOf (l ++ [b]) = 2 * numOf l + b.toNat := by simp [numOf]
theorem numOf_lt (l : List Bool) : numOf l < 2 ^ l.length := by
  have aux : ∀ (l : List Bool) (n : Nat), l.foldl (fun n b => 2 * n + b.toNat) n < (n + 1) * 2 ^ l.length := by
    intro l
    induction l with
    | nil => intro n; simp
    | cons b l ih =>
      intro n
      have hb : b.toNat ≤ 1 := by cases b <;> simp
      have := ih (2 * n + b.toNat)
      simp only [List.foldl_cons, List.length_cons]
      refine Nat.lt_of_lt_of_le this ?_
      rw [Nat.pow_succ, Nat.mul_comm (2 ^ l.length) 2, ← Nat.mul_assoc]
      exact Nat.mul_le_mul_right _ (by omega)
  simpa [numOf] using aux l 0
/-- Bytes, bit by bit. -/
def bitB (B : List Int) (p : Nat) : Bool := decide (B.getD (p / 8) 0 / 2 ^ (7 - p % 8) % 2 = 1)
def bitsOf (B : List Int) : List Bool := (List.range (8 * B.length)).map (bitB B)
theorem bitsOf_len (B : List Int) : (bitsOf B).length = 8 * B.length := by simp [bitsOf]
theorem bitsOf_get (B : List Int) (p : Nat) (h : p < 8 * B.length) : (bitsOf B).getD p false = bitB B p := by
  unfold bitsOf
  rw [List.getD_eq_getElem?_getD, List.getElem?_map, List.getElem?_range h]
  rfl
theorem bit_or (n : Nat) (b : Bool) (h : n < 9223372036854775808) : bitK .or .u64 (IntKind.u64.wrap ((n : Int) * 2)) (b.toNat : Int) = ((2 * n + b.toNat : Nat) : Int) := by
  have hw : IntKind.u64.wrap ((n : Int) * 2) = ((2 * n : Nat) : Int) := by rw [wrap_u64 (by omega)]; omega
  rw [hw]
  show IntKind.u64.wrap ((BitVec.ofInt 64 ((2 * n : Nat) : Int) ||| BitVec.ofInt 64 (b.toNat : Int)).toNat : Int) = _
  have h1 : (BitVec.ofInt 64 ((2 * n : Nat) : Int) ||| BitVec.ofInt 64 (b.toNat : Int)).toNat = 2 * n + b.toNat := by
    rw [BitVec.toNat_or, BitVec.ofInt_natCast, BitVec.ofInt_natCast, BitVec.toNat_ofNat, BitVec.toNat_ofNat, Nat.mod_eq_of_lt (by omega), Nat.mod_eq_of_lt (by cases b <;> decide)]
    cases b with
    | false => simp
    | true => exact (Nat.two_pow_add_eq_or_of_lt (i := 1) (b := 1) (by decide) n).symm
  rw [h1, wrap_u64 (by have : b.toNat ≤ 1 := by cases b <;> simp
                       omega)]
theorem bit_or' (n : Nat) (b : Bool) (h : n < 9223372036854775808) : bitK .or .u64 ((n : Int) * 2) (b.toNat : Int) = ((2 * n + b.toNat : Nat) : Int) := by
  rw [← bit_or n b h, wrap_u64 (by omega)]
theorem take_snoc {l : List Bool} {a w : Nat} (h : a + w < l.length) : (l.drop a).take (w + 1) = (l.drop a).take w ++ [l.getD (a + w) false] := by
  rw [List.take_succ_eq_append_getElem (by simp; omega), List.getElem_drop, List.getD_eq_getElem?_getD, List.getElem?_eq_getElem h]
  rfl
theorem bit01 (x : Int) (b : Bool) (h : b = decide (x % 2 = 1)) : x % 2 = (b.toNat : Int) := by
  subst h
  by_cases h : x % 2 = 1
  · simp [h]
  · simp [h]; omega
theorem numOf_app (x y : List Bool) : numOf (x ++ y) = numOf x * 2 ^ y.length + numOf y := by
  have aux : ∀ (l : List Bool) (n : Nat), l.foldl (fun n b => 2 * n + b.toNat) n = n * 2 ^ l.length + l.foldl (fun n b => 2 * n + b.toNat) 0 := by
    intro l
    induction l with
    | nil => intro n; simp
    | cons b l ih =>
      intro n
      simp only [List.foldl_cons, List.length_cons]
      rw [ih (2 * n + b.toNat), ih (2 * 0 + b.toNat), Nat.pow_succ, Nat.add_mul, Nat.mul_zero, Nat.zero_add]
      rw [Nat.mul_comm (2 ^ l.length) 2, ← Nat.mul_assoc, Nat.mul_comm n 2]
      omega
  unfold numOf
  rw [List.foldl_append, aux]
theorem or_app (x y : List Bool) (h : x.length + y.length ≤ 64) : bitK .or .u64 (IntKind.u64.wrap ((numOf x : Int) * 2 ^ y.length)) (numOf y : Int) = (numOf (x ++ y) : Int) := by
  have hx := numOf_lt x
  have hy := numOf_lt y
  have h1 : numOf x * 2 ^ y.length < 18446744073709551616 := by
    have h2 : numOf x * 2 ^ y.length < 2 ^ x.length * 2 ^ y.length := Nat.mul_lt_mul_of_pos_right hx (Nat.two_pow_pos _)
    rw [← Nat.pow_add] at h2
    exact Nat.lt_of_lt_of_le h2 (Nat.pow_le_pow_right (n := 2) (by decide) h)
  have h3 : numOf y < 18446744073709551616 := Nat.lt_of_lt_of_le hy (Nat.pow_le_pow_right (n := 2) (by decide) (show y.length ≤ 64 by omega))
  have e : ((numOf x : Int) * 2 ^ y.length) = ((numOf x * 2 ^ y.length : Nat) : Int) := by simp
  rw [e, wrap_u64 (by omega), or_u64 h1 h3, numOf_app]
  congr 1
  rw [Nat.mul_comm (numOf x)]
  exact (Nat.two_pow_add_eq_or_of_lt hy (numOf x)).symm
/-- What is read of bits, from a place on: the number, the place behind, the error. -/
def rX (L : List Bool) (p : Nat) (w : Int) : Nat × Nat × Int :=
  if 0 ≤ w ∧ w ≤ 64 then (if p + w.toNat ≤ L.length then (numOf ((L.drop p).take w.toNat), p + w.toNat, 0) else (0, p, 5)) else (0, p, 2)
theorem rX_le {L : List Bool} {p : Nat} {w : Int} (h : p ≤ L.length) : (rX L p w).2.1 ≤ L.length := by
  unfold rX; split
  · split
    · assumption
    · exact h
  · exact h
/-- Is nothing left? -/
def closeX (L : List Bool) (p : Nat) : Int := if 8 ≤ L.length - p then 4 else if (L.drop p).any id = true then 4 else 0
theorem any_of_get {L : List Bool} {p i : Nat} (h : p + i < L.length) (hb : L.getD (p + i) false = true) : (L.drop p).any id = true := by
  rw [List.any_eq_true]
  refine ⟨true, List.mem_iff_getElem.2 ⟨i, by simp; omega, ?_⟩, rfl⟩
  rw [List.getElem_drop]
  rw [List.getD_eq_getElem?_getD, List.getElem?_eq_getElem h] at hb
  exact hb
theorem any_snoc {L : List Bool} {p i : Nat} (h : p + i < L.length) (hb : L.getD (p + i) false = false) (ha : ((L.drop p).take i).any id = false) : ((L.drop p).take (i + 1)).any id = false := by
  rw [take_snoc h, List.any_append, ha, hb]; rfl
theorem take_bits (B : List Int) (p : Nat) (h : p < 8 * B.length) : (bitsOf B).take (p + 1) = (bitsOf B).take p ++ [bitB B p] := by
  rw [List.take_succ_eq_append_getElem (by rw [bitsOf_len]; exact h)]
  congr 2
  rw [← bitsOf_get B p h, List.getD_eq_getElem?_getD, List.getElem?_eq_getElem (by rw [bitsOf_len]; exact h)]
  rfl
end Go.Proofs.Ythbcfjlalmhabaa
