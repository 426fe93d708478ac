import Derived.Test.YteookgjmohokiaaGreatE6
/-! Bits in bytes: plain facts. -/
namespace Go.Proofs.YteookgjmohokiaaGreat
open Go.Eng
set_option linter.unusedSimpArgs false
set_option linter.unusedVariables false

/-! ### bits in bytes -/
def bAt (L : List Bool) (i : Nat) : Nat := (L.getD i false).toNat
theorem bAt_le (L : List Bool) (i : Nat) : bAt L i ≤ 1 := by unfold bAt; cases L.getD i false <;> simp
theorem bAt_out {L : List Bool} {i : Nat} (h : L.length ≤ i) : bAt L i = 0 := by
  unfold bAt; rw [List.getD_eq_getElem?_getD, List.getElem?_eq_none h]; rfl
theorem bAt_snoc_lt {L : List Bool} {i : Nat} (x : Bool) (h : i < L.length) : bAt (L ++ [x]) i = bAt L i := by
  unfold bAt; rw [List.getD_eq_getElem?_getD, List.getElem?_append_left h, ← List.getD_eq_getElem?_getD]
theorem bAt_snoc_eq (L : List Bool) (x : Bool) : bAt (L ++ [x]) L.length = x.toNat := by
  unfold bAt; simp
def byteV (L : List Bool) (k : Nat) : Nat :=
  bAt L (8 * k) * 128 + bAt L (8 * k + 1) * 64 + bAt L (8 * k + 2) * 32 + bAt L (8 * k + 3) * 16 + bAt L (8 * k + 4) * 8 + bAt L (8 * k + 5) * 4 + bAt L (8 * k + 6) * 2 + bAt L (8 * k + 7)
theorem byteV_lt (L : List Bool) (k : Nat) : byteV L k < 256 := by
  unfold byteV
  have h := bAt_le L
  have h0 := h (8 * k); have h1 := h (8 * k + 1); have h2 := h (8 * k + 2); have h3 := h (8 * k + 3); have h4 := h (8 * k + 4); have h5 := h (8 * k + 5); have h6 := h (8 * k + 6); have h7 := h (8 * k + 7)
  omega
theorem byteV_snoc_lt {L : List Bool} {k : Nat} (x : Bool) (h : k < L.length / 8) : byteV (L ++ [x]) k = byteV L k := by
  unfold byteV
  rw [bAt_snoc_lt x (by omega), bAt_snoc_lt x (by omega), bAt_snoc_lt x (by omega), bAt_snoc_lt x (by omega), bAt_snoc_lt x (by omega), bAt_snoc_lt x (by omega), bAt_snoc_lt x (by omega), bAt_snoc_lt x (by omega)]
theorem byteV_snoc (L : List Bool) (x : Bool) : byteV (L ++ [x]) (L.length / 8) = byteV L (L.length / 8) + x.toNat * 2 ^ (7 - L.length % 8) ∧ byteV L (L.length / 8) % 2 ^ (8 - L.length % 8) = 0 := by
  have hs : ∀ i, bAt (L ++ [x]) i = if i < L.length then bAt L i else if i = L.length then x.toNat else 0 := fun i => by
    by_cases h : i < L.length
    · rw [if_pos h, bAt_snoc_lt x h]
    · rw [if_neg h]
      by_cases h' : i = L.length
      · rw [if_pos h', h', bAt_snoc_eq]
      · rw [if_neg h', bAt_out (by simp; omega)]
  have ho : ∀ i, L.length ≤ i → bAt L i = 0 := fun i h => bAt_out h
  have hn : L.length = 8 * (L.length / 8) + L.length % 8 := (Nat.div_add_mod _ 8).symm
  have hx : x.toNat ≤ 1 := by cases x <;> simp
  unfold byteV
  simp only [hs]
  generalize L.length / 8 = k at *
  have hr : L.length % 8 < 8 := Nat.mod_lt _ (by omega)
  generalize L.length % 8 = r at *
  rw [hn] at ho ⊢
  have h := bAt_le L
  have h0 := h (8 * k); have h1 := h (8 * k + 1); have h2 := h (8 * k + 2); have h3 := h (8 * k + 3); have h4 := h (8 * k + 4); have h5 := h (8 * k + 5); have h6 := h (8 * k + 6); have h7 := h (8 * k + 7)
  have o0 := ho (8 * k); have o1 := ho (8 * k + 1); have o2 := ho (8 * k + 2); have o3 := ho (8 * k + 3); have o4 := ho (8 * k + 4); have o5 := ho (8 * k + 5); have o6 := ho (8 * k + 6); have o7 := ho (8 * k + 7)
  generalize bAt L (8 * k) = a0 at *
  generalize bAt L (8 * k + 1) = a1 at *
  generalize bAt L (8 * k + 2) = a2 at *
  generalize bAt L (8 * k + 3) = a3 at *
  generalize bAt L (8 * k + 4) = a4 at *
  generalize bAt L (8 * k + 5) = a5 at *
  generalize bAt L (8 * k + 6) = a6 at *
  generalize bAt L (8 * k + 7) = a7 at *
  generalize x.toNat = q at *
  clear hs ho h hn
  rcases (by omega : r = 0 ∨ r = 1 ∨ r = 2 ∨ r = 3 ∨ r = 4 ∨ r = 5 ∨ r = 6 ∨ r = 7) with rfl | rfl | rfl | rfl | rfl | rfl | rfl | rfl <;> simp (disch := omega) only [if_pos, if_neg, ↓reduceIte] <;> constructor <;> simp only [Nat.reducePow, Nat.reduceSub, ↓reduceIte] <;> omega
theorem or_bit : ∀ r : Fin 8, ∀ y : Fin 256, y.val % 2 ^ (8 - r.val) = 0 → y.val ||| 2 ^ (7 - r.val) = y.val + 2 ^ (7 - r.val) := by decide +kernel


/-- The bytes that bits are packed in. -/
def pkTo (L : List Bool) (m : Nat) : List Int := (List.range m).map fun k => (byteV L k : Int)
def pk (L : List Bool) : List Int := pkTo L ((L.length + 7) / 8)
theorem pkTo_len (L : List Bool) (m : Nat) : (pkTo L m).length = m := by simp [pkTo]
theorem pk_len (L : List Bool) : (pk L).length = (L.length + 7) / 8 := pkTo_len _ _
theorem pkTo_get (L : List Bool) (m i : Nat) (h : i < m) : (pkTo L m).getD i 0 = byteV L i := by
  unfold pkTo
  rw [List.getD_eq_getElem?_getD, List.getElem?_map, List.getElem?_range h]
  rfl
theorem pkTo_set (L : List Bool) (x : Bool) : pkTo (L ++ [x]) (L.length / 8 + 1) = (pkTo L (L.length / 8 + 1)).set (L.length / 8) ((byteV L (L.length / 8) : Int) + (x.toNat * 2 ^ (7 - L.length % 8) : Nat)) := by
  unfold pkTo
  apply List.ext_getElem
  · simp
  · intro i h1 h2
    simp only [List.getElem_set, List.getElem_map, List.getElem_range]
    simp at h1
    by_cases h : L.length / 8 = i
    · subst h
      rw [if_pos rfl, (byteV_snoc L x).1]
      simp
    · rw [if_neg h, byteV_snoc_lt x (by omega)]
theorem pk_snoc (L : List Bool) (x : Bool) : pk (L ++ [x]) = pkTo (L ++ [x]) (L.length / 8 + 1) := by
  unfold pk
  congr 1
  simp
  omega
theorem pkTo_false (L : List Bool) (m : Nat) : pkTo (L ++ [false]) m = pkTo L m := by
  have h : ∀ i, bAt (L ++ [false]) i = bAt L i := fun i => by
    by_cases h : i < L.length
    · exact bAt_snoc_lt _ h
    · rw [bAt_out (L := L) (by omega)]
      by_cases h' : i = L.length
      · subst h'; rw [bAt_snoc_eq]; rfl
      · exact bAt_out (by simp; omega)
  unfold pkTo byteV
  simp only [h]
/-- With a byte more, where they are full. -/
theorem pkTo_next (L : List Bool) : pkTo L (L.length / 8 + 1) = if L.length % 8 = 0 then pk L ++ [0] else pk L := by
  unfold pk
  by_cases h : L.length % 8 = 0
  · rw [if_pos h, show (L.length + 7) / 8 = L.length / 8 by omega]
    unfold pkTo
    rw [List.range_succ, List.map_append]
    have h2 := (byteV_snoc L false).2
    rw [h, Nat.sub_zero] at h2
    have := byteV_lt L (L.length / 8)
    rw [show (2 : Nat) ^ 8 = 256 from rfl] at h2
    simp [show byteV L (L.length / 8) = 0 by omega]
  · rw [if_neg h, show (L.length + 7) / 8 = L.length / 8 + 1 by omega]
end Go.Proofs.YteookgjmohokiaaGreat

/-! Bits read: plain facts. -/
namespace Go.Proofs.YteookgjmohokiaaGreat
open Go.Eng
set_option linter.unusedSimpArgs false
set_option linter.unusedVariables false

/-- A number's bits, the highest first. -/
def numBits (n : Nat) : Nat → List Bool
  | 0 => []
  | m + 1 => decide (n / 2 ^ m % 2 = 1) :: numBits n m
theorem numBits_len (n : Nat) : ∀ m, (numBits n m).length = m
  | 0 => rfl
  | m + 1 => by simp [numBits, numBits_len n m]
theorem numBits_get (n : Nat) : ∀ (m i : Nat) (h : i < m), (numBits n m)[i]'(by rw [numBits_len]; exact h) = decide (n / 2 ^ (m - 1 - i) % 2 = 1)
  | m + 1, 0, _ => by simp [numBits]
  | m + 1, i + 1, h => by
    simp only [numBits, List.getElem_cons_succ]
    rw [numBits_get n m i (by omega)]
    congr 5
    omega
theorem byteV_bit (L : List Bool) (i : Nat) : byteV L (i / 8) / 2 ^ (7 - i % 8) % 2 = bAt L i := by
  have hr : i % 8 < 8 := Nat.mod_lt _ (by omega)
  have hi : i = 8 * (i / 8) + i % 8 := (Nat.div_add_mod _ 8).symm
  generalize i / 8 = k at *
  generalize i % 8 = r at *
  subst hi
  unfold byteV
  have h := bAt_le L
  have h0 := h (8 * k); have h1 := h (8 * k + 1); have h2 := h (8 * k + 2); have h3 := h (8 * k + 3); have h4 := h (8 * k + 4); have h5 := h (8 * k + 5); have h6 := h (8 * k + 6); have h7 := h (8 * k + 7)
  rcases (by omega : r = 0 ∨ r = 1 ∨ r = 2 ∨ r = 3 ∨ r = 4 ∨ r = 5 ∨ r = 6 ∨ r = 7) with rfl | rfl | rfl | rfl | rfl | rfl | rfl | rfl <;> simp only [Nat.reduceSub, Nat.reducePow, Nat.add_zero] <;> omega
/-- The number that bits are, the highest first. -/
def numOf (l : List Bool) : Nat := l.foldl (fun n b => 2 * n + b.toNat) 0
theorem numOf_snoc (l : List Bool) (b : Bool) : numOf (l ++ [b]) = 2 * numOf l + b.toNat := by simp [numOf]
theorem numOf_lt (l : List Bool) : numOf l < 2 ^ l.length := by
  have aux : ∀ (l : List Bool) (n : Nat), l.foldl (fun n b => 2 * n + b.toNat) n < (n + 1) * 2 ^ l.length := by
    intro l
    induction l with
    | nil => intro n; simp
    | cons b l ih =>
      intro n
      have hb : b.toNat ≤ 1 := by cases b <;> simp
      have := ih (2 * n + b.toNat)
      simp only [List.foldl_cons, List.length_cons]
      refine Nat.lt_of_lt_of_le this ?_
      rw [Nat.pow_succ, Nat.mul_comm (2 ^ l.length) 2, ← Nat.mul_assoc]
      exact Nat.mul_le_mul_right _ (by omega)
  simpa [numOf] using aux l 0
/-- Bytes, bit by bit. -/
def bitB (B : List Int) (p : Nat) : Bool := decide (B.getD (p / 8) 0 / 2 ^ (7 - p % 8) % 2 = 1)
def bitsOf (B : List Int) : List Bool := (List.range (8 * B.length)).map (bitB B)
theorem bitsOf_len (B : List Int) : (bitsOf B).length = 8 * B.length := by simp [bitsOf]
theorem bitsOf_get (B : List Int) (p : Nat) (h : p < 8 * B.length) : (bitsOf B).getD p false = bitB B p := by
  unfold bitsOf
  rw [List.getD_eq_getElem?_getD, List.getElem?_map, List.getElem?_range h]
  rfl
theorem bit_or (n : Nat) (b : Bool) (h : n < 9223372036854775808) : bitK .or .u64 (IntKind.u64.wrap ((n : Int) * 2)) (b.toNat : Int) = ((2 * n + b.toNat : Nat) : Int) := by
  have hw : IntKind.u64.wrap ((n : Int) * 2) = ((2 * n : Nat) : Int) := by rw [wrap_u64 (by omega)]; omega
  rw [hw]
  show IntKind.u64.wrap ((BitVec.ofInt 64 ((2 * n : Nat) : Int) ||| BitVec.ofInt 64 (b.toNat : Int)).toNat : Int) = _
  have h1 : (BitVec.ofInt 64 ((2 * n : Nat) : Int) ||| BitVec.ofInt 64 (b.toNat : Int)).toNat = 2 * n + b.toNat := by
    rw [BitVec.toNat_or, BitVec.ofInt_natCast, BitVec.ofInt_natCast, BitVec.toNat_ofNat, BitVec.toNat_ofNat, Nat.mod_eq_of_lt (by omega), Nat.mod_eq_of_lt (by cases b <;> decide)]
    cases b with
    | false => simp
    | true => exact (Nat.two_pow_add_eq_or_of_lt (i := 1) (b := 1) (by decide) n).symm
  rw [h1, wrap_u64 (by have : b.toNat ≤ 1 := by cases b <;> simp
                       omega)]
theorem bit_or' (n : Nat) (b : Bool) (h : n < 9223372036854775808) : bitK .or .u64 ((n : Int) * 2) (b.toNat : Int) = ((2 * n + b.toNat : Nat) : Int) := by
  rw [← bit_or n b h, wrap_u64 (by omega)]
theorem take_snoc {l : List Bool} {a w : Nat} (h : a + w < l.length) : (l.drop a).take (w + 1) = (l.drop a).take w ++ [l.getD (a + w) false] := by
  rw [List.take_succ_eq_append_getElem (by simp; omega), List.getElem_drop, List.getD_eq_getElem?_getD, List.getElem?_eq_getElem h]
  rfl
theorem bit01 (x : Int) (b : Bool) (h : b = decide (x % 2 = 1)) : x % 2 = (b.toNat : Int) := by
  subst h
  by_cases h : x % 2 = 1
  · simp [h]
  · simp [h]; omega
theorem numOf_app (x y : List Bool) : numOf (x ++ y) = numOf x * 2 ^ y.length + numOf y := by
  have aux : ∀ (l : List Bool) (n : Nat), l.foldl (fun n b => 2 * n + b.toNat) n = n * 2 ^ l.length + l.foldl (fun n b => 2 * n + b.toNat) 0 := by
    intro l
    induction l with
    | nil => intro n; simp
    | cons b l ih =>
      intro n
      simp only [List.foldl_cons, List.length_cons]
      rw [ih (2 * n + b.toNat), ih (2 * 0 + b.toNat), Nat.pow_succ, Nat.add_mul, Nat.mul_zero, Nat.zero_add]
      rw [Nat.mul_comm (2 ^ l.length) 2, ← Nat.mul_assoc, Nat.mul_comm n 2]
      omega
  unfold numOf
  rw [List.foldl_append, aux]
/-- What is read of bits, from a place on: the number, the place behind, the error. -/
def rX (L : List Bool) (p : Nat) (w : Int) : Nat × Nat × Int :=
  if 0 ≤ w ∧ w ≤ 64 then (if p + w.toNat ≤ L.length then (numOf ((L.drop p).take w.toNat), p + w.toNat, 0) else (0, p, 5)) else (0, p, 2)
theorem rX_le {L : List Bool} {p : Nat} {w : Int} (h : p ≤ L.length) : (rX L p w).2.1 ≤ L.length := by
  unfold rX; split
  · split
    · assumption
    · exact h
  · exact h
/-- Is nothing left? -/
def closeX (L : List Bool) (p : Nat) : Int := if 8 ≤ L.length - p then 4 else if (L.drop p).any id = true then 4 else 0
end Go.Proofs.YteookgjmohokiaaGreat

/-! Numbers with widths: plain facts. -/
namespace Go.Proofs.YteookgjmohokiaaGreat
open Go.Eng
set_option linter.unusedSimpArgs false
set_option linter.unusedVariables false
/-- A number, and how wide it is to be. -/
structure PutN where
  n : Nat
  m : Int
instance : Inhabited PutN := ⟨⟨0, 0⟩⟩
def putOk (x : PutN) : Prop := 0 ≤ x.m ∧ x.m ≤ 64 ∧ x.n < 2 ^ x.m.toNat
instance (x : PutN) : Decidable (putOk x) := by unfold putOk; exact inferInstance
theorem numOf_numBits (n : Nat) : ∀ m, numOf (numBits n m) = n % 2 ^ m
  | 0 => by simp [numBits, numOf, Nat.mod_one]
  | m + 1 => by
    have e : numBits n (m + 1) = [decide (n / 2 ^ m % 2 = 1)] ++ numBits n m := rfl
    rw [e, numOf_app, numOf_numBits n m, numBits_len]
    have h1 : numOf [decide (n / 2 ^ m % 2 = 1)] = n / 2 ^ m % 2 := by
      have := Nat.mod_lt (n / 2 ^ m) (show 0 < 2 by decide)
      unfold numOf
      by_cases h : n / 2 ^ m % 2 = 1
      · simp [h]
      · simp [h]; omega
    rw [h1, Nat.pow_succ, Nat.mod_mul]
    rw [Nat.mul_comm (2 ^ m), Nat.add_comm]
/-- The bits of numbers, one behind the other. -/
def kb (K : List PutN) : List Bool := K.flatMap fun x => numBits x.n x.m.toNat
/-- What was packed: its bits, and nought behind. -/
theorem bitsOf_pk (L : List Bool) : bitsOf (pk L) = L ++ List.replicate (8 * ((L.length + 7) / 8) - L.length) false := by
  have hl := bitsOf_len (pk L)
  rw [pk_len] at hl
  apply List.ext_getElem
  · rw [hl]; simp; omega
  · intro i h1 h2
    have hi : i < 8 * (pk L).length := by rw [pk_len]; omega
    have e := bitsOf_get (pk L) i hi
    rw [List.getD_eq_getElem?_getD, List.getElem?_eq_getElem h1] at e
    simp only [Option.getD_some] at e
    rw [e]
    unfold bitB
    have hg : (pk L).getD (i / 8) 0 = byteV L (i / 8) := pkTo_get L _ _ (by rw [pk_len] at hi; omega)
    rw [hg]
    have hbit : decide (((byteV L (i / 8) : Nat) : Int) / 2 ^ (7 - i % 8) % 2 = 1) = decide (byteV L (i / 8) / 2 ^ (7 - i % 8) % 2 = 1) := by
      rw [decide_eq_decide]
      have : (((byteV L (i / 8) : Nat) : Int) / 2 ^ (7 - i % 8) % 2) = ((byteV L (i / 8) / 2 ^ (7 - i % 8) % 2 : Nat) : Int) := by simp
      rw [this]; omega
    rw [hbit, byteV_bit L i]
    by_cases h : i < L.length
    · rw [List.getElem_append_left h]
      unfold bAt
      rw [List.getD_eq_getElem?_getD, List.getElem?_eq_getElem h]
      simp only [Option.getD_some]
      cases L[i] <;> simp
    · rw [List.getElem_append_right (by omega), List.getElem_replicate, bAt_out (by omega)]
      simp
end Go.Proofs.YteookgjmohokiaaGreat

/-! How many bits a number has: plain facts. -/
namespace Go.Proofs.YteookgjmohokiaaGreat
open Go.Eng
set_option linter.unusedSimpArgs false
set_option linter.unusedVariables false
/-- How many bits a number needs. -/
def bl (n : Nat) : Nat := if n = 0 then 0 else Nat.log2 n + 1
theorem bl_lt (n : Nat) : n < 2 ^ bl n := by
  unfold bl
  split
  · omega
  · exact Nat.lt_log2_self
theorem bl_le {n : Nat} (h : n ≠ 0) : 2 ^ (bl n - 1) ≤ n := by
  unfold bl
  rw [if_neg h]
  exact Nat.log2_self_le h
theorem bl_pos {n : Nat} (h : n ≠ 0) : 0 < bl n := by unfold bl; rw [if_neg h]; omega
theorem bl_eq {n k : Nat} (h1 : 2 ^ k ≤ n) (h2 : n < 2 ^ (k + 1)) : bl n = k + 1 := by
  have hn : n ≠ 0 := by have := Nat.two_pow_pos k; omega
  unfold bl
  rw [if_neg hn]
  have a1 : k ≤ Nat.log2 n := (Nat.le_log2 hn).2 h1
  have a2 : Nat.log2 n < k + 1 := (Nat.log2_lt hn).2 h2
  omega
theorem bl_le_of {n k : Nat} (h : n < 2 ^ k) : bl n ≤ k := by
  by_cases hn : n = 0
  · subst hn; simp [bl]
  · have h1 := bl_le hn
    have : 2 ^ (bl n - 1) < 2 ^ k := Nat.lt_of_le_of_lt h1 h
    have := (Nat.pow_lt_pow_iff_right (show 1 < 2 by decide)).1 this
    omega
theorem bl_div {n k : Nat} (h : 2 ^ k ≤ n) : bl n = k + bl (n / 2 ^ k) := by
  have hp := Nat.two_pow_pos k
  have hq : n / 2 ^ k ≠ 0 := by
    intro h0
    have := (Nat.div_eq_zero_iff).1 h0
    omega
  have h1 := bl_le hq
  have h2 := bl_lt (n / 2 ^ k)
  have hb := bl_pos hq
  have e : bl n = (k + bl (n / 2 ^ k) - 1) + 1 := by
    apply bl_eq
    · rw [show k + bl (n / 2 ^ k) - 1 = (bl (n / 2 ^ k) - 1) + k by omega, Nat.pow_add]
      exact (Nat.le_div_iff_mul_le hp).1 h1
    · rw [show k + bl (n / 2 ^ k) - 1 + 1 = bl (n / 2 ^ k) + k by omega, Nat.pow_add]
      exact (Nat.div_lt_iff_lt_mul hp).1 h2
  omega
theorem bl_half {n : Nat} (h : 2 ≤ n) : bl n = bl (n / 2) + 1 := by
  have := bl_div (n := n) (k := 1) (by omega)
  rw [Nat.pow_one] at this
  omega
def gammaB (n : Nat) : List Bool := numBits 0 (bl n - 1) ++ numBits n (bl n)
def deltaB (n : Nat) : List Bool := gammaB (bl n) ++ numBits (n - 2 ^ (bl n - 1)) (bl n - 1)
def varB (n : Nat) : List Bool := if h : n < 128 then numBits n 8 else numBits (128 + n % 128) 8 ++ varB (n / 128)
termination_by n
decreasing_by omega
theorem gammaB_len {n : Nat} (h : n ≠ 0) : (gammaB n).length = 2 * bl n - 1 := by
  have := bl_pos h
  simp only [gammaB, List.length_append, numBits_len]; omega
theorem sh1_u64 {k : Nat} (h : k < 64) : IntKind.u64.wrap (1 * 2 ^ k) = ((2 ^ k : Nat) : Int) := by
  have h1 : 2 ^ k ≤ 2 ^ 63 := Nat.pow_le_pow_right (by decide) (by omega)
  unfold IntKind.wrap
  have h2 : (1 * 2 ^ k : Int) = ((2 ^ k : Nat) : Int) := by simp
  rw [h2]
  generalize 2 ^ k = x at *
  have e : IntKind.u64.bits = 64 := rfl
  have e2 : IntKind.u64.signed = false := rfl
  rw [e, e2]
  simp
  omega
theorem andn_eq {x y : Nat} (hx : x < 18446744073709551616) (hy : y < 18446744073709551616) : bitK .andNot .u64 (x : Int) (y : Int) = ((x ^^^ (x &&& y) : Nat) : Int) := by
  have e : (BitVec.ofInt IntKind.u64.bits (x : Int) &&& ~~~ BitVec.ofInt IntKind.u64.bits (y : Int)).toNat = x ^^^ (x &&& y) := by
    have e0 : ∀ a b : BitVec IntKind.u64.bits, a &&& ~~~ b = a ^^^ (a &&& b) := by
      intro a b
      ext i hi
      simp
      cases a[i] <;> cases b[i] <;> rfl
    rw [e0, BitVec.toNat_xor, BitVec.toNat_and, BitVec.ofInt_natCast, BitVec.ofInt_natCast, BitVec.toNat_ofNat, BitVec.toNat_ofNat, show 2 ^ IntKind.u64.bits = 18446744073709551616 from rfl, Nat.mod_eq_of_lt hx, Nat.mod_eq_of_lt hy]
  show IntKind.u64.wrap ((BitVec.ofInt IntKind.u64.bits (x : Int) &&& ~~~ BitVec.ofInt IntKind.u64.bits (y : Int)).toNat : Int) = _
  rw [e]
  have h2 : x ^^^ (x &&& y) < 2 ^ 64 := Nat.xor_lt_two_pow (by simpa using hx) (Nat.and_lt_two_pow _ (by simpa using hy))
  generalize x ^^^ (x &&& y) = z at *
  unfold IntKind.wrap
  have e : IntKind.u64.bits = 64 := rfl
  have e2 : IntKind.u64.signed = false := rfl
  rw [e, e2]
  simp
  omega
def bTo (L : List Bool) (j : Nat) : Nat → Nat
  | 0 => 0
  | k + 1 => 2 * bTo L j k + bAt L (8 * j + k)
theorem bTo_eight (L : List Bool) (j : Nat) : bTo L j 8 = byteV L j := by
  simp only [bTo, byteV, Nat.add_zero]
  omega
theorem bTo_le (L : List Bool) (j : Nat) : ∀ k, bTo L j k < 2 ^ k
  | 0 => by simp [bTo]
  | k + 1 => by have := bTo_le L j k; have := bAt_le L (8 * j + k); rw [Nat.pow_succ]; unfold bTo; omega
theorem pkTo_succ (L : List Bool) (j : Nat) : pkTo L (j + 1) = pkTo L j ++ [(byteV L j : Int)] := by
  unfold pkTo; rw [List.range_succ, List.map_append]; rfl
end Go.Proofs.YteookgjmohokiaaGreat

/-! What codes read: plain facts. -/
namespace Go.Proofs.YteookgjmohokiaaGreat
open Go.Eng
set_option linter.unusedSimpArgs false
set_option linter.unusedVariables false
/-- How many noughts stand ahead. -/
def zl : List Bool → Nat
  | [] => 0
  | true :: _ => 0
  | false :: l => zl l + 1
def zr (L : List Bool) (p : Nat) : Nat := zl (L.drop p)
/-- A number of gamma's code from a place on, as the code reads it: the number, how far it got, an error. -/
def gX (L : List Bool) (p : Nat) : Nat × Nat × Int :=
  if 64 ≤ zr L p then (0, p + 64, 4) else if L.length < p + 2 * zr L p + 1 then (0, (if p + zr L p < L.length then p + zr L p + 1 else p + zr L p), 5)
  else (2 ^ zr L p + numOf ((L.drop (p + zr L p + 1)).take (zr L p)), p + 2 * zr L p + 1, 0)
/-- Just as the document. -/
def gR (L : List Bool) (p : Nat) : Nat × Nat × Int :=
  if 64 ≤ zr L p then (0, p + 64, 4) else if L.length < p + 2 * zr L p + 1 then (0, p + zr L p, 5)
  else (2 ^ zr L p + numOf ((L.drop (p + zr L p + 1)).take (zr L p)), p + 2 * zr L p + 1, 0)
/-- A number of delta's code. -/
def dX (L : List Bool) (p : Nat) : Nat × Nat × Int :=
  if (gX L p).2.2 = 0 then (if 64 < (gX L p).1 then (0, (gX L p).2.1, 4) else
    if (gX L p).2.1 + ((gX L p).1 - 1) ≤ L.length then (2 ^ ((gX L p).1 - 1) + numOf ((L.drop (gX L p).2.1).take ((gX L p).1 - 1)), (gX L p).2.1 + ((gX L p).1 - 1), 0)
    else (0, (gX L p).2.1, 5)) else (0, (gX L p).2.1, (gX L p).2.2)
def dR (L : List Bool) (p : Nat) : Nat × Nat × Int :=
  if (dX L p).2.2 = 0 then dX L p else (0, p, (dX L p).2.2)
/-- A number in groups of seven bits. -/
def vXj (L : List Bool) : Nat → Nat → Nat → Nat → Nat × Nat × Int
  | 0, _, p, _ => (0, p, 4)
  | j + 1, i, p, a =>
    if (rX L p 8).2.2 = 0 then
      (if (i = 9 ∧ 1 < (rX L p 8).1 % 128) ∨ (0 < i ∧ (rX L p 8).1 = 0) then (0, (rX L p 8).2.1, 4)
       else if (rX L p 8).1 < 128 then (a + (rX L p 8).1 % 128 * 2 ^ (7 * i), (rX L p 8).2.1, 0)
       else vXj L j (i + 1) (rX L p 8).2.1 (a + (rX L p 8).1 % 128 * 2 ^ (7 * i)))
    else (0, (rX L p 8).2.1, 5)
def vX (L : List Bool) (p : Nat) : Nat × Nat × Int := vXj L 10 0 p 0
end Go.Proofs.YteookgjmohokiaaGreat

/-! What was written is read back: plain facts. -/
namespace Go.Proofs.YteookgjmohokiaaGreat
open Go.Eng
set_option linter.unusedSimpArgs false
set_option linter.unusedVariables false
/-- Pieces, one behind the other. -/
def cat (f : Nat → List Bool) : Nat → List Bool
  | 0 => []
  | i + 1 => cat f i ++ f i
/-- A number in one of three codes. -/
def piece (k : Int) (x : Nat) : List Bool := if k = 0 then gammaB x else if k = 1 then deltaB x else varB x
end Go.Proofs.YteookgjmohokiaaGreat

/-! No code of a number begins with another one's: plain facts. -/
namespace Go.Proofs.YteookgjmohokiaaGreat
open Go.Eng
set_option linter.unusedSimpArgs false
set_option linter.unusedVariables false
end Go.Proofs.YteookgjmohokiaaGreat
