import Derived.Test.YteookgjmohokiaaGreatE6
namespace Go.Proofs.YteookgjmohokiaaGreat
open Go.Eng
set_option linter.unusedSimpArgs false
set_option linter.unusedVariables false

def bAt (L : List Bool) (i : Nat) : Nat := (L.getD i false).toNat
theorem bAt_le (L : List Bool) (i : Nat) : bAt L i ≤ 1 := by unfold bAt; cases L.getD i false <;> simp
theorem bAt_out {L : List Bool} {i : Nat} (h : L.length ≤ i) : bAt L i = 0 := by
  unfold bAt; rw [List.getD_eq_getElem?_getD, List.getElem?_eq_none h]; rfl
theorem bAt_snoc_lt {L : List Bool} {i : Nat} (x : Bool) (h : i < L.length) : bAt (L ++ [x]) i = bAt L i := by
  unfold bAt; rw [List.getD_eq_getElem?_getD, List.getElem?_append_left h, ← List.getD_eq_getElem?_getD]
theorem bAt_snoc_eq (L : List Bool) (x : Bool) : bAt (L ++ [x]) L.length = x.toNat := by
  unfold bAt; simp
def byteV (L : List Bool) (k : Nat) : Nat :=
  bAt L (8 * k) * 128 + bAt L (8 * k + 1) * 64 + bAt L (8 * k + 2) * 32 + bAt L (8 * k + 3) * 16 + bAt L (8 * k + 4) * 8 + bAt L (8 * k + 5) * 4 + bAt L (8 * k + 6) * 2 + bAt L (8 * k + 7)
theorem byteV_lt (L : List Bool) (k : Nat) : byteV L k < 256 := by
  unfold byteV
  have h := bAt_le L
  have h0 := h (8 * k); have h1 := h (8 * k + 1); have h2 := h (8 * k + 2); have h3 := h (8 * k + 3); have h4 := h (8 * k + 4); have h5 := h (8 * k + 5); have h6 := h (8 * k + 6); have h7 := h (8 * k + 7)
  omega
theorem byteV_snoc_lt {L : List Bool} {k : Nat} (x : Bool) (h : k < L.length / 8) : byteV (L ++ [x]) k = byteV L k := by
  unfold byteV
  rw [bAt_snoc_lt x (by omega), bAt_snoc_lt x (by omega), bAt_snoc_lt x (by omega), bAt_snoc_lt x (by omega), bAt_snoc_lt x (by omega), bAt_snoc_lt x (by omega), bAt_snoc_lt x (by omega), bAt_snoc_lt x (by omega)]
theorem byteV_snoc (L : List Bool) (x : Bool) : byteV (L ++ [x]) (L.length / 8) = byteV L (L.length / 8) + x.toNat * 2 ^ (7 - L.length % 8) ∧ byteV L (L.length / 8) % 2 ^ (8 - L.length % 8) = 0 := by
  have hs : ∀ i, bAt (L ++ [x]) i = if i < L.length then bAt L i else if i = L.length then x.toNat else 0 := fun i => by
    by_cases h : i < L.length
    · rw [if_pos h, bAt_snoc_lt x h]
    · rw [if_neg h]
      by_cases h' : i = L.length
      · rw [if_pos h', h', bAt_snoc_eq]
      · rw [if_neg h', bAt_out (by simp; omega)]
  have ho : ∀ i, L.length ≤ i → bAt L i = 0 := fun i h => bAt_out h
  have hn : L.length = 8 * (L.length / 8) + L.length % 8 := (Nat.div_add_mod _ 8).symm
  have hx : x.toNat ≤ 1 := by cases x <;> simp
  unfold byteV
  simp only [hs]
  generalize L.length / 8 = k at *
  have hr : L.length % 8 < 8 := Nat.mod_lt _ (by omega)
  generalize L.length % 8 = r at *
  rw [hn] at ho ⊢
  have h := bAt_le L
  have h0 := h (8 * k); have h1 := h (8 * k + 1); have h2 := h (8 * k + 2); have h3 := h (8 * k + 3); have h4 := h (8 * k + 4); have h5 := h (8 * k + 5); have h6 := h (8 * k + 6); have h7 := h (8 * k + 7)
  have o0 := ho (8 * k); have o1 := ho (8 * k + 1); have o2 := ho (8 * k + 2); have o3 := ho (8 * k + 3); have o4 := ho (8 * k + 4); have o5 := ho (8 * k + 5); have o6 := ho (8 * k + 6); have o7 := ho (8 * k + 7)
  generalize bAt L (8 * k) = a0 at *
  generalize bAt L (8 * k + 1) = a1 at *
  generalize bAt L (8 * k + 2) = a2 at *
  generalize bAt L (8 * k + 3) = a3 at *
  generalize bAt L (8 * k + 4) = a4 at *
  generalize bAt L (8 * k + 5) = a5 at *
  generalize bAt L (8 * k + 6) = a6 at *
  generalize bAt L (8 * k + 7) = a7 at *
  generalize x.toNat = q at *
  clear hs ho h hn
  rcases (by omega : r = 0 ∨ r = 1 ∨ r = 2 ∨ r = 3 ∨ r = 4 ∨ r = 5 ∨ r = 6 ∨ r = 7) with rfl | rfl | rfl | rfl | rfl | rfl | rfl | rfl <;> simp (disch := omega) only [if_pos, if_neg, ↓reduceIte] <;> constructor <;> simp only [Nat.reducePow, Nat.reduceSub, ↓reduceIte] <;> omega
theorem or_bit : ∀ r : Fin 8, ∀ y : Fin 256, y.val % 2 ^ (8 - r.val) = 0 → y.val ||| 2 ^ (7 - r.val) = y.val + 2 ^ (7 - r.val) := by decide +kernel


def pkTo (L : List Bool) (m : Nat) : List Int := (List.range m).map fun k => (byteV L k : Int)
def pk (L : List Bool) : List Int := pkTo L ((L.length + 7) / 8)
theorem pkTo_len (L : List Bool) (m : Nat) : (pkTo L m).length = m := by simp [pkTo]
theorem pk_len (L : List Bool) : (pk L).length = (L.length + 7) / 8 := pkTo_len _ _
theorem pkTo_get (L : List Bool) (m i : Nat) (h : i < m) : (pkTo L m).getD i 0 = byteV L i := by
  unfold pkTo
  rw [List.getD_eq_getElem?_getD, List.getElem?_map, List.getElem?_range h]
  rfl
theorem pkTo_set (L : List Bool) (x : Bool) : pkTo (L ++ [x]) (L.length / 8 + 1) = (pkTo L (L.length / 8 + 1)).set (L.length / 8) ((byteV L (L.length / 8) : Int) + (x.toNat * 2 ^ (7 - L.length % 8) : Nat)) := by
  unfold pkTo
  apply List.ext_getElem
  · simp
  · intro i h1 h2
    simp only [List.getElem_set, List.getElem_map, List.getElem_range]
    simp at h1
    by_cases h : L.length / 8 = i
    · subst h
      rw [if_pos rfl, (byteV_snoc L x).1]
      simp
    · rw [if_neg h, byteV_snoc_lt x (by omega)]
theorem pk_snoc (L : List Bool) (x : Bool) : pk (L ++ [x]) = pkTo (L ++ [x]) (L.length / 8 + 1) := by
  unfold pk
  congr 1
  simp
  omega
theorem pkTo_false (L : List Bool) (m : Nat) : pkTo (L ++ [false]) m = pkTo L m := by
  have h : ∀ i, bAt (L ++ [false]) i = bAt L i := fun i => by
    by_cases h : i < L.length
    · exact bAt_snoc_lt _ h
    · rw [bAt_out (L := L) (by omega)]
      by_cases h' : i = L.length
      · subst h'; rw [bAt_snoc_eq]; rfl
      · exact bAt_out (by simp; omega)
  unfold pkTo byteV
  simp only [h]
theorem pkTo_next (L : List Bool) : pkTo L (L.length / 8 + 1) = if L.length % 8 = 0 then pk L ++ [0] else pk L := by
  unfold pk
  by_cases h : L.length % 8 = 0
  · rw [if_pos h, show (L.length + 7) / 8 = L.length / 8 by omega]
    unfold pkTo
    rw [List.range_succ, List.map_append]
    have h2 := (byteV_snoc L false).2
    rw [h, Nat.sub_zero] at h2
    have := byteV_lt L (L.length / 8)
    rw [show (2 : Nat) ^ 8 = 256 from rfl] at h2
    simp [show byteV L (L.length / 8) = 0 by omega]
  · rw [if_neg h, show (L.length + 7) / 8 = L.length / 8 + 1 by omega]
end Go.Proofs.YteookgjmohokiaaGreat

namespace Go.Proofs.YteookgjmohokiaaGreat
open Go.Eng
set_option linter.unusedSimpArgs false
set_option linter.unusedVariables false

def numBits (n : Nat) : Nat → List Bool
  | 0 => []
  | m + 1 => decide (n / 2 ^ m % 2 = 1) :: numBits n m
theorem numBits_len (n : Nat) : ∀ m, (numBits n m).length = m
  | 0 => rfl
  | m + 1 => by simp [numBits, numBits_len n m]
theorem numBits_get (n : Nat) : ∀ (m i : Nat) (h : i < m), (numBits n m)[i]'(by rw [numBits_len]; exact h) = decide (n / 2 ^ (m - 1 - i) % 2 = 1)
  | m + 1, 0, _ => by simp [numBits]
  | m + 1, i + 1, h => by
    simp only [numBits, List.getElem_cons_succ]
    rw [numBits_get n m i (by omega)]
    congr 5
    omega
theorem byteV_bit (L : List Bool) (i : Nat) : byteV L (i / 8) / 2 ^ (7 - i % 8) % 2 = bAt L i := by
  have hr : i % 8 < 8 := Nat.mod_lt _ (by omega)
  have hi : i = 8 * (i / 8) + i % 8 := (Nat.div_add_mod _ 8).symm
  generalize i / 8 = k at *
  generalize i % 8 = r at *
  subst hi
  unfold byteV
  have h := bAt_le L
  have h0 := h (8 * k); have h1 := h (8 * k + 1); have h2 := h (8 * k + 2); have h3 := h (8 * k + 3); have h4 := h (8 * k + 4); have h5 := h (8 * k + 5); have h6 := h (8 * k + 6); have h7 := h (8 * k + 7)
  rcases (by omega : r = 0 ∨ r = 1 ∨ r = 2 ∨ r = 3 ∨ r = 4 ∨ r = 5 ∨ r = 6 ∨ r = 7) with rfl | rfl | rfl | rfl | rfl | rfl | rfl | rfl <;> simp only [Nat.reduceSub, Nat.reducePow, Nat.add_zero] <;> omega
def numOf (l : List Bool) : Nat := l.foldl (fun n b => 2 * n + b.toNat) 0
theorem numOf_snoc (l : List Bool) (b : Bool) : numOf (l ++ [b]) = 2 * numOf l + b.toNat := by simp [numOf]
theorem numOf_lt (l : List Bool) : numOf l < 2 ^ l.length := by
  have aux : ∀ (l : List Bool) (n : Nat), l.foldl (fun n b => 2 * n + b.toNat) n < (n + 1) * 2 ^ l.length := by
    intro l
    induction l with
    | nil => intro n; simp
    | cons b l ih =>
      intro n
      have hb : b.toNat ≤ 1 := by cases b <;> simp
      have := ih (2 * n + b.toNat)
      simp only [List.foldl_cons, List.length_cons]
      refine Nat.lt_of_lt_of_le this ?_
      rw [Nat.pow_succ, Nat.mul_comm (2 ^ l.length) 2, ← Nat.mul_assoc]
      exact Nat.mul_le_mul_right _ (by omega)
  simpa [numOf] using aux l 0
def bitB (B : List Int) (p : Nat) : Bool := decide (B.getD (p / 8) 0 / 2 ^ (7 - p % 8) % 2 = 1)
def bitsOf (B : List Int) : List Bool := (List.range (8 * B.length)).map (bitB B)
theorem bitsOf_len (B : List Int) : (bitsOf B).length = 8 * B.length := by simp [bitsOf]
theorem bitsOf_get (B : List Int) (p : Nat) (h : p < 8 * B.length) : (bitsOf B).getD p false = bitB B p := by
  unfold bitsOf
  rw [List.getD_eq_getElem?_getD, List.getElem?_map, List.getElem?_range h]
  rfl
theorem bit_or (n : Nat) (b : Bool) (h : n < 9223372036854775808) : bitK .or .u64 (IntKind.u64.wrap ((n : Int) * 2)) (b.toNat : Int) = ((2 * n + b.toNat : Nat) : Int) := by
  have hw : IntKind.u64.wrap ((n : Int) * 2) = ((2 * n : Nat) : Int) := by rw [wrap_u64 (by omega)]; omega
  rw [hw]
  show IntKind.u64.wrap ((BitVec.ofInt 64 ((2 * n : Nat) : Int) ||| BitVec.ofInt 64 (b.toNat : Int)).toNat : Int) = _
  have h1 : (BitVec.ofInt 64 ((2 * n : Nat) : Int) ||| BitVec.ofInt 64 (b.toNat : Int)).toNat = 2 * n + b.toNat := by
    rw [BitVec.toNat_or, BitVec.ofInt_natCast, BitVec.ofInt_natCast, BitVec.toNat_ofNat, BitVec.toNat_ofNat, Nat.mod_eq_of_lt (by omega), Nat.mod_eq_of_lt (by cases b <;> decide)]
    cases b with
    | false => simp
    | true => exact (Nat.two_pow_add_eq_or_of_lt (i := 1) (b := 1) (by decide) n).symm
  rw [h1, wrap_u64 (by have : b.toNat ≤ 1 := by cases b <;> simp
                       omega)]
theorem bit_or' (n : Nat) (b : Bool) (h : n < 9223372036854775808) : bitK .or .u64 ((n : Int) * 2) (b.toNat : Int) = ((2 * n + b.toNat : Nat) : Int) := by
  rw [← bit_or n b h, wrap_u64 (by omega)]
theorem take_snoc {l : List Bool} {a w : Nat} (h : a + w < l.length) : (l.drop a).take (w + 1) = (l.drop a).take w ++ [l.getD (a + w) false] := by
  rw [List.take_succ_eq_append_getElem (by simp; omega), List.getElem_drop, List.getD_eq_getElem?_getD, List.getElem?_eq_getElem h]
  rfl
theorem bit01 (x : Int) (b : Bool) (h : b = decide (x % 2 = 1)) : x % 2 = (b.toNat : Int) := by
  subst h
  by_cases h : x % 2 = 1
  · simp [h]
  · simp [h]; omega
theorem numOf_app (x y : List Bool) : numOf (x ++ y) = numOf x * 2 ^ y.length + numOf y := by
  have aux : ∀ (l : List Bool) (n : Nat), l.foldl (fun n b => 2 * n + b.toNat) n = n * 2 ^ l.length + l.foldl (fun n b => 2 * n + b.toNat) 0 := by
    intro l
    induction l with
    | nil => intro n; simp
    | cons b l ih =>
      intro n
      simp only [List.foldl_cons, List.length_cons]
      rw [ih (2 * n + b.toNat), ih (2 * 0 + b.toNat), Nat.pow_succ, Nat.add_mul, Nat.mul_zero, Nat.zero_add]
      rw [Nat.mul_comm (2 ^ l.length) 2, ← Nat.mul_assoc, Nat.mul_comm n 2]
      omega
  unfold numOf
  rw [List.foldl_append, aux]
def rX (L : List Bool) (p : Nat) (w : Int) : Nat × Nat × Int :=
  if 0 ≤ w ∧ w ≤ 64 then (if p + w.toNat ≤ L.length then (numOf ((L.drop p).take w.toNat), p + w.toNat, 0) else (0, p, 5)) else (0, p, 2)
theorem rX_le {L : List Bool} {p : Nat} {w : Int} (h : p ≤ L.length) : (rX L p w).2.1 ≤ L.length := by
  unfold rX; split
  · split
    · assumption
    · exact h
  · exact h
def closeX (L : List Bool) (p : Nat) : Int := if 8 ≤ L.length - p then 4 else if (L.drop p).any id = true then 4 else 0
theorem any_of_get {L : List Bool} {p i : Nat} (h : p + i < L.length) (hb : L.getD (p + i) false = true) : (L.drop p).any id = true := by
  rw [List.any_eq_true]
  refine ⟨true, List.mem_iff_getElem.2 ⟨i, by simp; omega, ?_⟩, rfl⟩
  rw [List.getElem_drop]
  rw [List.getD_eq_getElem?_getD, List.getElem?_eq_getElem h] at hb
  exact hb
theorem any_snoc {L : List Bool} {p i : Nat} (h : p + i < L.length) (hb : L.getD (p + i) false = false) (ha : ((L.drop p).take i).any id = false) : ((L.drop p).take (i + 1)).any id = false := by
  rw [take_snoc h, List.any_append, ha, hb]; rfl
end Go.Proofs.YteookgjmohokiaaGreat

namespace Go.Proofs.YteookgjmohokiaaGreat
open Go.Eng
set_option linter.unusedSimpArgs false
set_option linter.unusedVariables false
structure PutN where
  n : Nat
  m : Int
instance : Inhabited PutN := ⟨⟨0, 0⟩⟩
def putOk (x : PutN) : Prop := 0 ≤ x.m ∧ x.m ≤ 64 ∧ x.n < 2 ^ x.m.toNat
instance (x : PutN) : Decidable (putOk x) := by unfold putOk; exact inferInstance
theorem numOf_numBits (n : Nat) : ∀ m, numOf (numBits n m) = n % 2 ^ m
  | 0 => by simp [numBits, numOf, Nat.mod_one]
  | m + 1 => by
    have e : numBits n (m + 1) = [decide (n / 2 ^ m % 2 = 1)] ++ numBits n m := rfl
    rw [e, numOf_app, numOf_numBits n m, numBits_len]
    have h1 : numOf [decide (n / 2 ^ m % 2 = 1)] = n / 2 ^ m % 2 := by
      have := Nat.mod_lt (n / 2 ^ m) (show 0 < 2 by decide)
      unfold numOf
      by_cases h : n / 2 ^ m % 2 = 1
      · simp [h]
      · simp [h]; omega
    rw [h1, Nat.pow_succ, Nat.mod_mul]
    rw [Nat.mul_comm (2 ^ m), Nat.add_comm]
def kb (K : List PutN) : List Bool := K.flatMap fun x => numBits x.n x.m.toNat
theorem bitsOf_pk (L : List Bool) : bitsOf (pk L) = L ++ List.replicate (8 * ((L.length + 7) / 8) - L.length) false := by
  have hl := bitsOf_len (pk L)
  rw [pk_len] at hl
  apply List.ext_getElem
  · rw [hl]; simp; omega
  · intro i h1 h2
    have hi : i < 8 * (pk L).length := by rw [pk_len]; omega
    have e := bitsOf_get (pk L) i hi
    rw [List.getD_eq_getElem?_getD, List.getElem?_eq_getElem h1] at e
    simp only [Option.getD_some] at e
    rw [e]
    unfold bitB
    have hg : (pk L).getD (i / 8) 0 = byteV L (i / 8) := pkTo_get L _ _ (by rw [pk_len] at hi; omega)
    rw [hg]
    have hbit : decide (((byteV L (i / 8) : Nat) : Int) / 2 ^ (7 - i % 8) % 2 = 1) = decide (byteV L (i / 8) / 2 ^ (7 - i % 8) % 2 = 1) := by
      rw [decide_eq_decide]
      have : (((byteV L (i / 8) : Nat) : Int) / 2 ^ (7 - i % 8) % 2) = ((byteV L (i / 8) / 2 ^ (7 - i % 8) % 2 : Nat) : Int) := by simp
      rw [this]; omega
    rw [hbit, byteV_bit L i]
    by_cases h : i < L.length
    · rw [List.getElem_append_left h]
      unfold bAt
      rw [List.getD_eq_getElem?_getD, List.getElem?_eq_getElem h]
      simp only [Option.getD_some]
      cases L[i] <;> simp
    · rw [List.getElem_append_right (by omega), List.getElem_replicate, bAt_out (by omega)]
      simp
end Go.Proofs.YteookgjmohokiaaGreat

namespace Go.Proofs.YteookgjmohokiaaGreat
open Go.Eng
set_option linter.unusedSimpArgs false
set_option linter.unusedVariables false
def bl (n : Nat) : Nat := if n = 0 then 0 else Nat.log2 n + 1
theorem bl_lt (n : Nat) : n < 2 ^ bl n := by
  unfold bl
  split
  · omega
  · exact Nat.lt_log2_self
theorem bl_le {n : Nat} (h : n ≠ 0) : 2 ^ (bl n - 1) ≤ n := by
  unfold bl
  rw [if_neg h]
  exact Nat.log2_self_le h
theorem bl_pos {n : Nat} (h : n ≠ 0) : 0 < bl n := by unfold bl; rw [if_neg h]; omega
theorem bl_eq {n k : Nat} (h1 : 2 ^ k ≤ n) (h2 : n < 2 ^ (k + 1)) : bl n = k + 1 := by
  have hn : n ≠ 0 := by have := Nat.two_pow_pos k; omega
  unfold bl
  rw [if_neg hn]
  have a1 : k ≤ Nat.log2 n := (Nat.le_log2 hn).2 h1
  have a2 : Nat.log2 n < k + 1 := (Nat.log2_lt hn).2 h2
  omega
theorem bl_le_of {n k : Nat} (h : n < 2 ^ k) : bl n ≤ k := by
  by_cases hn : n = 0
  · subst hn; simp [bl]
  · have h1 := bl_le hn
    have : 2 ^ (bl n - 1) < 2 ^ k := Nat.lt_of_le_of_lt h1 h
    have := (Nat.pow_lt_pow_iff_right (show 1 < 2 by decide)).1 this
    omega
theorem bl_div {n k : Nat} (h : 2 ^ k ≤ n) : bl n = k + bl (n / 2 ^ k) := by
  have hp := Nat.two_pow_pos k
  have hq : n / 2 ^ k ≠ 0 := by
    intro h0
    have := (Nat.div_eq_zero_iff).1 h0
    omega
  have h1 := bl_le hq
  have h2 := bl_lt (n / 2 ^ k)
  have hb := bl_pos hq
  have e : bl n = (k + bl (n / 2 ^ k) - 1) + 1 := by
    apply bl_eq
    · rw [show k + bl (n / 2 ^ k) - 1 = (bl (n / 2 ^ k) - 1) + k by omega, Nat.pow_add]
      exact (Nat.le_div_iff_mul_le hp).1 h1
    · rw [show k + bl (n / 2 ^ k) - 1 + 1 = bl (n / 2 ^ k) + k by omega, Nat.pow_add]
      exact (Nat.div_lt_iff_lt_mul hp).1 h2
  omega
def gammaB (n : Nat) : List Bool := numBits 0 (bl n - 1) ++ numBits n (bl n)
def deltaB (n : Nat) : List Bool := gammaB (bl n) ++ numBits (n - 2 ^ (bl n - 1)) (bl n - 1)
def varB (n : Nat) : List Bool := if h : n < 128 then numBits n 8 else numBits (128 + n % 128) 8 ++ varB (n / 128)
termination_by n
decreasing_by omega
theorem gammaB_len {n : Nat} (h : n ≠ 0) : (gammaB n).length = 2 * bl n - 1 := by
  have := bl_pos h
  simp only [gammaB, List.length_append, numBits_len]; omega
theorem varB_len (n : Nat) : (varB n).length = 8 * max 1 ((bl n + 6) / 7) := by
  induction n using Nat.strongRecOn with
  | ind n ih =>
    unfold varB
    by_cases h : n < 128
    · rw [dif_pos h, numBits_len]
      have := bl_le_of (n := n) (k := 7) h
      omega
    · rw [dif_neg h, List.length_append, numBits_len, ih _ (by omega)]
      have e := bl_div (n := n) (k := 7) (by omega)
      rw [show (2 : Nat) ^ 7 = 128 from rfl] at e
      have : 0 < bl (n / 128) := bl_pos (by omega)
      omega
theorem sh1_u64 {k : Nat} (h : k < 64) : IntKind.u64.wrap (1 * 2 ^ k) = ((2 ^ k : Nat) : Int) := by
  have h1 : 2 ^ k ≤ 2 ^ 63 := Nat.pow_le_pow_right (by decide) (by omega)
  unfold IntKind.wrap
  have h2 : (1 * 2 ^ k : Int) = ((2 ^ k : Nat) : Int) := by simp
  rw [h2]
  generalize 2 ^ k = x at *
  have e : IntKind.u64.bits = 64 := rfl
  have e2 : IntKind.u64.signed = false := rfl
  rw [e, e2]
  simp
  omega
theorem andn_eq {x y : Nat} (hx : x < 18446744073709551616) (hy : y < 18446744073709551616) : bitK .andNot .u64 (x : Int) (y : Int) = ((x ^^^ (x &&& y) : Nat) : Int) := by
  have e : (BitVec.ofInt IntKind.u64.bits (x : Int) &&& ~~~ BitVec.ofInt IntKind.u64.bits (y : Int)).toNat = x ^^^ (x &&& y) := by
    have e0 : ∀ a b : BitVec IntKind.u64.bits, a &&& ~~~ b = a ^^^ (a &&& b) := by
      intro a b
      ext i hi
      simp
      cases a[i] <;> cases b[i] <;> rfl
    rw [e0, BitVec.toNat_xor, BitVec.toNat_and, BitVec.ofInt_natCast, BitVec.ofInt_natCast, BitVec.toNat_ofNat, BitVec.toNat_ofNat, show 2 ^ IntKind.u64.bits = 18446744073709551616 from rfl, Nat.mod_eq_of_lt hx, Nat.mod_eq_of_lt hy]
  show IntKind.u64.wrap ((BitVec.ofInt IntKind.u64.bits (x : Int) &&& ~~~ BitVec.ofInt IntKind.u64.bits (y : Int)).toNat : Int) = _
  rw [e]
  have h2 : x ^^^ (x &&& y) < 2 ^ 64 := Nat.xor_lt_two_pow (by simpa using hx) (Nat.and_lt_two_pow _ (by simpa using hy))
  generalize x ^^^ (x &&& y) = z at *
  unfold IntKind.wrap
  have e : IntKind.u64.bits = 64 := rfl
  have e2 : IntKind.u64.signed = false := rfl
  rw [e, e2]
  simp
  omega
theorem or_top {k n : Nat} (hk : k < 64) (h : n < 2 ^ k) : bitK .or .u64 ((2 ^ k : Nat) : Int) (n : Int) = ((2 ^ k + n : Nat) : Int) := by
  have h1 : 2 ^ k ≤ 2 ^ 63 := Nat.pow_le_pow_right (by decide) (by omega)
  rw [or_u64 (by omega) (by omega)]
  have e := Nat.two_pow_add_eq_or_of_lt h 1
  rw [Nat.mul_one] at e
  rw [e]
theorem varB_lt {n : Nat} (h : n < 128) : varB n = numBits n 8 := by unfold varB; rw [dif_pos h]
theorem varB_ge {n : Nat} (h : ¬ n < 128) : varB n = numBits (128 + n % 128) 8 ++ varB (n / 128) := by conv => lhs; unfold varB; rw [dif_neg h]
theorem or_128 (n : Nat) : bitK .or .u64 ((n : Int) % 128) 128 = ((128 + n % 128 : Nat) : Int) := by
  have h : n % 128 < 128 := Nat.mod_lt _ (by decide)
  rw [show (n : Int) % 128 = ((n % 128 : Nat) : Int) by omega]
  generalize n % 128 = r at *
  have e := or_u64 (x := r) (y := 128) (by omega) (by omega)
  rw [show ((128 : Nat) : Int) = 128 from rfl] at e
  rw [e, Nat.or_comm]
  have e := Nat.two_pow_add_eq_or_of_lt (i := 7) h 1
  rw [← e]
def bTo (L : List Bool) (j : Nat) : Nat → Nat
  | 0 => 0
  | k + 1 => 2 * bTo L j k + bAt L (8 * j + k)
end Go.Proofs.YteookgjmohokiaaGreat

namespace Go.Proofs.YteookgjmohokiaaGreat
open Go.Eng
set_option linter.unusedSimpArgs false
set_option linter.unusedVariables false
def zl : List Bool → Nat
  | [] => 0
  | true :: _ => 0
  | false :: l => zl l + 1
theorem zl_le : ∀ l : List Bool, zl l ≤ l.length
  | [] => Nat.le_refl _
  | true :: l => Nat.zero_le _
  | false :: l => by have := zl_le l; simp only [zl, List.length_cons]; omega
theorem zl_false : ∀ (l : List Bool) (k : Nat), k < zl l → l.getD k false = false
  | [], k, h => by simp [zl] at h
  | true :: l, k, h => by simp [zl] at h
  | false :: l, 0, h => rfl
  | false :: l, k + 1, h => by
    have := zl_false l k (by simp only [zl] at h; omega)
    simpa using this
theorem zl_true : ∀ l : List Bool, zl l < l.length → l.getD (zl l) false = true
  | [], h => by simp [zl] at h
  | true :: l, h => rfl
  | false :: l, h => by
    have := zl_true l (by simp only [zl, List.length_cons] at h; omega)
    simpa [zl] using this
def zr (L : List Bool) (p : Nat) : Nat := zl (L.drop p)
theorem getD_drop' (L : List Bool) (p k : Nat) : (L.drop p).getD k false = L.getD (p + k) false := by
  simp [List.getD_eq_getElem?_getD, List.getElem?_drop]
theorem zr_le {L : List Bool} {p : Nat} (h : p ≤ L.length) : p + zr L p ≤ L.length := by
  have := zl_le (L.drop p)
  unfold zr
  simp at this
  omega
theorem zr_true {L : List Bool} {p k : Nat} (h : p + k < L.length) (hk : k ≤ zr L p) (hb : L.getD (p + k) false = true) : zr L p = k := by
  by_cases h1 : k < zr L p
  · have := zl_false _ _ h1
    rw [getD_drop', hb] at this
    cases this
  · omega
theorem zr_false {L : List Bool} {p k : Nat} (h : p + k < L.length) (hk : k ≤ zr L p) (hb : L.getD (p + k) false = false) : k + 1 ≤ zr L p := by
  by_cases h1 : k = zr L p
  · subst h1
    have := zl_true (L.drop p) (by unfold zr at h; simp; omega)
    rw [getD_drop'] at this
    unfold zr at hb
    rw [hb] at this
    cases this
  · omega
theorem zr_end {L : List Bool} {p k : Nat} (h : ¬ p + k < L.length) (hk : k ≤ zr L p) (hp : p ≤ L.length) : zr L p = k := by
  have := zr_le hp
  omega
theorem rX_one {L : List Bool} {p : Nat} (h : p < L.length) : rX L p 1 = ((L.getD p false).toNat, p + 1, 0) := by
  unfold rX
  rw [if_pos (by omega), if_pos (by simp; omega)]
  have e : (L.drop p).take 1 = [L.getD p false] := by
    have := take_snoc (l := L) (a := p) (w := 0) (by omega)
    simpa using this
  simp only [Int.toNat_one, e]
  cases L.getD p false <;> rfl
theorem rX_one_end {L : List Bool} {p : Nat} (h : ¬ p < L.length) : rX L p 1 = (0, p, 5) := by
  unfold rX
  rw [if_pos (by omega), if_neg (by simp; omega)]
theorem rX_ok {L : List Bool} {p w : Nat} (hw : w ≤ 64) (h : p + w ≤ L.length) : rX L p w = (numOf ((L.drop p).take w), p + w, 0) := by
  unfold rX
  rw [if_pos (by omega), if_pos (by simpa using h)]
  simp
theorem rX_end {L : List Bool} {p w : Nat} (hw : w ≤ 64) (h : ¬ p + w ≤ L.length) : rX L p w = (0, p, 5) := by
  unfold rX
  rw [if_pos (by omega), if_neg (by simpa using h)]
def gX (L : List Bool) (p : Nat) : Nat × Nat × Int :=
  if 64 ≤ zr L p then (0, p + 64, 4) else if L.length < p + 2 * zr L p + 1 then (0, (if p + zr L p < L.length then p + zr L p + 1 else p + zr L p), 5)
  else (2 ^ zr L p + numOf ((L.drop (p + zr L p + 1)).take (zr L p)), p + 2 * zr L p + 1, 0)
def gR (L : List Bool) (p : Nat) : Nat × Nat × Int :=
  if 64 ≤ zr L p then (0, p + 64, 4) else if L.length < p + 2 * zr L p + 1 then (0, p + zr L p, 5)
  else (2 ^ zr L p + numOf ((L.drop (p + zr L p + 1)).take (zr L p)), p + 2 * zr L p + 1, 0)
theorem gX_le {L : List Bool} {p : Nat} (h : p ≤ L.length) : (gX L p).2.1 ≤ L.length := by
  have := zr_le h
  unfold gX
  split
  · simp only; omega
  · split
    · simp only; split <;> omega
    · simp only; omega
theorem gX_lt {L : List Bool} {p : Nat} : (gX L p).1 < 18446744073709551616 := by
  unfold gX
  split
  · simp
  · split
    · simp
    · simp only
      have h1 : 2 ^ zr L p ≤ 2 ^ 63 := Nat.pow_le_pow_right (by decide) (by omega)
      have h2 := numOf_lt ((L.drop (p + zr L p + 1)).take (zr L p))
      have h3 : 2 ^ ((L.drop (p + zr L p + 1)).take (zr L p)).length ≤ 2 ^ 63 := Nat.pow_le_pow_right (by decide) (by simp; omega)
      omega
theorem gX_pos {L : List Bool} {p : Nat} (h : (gX L p).2.2 = 0) : 0 < (gX L p).1 := by
  unfold gX at *
  split at h
  · cases h
  · split at h
    · cases h
    · rename_i h1 h2
      rw [if_neg h1, if_neg h2]
      have := Nat.two_pow_pos (zr L p)
      simp only; omega
theorem gR_eq (L : List Bool) (p : Nat) : (gR L p).1 = (gX L p).1 ∧ (gR L p).2.2 = (gX L p).2.2 ∧ ((gX L p).2.2 = 0 → (gR L p).2.1 = (gX L p).2.1) ∧ ((gX L p).2.2 = 0 ∨ (gX L p).2.2 = 4 ∨ (gX L p).2.2 = 5) := by
  unfold gR gX
  split
  · simp
  · split <;> simp
theorem gX_err {L : List Bool} {p : Nat} (h : (gX L p).2.2 ≠ 0) : (gX L p).1 = 0 := by
  unfold gX at *
  split
  · rfl
  · split
    · rfl
    · rename_i h1 h2
      rw [if_neg h1, if_neg h2] at h
      exact absurd rfl h
theorem gX_form {L : List Bool} {p : Nat} (h : 64 ≤ zr L p) : gX L p = (0, p + 64, 4) ∧ gR L p = (0, p + 64, 4) := by
  unfold gX gR; rw [if_pos h, if_pos h]; exact ⟨rfl, rfl⟩
theorem gX_end {L : List Bool} {p k : Nat} (hz : zr L p = k) (h : k < 64) (he : L.length < p + 2 * k + 1) : gX L p = (0, (if p + k < L.length then p + k + 1 else p + k), 5) ∧ gR L p = (0, p + k, 5) := by
  subst hz
  exact ⟨by unfold gX; rw [if_neg (by omega), if_pos he], by unfold gR; rw [if_neg (by omega), if_pos he]⟩
theorem gX_ok {L : List Bool} {p k : Nat} (hz : zr L p = k) (h : k < 64) (he : p + 2 * k + 1 ≤ L.length) : gX L p = (2 ^ k + numOf ((L.drop (p + k + 1)).take k), p + 2 * k + 1, 0) ∧ gR L p = gX L p := by
  subst hz
  have e : gX L p = (2 ^ zr L p + numOf ((L.drop (p + zr L p + 1)).take (zr L p)), p + 2 * zr L p + 1, 0) := by unfold gX; rw [if_neg (by omega), if_neg (by omega)]
  exact ⟨e, by rw [e]; unfold gR; rw [if_neg (by omega), if_neg (by omega)]⟩
theorem numOf_top {L : List Bool} {q k : Nat} (h : q + k < L.length) (hb : L.getD q false = true) : numOf ((L.drop q).take (k + 1)) = 2 ^ k + numOf ((L.drop (q + 1)).take k) := by
  have e : (L.drop q).take (k + 1) = [L.getD q false] ++ (L.drop (q + 1)).take k := by
    rw [List.getD_eq_getElem?_getD, List.getElem?_eq_getElem (by omega), List.drop_eq_getElem_cons (by omega), List.take_succ_cons]
    rfl
  rw [e, numOf_app, hb]
  have : ((L.drop (q + 1)).take k).length = k := by simp; omega
  rw [this]
  simp [numOf]
def dX (L : List Bool) (p : Nat) : Nat × Nat × Int :=
  if (gX L p).2.2 = 0 then (if 64 < (gX L p).1 then (0, (gX L p).2.1, 4) else
    if (gX L p).2.1 + ((gX L p).1 - 1) ≤ L.length then (2 ^ ((gX L p).1 - 1) + numOf ((L.drop (gX L p).2.1).take ((gX L p).1 - 1)), (gX L p).2.1 + ((gX L p).1 - 1), 0)
    else (0, (gX L p).2.1, 5)) else (0, (gX L p).2.1, (gX L p).2.2)
def dR (L : List Bool) (p : Nat) : Nat × Nat × Int :=
  if (dX L p).2.2 = 0 then dX L p else (0, p, (dX L p).2.2)
def vXj (L : List Bool) : Nat → Nat → Nat → Nat → Nat × Nat × Int
  | 0, _, p, _ => (0, p, 4)
  | j + 1, i, p, a =>
    if (rX L p 8).2.2 = 0 then
      (if (i = 9 ∧ 1 < (rX L p 8).1 % 128) ∨ (0 < i ∧ (rX L p 8).1 = 0) then (0, (rX L p 8).2.1, 4)
       else if (rX L p 8).1 < 128 then (a + (rX L p 8).1 % 128 * 2 ^ (7 * i), (rX L p 8).2.1, 0)
       else vXj L j (i + 1) (rX L p 8).2.1 (a + (rX L p 8).1 % 128 * 2 ^ (7 * i)))
    else (0, (rX L p 8).2.1, 5)
def vX (L : List Bool) (p : Nat) : Nat × Nat × Int := vXj L 10 0 p 0
theorem vXj_le {L : List Bool} : ∀ (j i p a : Nat), p ≤ L.length → (vXj L j i p a).2.1 ≤ L.length
  | 0, _, _, _, h => h
  | j + 1, i, p, a, h => by
    have := rX_le (w := 8) h
    unfold vXj
    split
    · split
      · exact this
      · split
        · exact this
        · exact vXj_le _ _ _ _ this
    · exact this
theorem vXj_err {L : List Bool} : ∀ (j i p a : Nat), (vXj L j i p a).2.2 = 0 ∨ (vXj L j i p a).2.2 = 4 ∨ (vXj L j i p a).2.2 = 5
  | 0, _, _, _ => by simp [vXj]
  | j + 1, i, p, a => by
    unfold vXj
    split
    · split
      · simp
      · split
        · simp
        · exact vXj_err _ _ _ _
    · simp
theorem rX8_ok {L : List Bool} {p : Nat} (h : p + 8 ≤ L.length) : rX L p 8 = (numOf ((L.drop p).take 8), p + 8, 0) := rX_ok (w := 8) (by decide) h
theorem rX8_end {L : List Bool} {p : Nat} (h : ¬ p + 8 ≤ L.length) : rX L p 8 = (0, p, 5) := rX_end (w := 8) (by decide) h
theorem vXj_end {L : List Bool} {j i p a : Nat} (h : ¬ p + 8 ≤ L.length) : vXj L (j + 1) i p a = (0, p, 5) := by
  have e : rX L p 8 = (0, p, 5) := rX_end (w := 8) (by decide) h
  unfold vXj
  rw [e]
  simp
theorem vXj_ok {L : List Bool} {j i p a x : Nat} (h : p + 8 ≤ L.length) (hx : numOf ((L.drop p).take 8) = x) : vXj L (j + 1) i p a =
    if (i = 9 ∧ 1 < x % 128) ∨ (0 < i ∧ x = 0) then (0, p + 8, 4) else if x < 128 then (a + x % 128 * 2 ^ (7 * i), p + 8, 0) else vXj L j (i + 1) (p + 8) (a + x % 128 * 2 ^ (7 * i)) := by
  have e : rX L p 8 = (x, p + 8, 0) := by rw [← hx]; exact rX_ok (w := 8) (by decide) h
  conv => lhs; unfold vXj
  rw [e]
  simp
theorem shl7 {x i : Nat} (hi : i ≤ 9) (h9 : i = 9 → x ≤ 1) (hx : x < 128) : x * 2 ^ (7 * i) < 18446744073709551616 ∧ x * 2 ^ (7 * i) + 2 ^ (7 * i) ≤ 18446744073709551616 := by
  by_cases h : i = 9
  · subst h
    have := h9 rfl
    omega
  · have h1 : 2 ^ (7 * i) ≤ 2 ^ 56 := Nat.pow_le_pow_right (by decide) (by omega)
    have h2 : x * 2 ^ (7 * i) ≤ 127 * 2 ^ 56 := Nat.mul_le_mul (by omega) h1
    omega
theorem pow7_succ (i : Nat) : 2 ^ (7 * (i + 1)) = 128 * 2 ^ (7 * i) := by
  rw [Nat.mul_add, Nat.pow_add]; omega
theorem or_shl {a x i : Nat} (ha : a < 2 ^ (7 * i)) (hi : i ≤ 9) (h9 : i = 9 → x ≤ 1) (hx : x < 128) : bitK .or .u64 (a : Int) ((x * 2 ^ (7 * i) : Nat) : Int) = ((a + x * 2 ^ (7 * i) : Nat) : Int) := by
  have h := shl7 hi h9 hx
  rw [or_u64 (by omega) (by omega)]
  have e := Nat.two_pow_add_eq_or_of_lt ha x
  rw [Nat.mul_comm x, Nat.or_comm, ← e, Nat.add_comm]
theorem wrap_shl {x i : Nat} (hi : i ≤ 9) (h9 : i = 9 → x ≤ 1) (hx : x < 128) : IntKind.u64.wrap ((x : Int) * 2 ^ (7 * i)) = ((x * 2 ^ (7 * i) : Nat) : Int) := by
  have h := shl7 hi h9 hx
  have e0 : ((x : Int) * 2 ^ (7 * i)) = ((x * 2 ^ (7 * i) : Nat) : Int) := by simp
  rw [e0]
  generalize x * 2 ^ (7 * i) = y at *
  unfold IntKind.wrap
  have e : IntKind.u64.bits = 64 := rfl
  have e2 : IntKind.u64.signed = false := rfl
  rw [e, e2]
  simp
  omega
end Go.Proofs.YteookgjmohokiaaGreat

namespace Go.Proofs.YteookgjmohokiaaGreat
open Go.Eng
set_option linter.unusedSimpArgs false
set_option linter.unusedVariables false
theorem numBits_zero (m : Nat) : numBits 0 m = List.replicate m false := by
  induction m with
  | zero => rfl
  | succ m ih => 
    have e : numBits 0 (m + 1) = decide (0 / 2 ^ m % 2 = 1) :: numBits 0 m := rfl
    rw [e, ih, List.replicate_succ]
    simp
theorem zl_rep (k : Nat) (T : List Bool) : zl (List.replicate k false ++ true :: T) = k := by
  induction k with
  | zero => rfl
  | succ k ih => rw [List.replicate_succ, List.cons_append]; show zl _ + 1 = _; rw [ih]
theorem numBits_top {n : Nat} (h0 : n ≠ 0) : numBits n (bl n) = true :: numBits n (bl n - 1) := by
  have hb := bl_pos h0
  have h1 := bl_le h0
  have h2 := bl_lt n
  obtain ⟨k, hk⟩ : ∃ k, bl n = k + 1 := ⟨bl n - 1, by omega⟩
  rw [hk] at h1 h2 ⊢
  have e : numBits n (k + 1) = decide (n / 2 ^ k % 2 = 1) :: numBits n k := rfl
  rw [e]
  simp only [Nat.add_sub_cancel] at h1 ⊢
  have hd : n / 2 ^ k = 1 := by
    have hp := Nat.two_pow_pos k
    have a1 := (Nat.le_div_iff_mul_le hp).2 (show 1 * 2 ^ k ≤ n by omega)
    have a2 := (Nat.div_lt_iff_lt_mul hp).2 (show n < 2 * 2 ^ k by rw [Nat.pow_succ] at h2; omega)
    omega
  rw [hd]
  rfl
theorem drop_app (A B : List Bool) (k : Nat) : (A ++ B).drop (A.length + k) = B.drop k := by
  rw [List.drop_append, List.drop_eq_nil_of_le (by omega)]; simp
theorem gX_back {A T : List Bool} {n : Nat} (h0 : n ≠ 0) (hn : n < 18446744073709551616) : gX (A ++ (gammaB n ++ T)) A.length = (n, A.length + (gammaB n).length, 0) := by
  have hb := bl_pos h0
  have hb2 := bl_le_of (n := n) (k := 64) hn
  have h1 := bl_le h0
  have h2 := bl_lt n
  have hgl := gammaB_len h0
  have e : gammaB n ++ T = List.replicate (bl n - 1) false ++ true :: (numBits n (bl n - 1) ++ T) := by
    unfold gammaB
    rw [numBits_top h0, numBits_zero]
    simp
  have hz : zr (A ++ (gammaB n ++ T)) A.length = bl n - 1 := by
    unfold zr
    rw [List.drop_left, e, zl_rep]
  have hlen : (A ++ (gammaB n ++ T)).length = A.length + (2 * bl n - 1 + T.length) := by simp [hgl]
  rw [(gX_ok hz (by omega) (by rw [hlen]; omega)).1]
  have hd : (A ++ (gammaB n ++ T)).drop (A.length + (bl n - 1) + 1) = numBits n (bl n - 1) ++ T := by
    rw [Nat.add_assoc, drop_app, e]
    have : (List.replicate (bl n - 1) false).length = bl n - 1 := by simp
    conv => lhs; rw [show bl n - 1 + 1 = (List.replicate (bl n - 1) false).length + 1 by simp]
    rw [drop_app]
    rfl
  rw [hd, List.take_left' (numBits_len _ _), numOf_numBits]
  have hm : n % 2 ^ (bl n - 1) = n - 2 ^ (bl n - 1) := by
    obtain ⟨k, hk⟩ : ∃ k, bl n = k + 1 := ⟨bl n - 1, by omega⟩
    rw [hk] at h1 h2 ⊢
    simp only [Nat.add_sub_cancel] at h1 ⊢
    rw [Nat.pow_succ] at h2
    rw [Nat.mod_eq_sub_mod h1, Nat.mod_eq_of_lt (by omega)]
  rw [hm]
  congr 1
  · omega
  · congr 1; omega
def cat (f : Nat → List Bool) : Nat → List Bool
  | 0 => []
  | i + 1 => cat f i ++ f i
def piece (k : Int) (x : Nat) : List Bool := if k = 0 then gammaB x else if k = 1 then deltaB x else varB x
end Go.Proofs.YteookgjmohokiaaGreat

namespace Go.Proofs.YteookgjmohokiaaGreat
open Go.Eng
set_option linter.unusedSimpArgs false
set_option linter.unusedVariables false
end Go.Proofs.YteookgjmohokiaaGreat
