import Derived.Test.YthbcfjlalmhabaaLib
/-! Bits in bytes: plain facts. -/
namespace Go.Proofs.Ythbcfjlalmhabaa
open Go.Eng
set_option linter.unusedSimpArgs false
set_option linter.unusedVariables false

/-! ### bits in bytes -/
def bAt (L : List Bool) (i : Nat) : Nat := (L.getD i false).toNat
theorem bAt_le (L : List Bool) (i : Nat) : bAt L i ≤ 1 := by unfold bAt; cases L.getD i false <;> simp
theorem bAt_out {L : List Bool} {i : Nat} (h : L.length ≤ i) : bAt L i = 0 := by
  unfold bAt; rw [List.getD_eq_getElem?_getD, List.getElem?_eq_none h]; rfl
theorem bAt_snoc_lt {L : List Bool} {i : Nat} (x : Bool) (h : i < L.length) : bAt (L ++ [x]) i = bAt L i := by
  unfold bAt; rw [List.getD_eq_getElem?_getD, List.getElem?_append_left h, ← List.getD_eq_getElem?_getD]
theorem bAt_snoc_eq (L : List Bool) (x : Bool) : bAt (L ++ [x]) L.length = x.toNat := by
  unfold bAt; simp
def byteV (L : List Bool) (k : Nat) : Nat :=
  bAt L (8 * k) * 128 + bAt L (8 * k + 1) * 64 + bAt L (8 * k + 2) * 32 + bAt L (8 * k + 3) * 16 + bAt L (8 * k + 4) * 8 + bAt L (8 * k + 5) * 4 + bAt L (8 * k + 6) * 2 + bAt L (8 * k + 7)
theorem byteV_lt (L : List Bool) (k : Nat) : byteV L k < 256 := by
  unfold byteV
  have h := bAt_le L
  have h0 := h (8 * k); have h1 := h (8 * k + 1); have h2 := h (8 * k + 2); have h3 := h (8 * k + 3); have h4 := h (8 * k + 4); have h5 := h (8 * k + 5); have h6 := h (8 * k + 6); have h7 := h (8 * k + 7)
  omega
theorem byteV_snoc_lt {L : List Bool} {k : Nat} (x : Bool) (h : k < L.length / 8) : byteV (L ++ [x]) k = byteV L k := by
  unfold byteV
  rw [bAt_snoc_lt x (by omega), bAt_snoc_lt x (by omega), bAt_snoc_lt x (by omega), bAt_snoc_lt x (by omega), bAt_snoc_lt x (by omega), bAt_snoc_lt x (by omega), bAt_snoc_lt x (by omega), bAt_snoc_lt x (by omega)]
theorem byteV_snoc (L : List Bool) (x : Bool) : byteV (L ++ [x]) (L.length / 8) = byteV L (L.length / 8) + x.toNat * 2 ^ (7 - L.length % 8) ∧ byteV L (L.length / 8) % 2 ^ (8 - L.length % 8) = 0 := by
  have hs : ∀ i, bAt (L ++ [x]) i = if i < L.length then bAt L i else if i = L.length then x.toNat else 0 := fun i => by
    by_cases h : i < L.length
    · rw [if_pos h, bAt_snoc_lt x h]
    · rw [if_neg h]
      by_cases h' : i = L.length
      · rw [if_pos h', h', bAt_snoc_eq]
      · rw [if_neg h', bAt_out (by simp; omega)]
  have ho : ∀ i, L.length ≤ i → bAt L i = 0 := fun i h => bAt_out h
  have hn : L.length = 8 * (L.length / 8) + L.length % 8 := (Nat.div_add_mod _ 8).symm
  have hx : x.toNat ≤ 1 := by cases x <;> simp
  unfold byteV
  simp only [hs]
  generalize L.length / 8 = k at *
  have hr : L.length % 8 < 8 := Nat.mod_lt _ (by omega)
  generalize L.length % 8 = r at *
  rw [hn] at ho ⊢
  have h := bAt_le L
  have h0 := h (8 * k); have h1 := h (8 * k + 1); have h2 := h (8 * k + 2); have h3 := h (8 * k + 3); have h4 := h (8 * k + 4); have h5 := h (8 * k + 5); have h6 := h (8 * k + 6); have h7 := h (8 * k + 7)
  have o0 := ho (8 * k); have o1 := ho (8 * k + 1); have o2 := ho (8 * k + 2); have o3 := ho (8 * k + 3); have o4 := ho (8 * k + 4); have o5 := ho (8 * k + 5); have o6 := ho (8 * k + 6); have o7 := ho (8 * k + 7)
  generalize bAt L (8 * k) = a0 at *
  generalize bAt L (8 * k + 1) = a1 at *
  generalize bAt L (8 * k + 2) = a2 at *
  generalize bAt L (8 * k + 3) = a3 at *
  generalize bAt L (8 * k + 4) = a4 at *
  generalize bAt L (8 * k + 5) = a5 at *
  generalize bAt L (8 * k + 6) = a6 at *
  generalize bAt L (8 * k + 7) = a7 at *
  generalize x.toNat = q at *
  clear hs ho h hn
  rcases (by omega : r = 0 ∨ r = 1 ∨ r = 2 ∨ r = 3 ∨ r = 4 ∨ r = 5 ∨ r = 6 ∨ r = 7) with rfl | rfl | rfl | rfl | rfl | rfl | rfl | rfl <;> simp (disch := omega) only [if_pos, if_neg, ↓reduceIte] <;> constructor <;> simp only [Nat.reducePow, Nat.reduceSub, ↓reduceIte] <;> omega
theorem or_bit : ∀ r : Fin 8, ∀ y : Fin 256, y.val % 2 ^ (8 - r.val) = 0 → y.val ||| 2 ^ (7 - r.val) = y.val + 2 ^ (7 - r.val) := by decide +kernel


/-- The bytes that bits are packed in. -/
def pkTo (L : List Bool) (m : Nat) : List Int := (List.range m).map fun k => (byteV L k : Int)
def pk (L : List Bool) : List Int := pkTo L ((L.length + 7) / 8)
theorem pkTo_len (L : List Bool) (m : Nat) : (pkTo L m).length = m := by simp [pkTo]
theorem pk_len (L : List Bool) : (pk L).length = (L.length + 7) / 8 := pkTo_len _ _
theorem pkTo_get (L : List Bool) (m i : Nat) (h : i < m) : (pkTo L m).getD i 0 = byteV L i := by
  unfold pkTo
  rw [List.getD_eq_getElem?_getD, List.getElem?_map, List.getElem?_range h]
  rfl
theorem pkTo_set (L : List Bool) (x : Bool) : pkTo (L ++ [x]) (L.length / 8 + 1) = (pkTo L (L.length / 8 + 1)).set (L.length / 8) ((byteV L (L.length / 8) : Int) + (x.toNat * 2 ^ (7 - L.length % 8) : Nat)) := by
  unfold pkTo
  apply List.ext_getElem
  · simp
  · intro i h1 h2
    simp only [List.getElem_set, List.getElem_map, List.getElem_range]
    simp at h1
    by_cases h : L.length / 8 = i
    · subst h
      rw [if_pos rfl, (byteV_snoc L x).1]
      simp
    · rw [if_neg h, byteV_snoc_lt x (by omega)]
theorem pk_snoc (L : List Bool) (x : Bool) : pk (L ++ [x]) = pkTo (L ++ [x]) (L.length / 8 + 1) := by
  unfold pk
  congr 1
  simp
  omega
theorem pkTo_false (L : List Bool) (m : Nat) : pkTo (L ++ [false]) m = pkTo L m := by
  have h : ∀ i, bAt (L ++ [false]) i = bAt L i := fun i => by
    by_cases h : i < L.length
    · exact bAt_snoc_lt _ h
    · rw [bAt_out (L := L) (by omega)]
      by_cases h' : i = L.length
      · subst h'; rw [bAt_snoc_eq]; rfl
      · exact bAt_out (by simp; omega)
  unfold pkTo byteV
  simp only [h]
/-- With a byte more, where they are full. -/
theorem pkTo_next (L : List Bool) : pkTo L (L.length / 8 + 1) = if L.length % 8 = 0 then pk L ++ [0] else pk L := by
  unfold pk
  by_cases h : L.length % 8 = 0
  · rw [if_pos h, show (L.length + 7) / 8 = L.length / 8 by omega]
    unfold pkTo
    rw [List.range_succ, List.map_append]
    have h2 := (byteV_snoc L false).2
    rw [h, Nat.sub_zero] at h2
    have := byteV_lt L (L.length / 8)
    rw [show (2 : Nat) ^ 8 = 256 from rfl] at h2
    simp [show byteV L (L.length / 8) = 0 by omega]
  · rw [if_neg h, show (L.length + 7) / 8 = L.length / 8 + 1 by omega]
end Go.Proofs.Ythbcfjlalmhabaa
