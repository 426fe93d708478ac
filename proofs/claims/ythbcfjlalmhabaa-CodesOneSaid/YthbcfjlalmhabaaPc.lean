import Derived.Test.YthbcfjlalmhabaaPb
/-! Numbers with widths: plain facts. -/
namespace Go.Proofs.Ythbcfjlalmhabaa
open Go.Eng
set_option linter.unusedSimpArgs false
set_option linter.unusedVariables false
/-- A number, and how wide it is to be. -/
structure PutN where
  n : Nat
  m : Int
instance : Inhabited PutN := ⟨⟨0, 0⟩⟩
def putOk (x : PutN) : Prop := 0 ≤ x.m ∧ x.m ≤ 64 ∧ x.n < 2 ^ x.m.toNat
instance (x : PutN) : Decidable (putOk x) := by unfold putOk; exact inferInstance
theorem numOf_numBits (n : Nat) : ∀ m, numOf (numBits n m) = n % 2 ^ m
  | 0 => by simp [numBits, numOf, Nat.mod_one]
  | m + 1 => by
    have e : numBits n (m + 1) = [decide (n / 2 ^ m % 2 = 1)] ++ numBits n m := rfl
    rw [e, numOf_app, numOf_numBits n m, numBits_len]
    have h1 : numOf [decide (n / 2 ^ m % 2 = 1)] = n / 2 ^ m % 2 := by
      have := Nat.mod_lt (n / 2 ^ m) (show 0 < 2 by decide)
      unfold numOf
      by_cases h : n / 2 ^ m % 2 = 1
      · simp [h]
      · simp [h]; omega
    rw [h1, Nat.pow_succ, Nat.mod_mul]
    rw [Nat.mul_comm (2 ^ m), Nat.add_comm]
/-- The bits of numbers, one behind the other. -/
def kb (K : List PutN) : List Bool := K.flatMap fun x => numBits x.n x.m.toNat
theorem kb_snoc (K : List PutN) (x : PutN) : kb (K ++ [x]) = kb K ++ numBits x.n x.m.toNat := by simp [kb]
theorem kb_app (K J : List PutN) : kb (K ++ J) = kb K ++ kb J := by simp [kb]
/-- What was packed: its bits, and nought behind. -/
theorem bitsOf_pk (L : List Bool) : bitsOf (pk L) = L ++ List.replicate (8 * ((L.length + 7) / 8) - L.length) false := by
  have hl := bitsOf_len (pk L)
  rw [pk_len] at hl
  apply List.ext_getElem
  · rw [hl]; simp; omega
  · intro i h1 h2
    have hi : i < 8 * (pk L).length := by rw [pk_len]; omega
    have e := bitsOf_get (pk L) i hi
    rw [List.getD_eq_getElem?_getD, List.getElem?_eq_getElem h1] at e
    simp only [Option.getD_some] at e
    rw [e]
    unfold bitB
    have hg : (pk L).getD (i / 8) 0 = byteV L (i / 8) := pkTo_get L _ _ (by rw [pk_len] at hi; omega)
    rw [hg]
    have hbit : decide (((byteV L (i / 8) : Nat) : Int) / 2 ^ (7 - i % 8) % 2 = 1) = decide (byteV L (i / 8) / 2 ^ (7 - i % 8) % 2 = 1) := by
      rw [decide_eq_decide]
      have : (((byteV L (i / 8) : Nat) : Int) / 2 ^ (7 - i % 8) % 2) = ((byteV L (i / 8) / 2 ^ (7 - i % 8) % 2 : Nat) : Int) := by simp
      rw [this]; omega
    rw [hbit, byteV_bit L i]
    by_cases h : i < L.length
    · rw [List.getElem_append_left h]
      unfold bAt
      rw [List.getD_eq_getElem?_getD, List.getElem?_eq_getElem h]
      simp only [Option.getD_some]
      cases L[i] <;> simp
    · rw [List.getElem_append_right (by omega), List.getElem_replicate, bAt_out (by omega)]
      simp
theorem kb_take {K : List PutN} {j : Nat} (h : j < K.length) : kb (K.take (j + 1)) = kb (K.take j) ++ numBits (K.getD j default).n (K.getD j default).m.toNat := by
  rw [take_succ_getD K j h, kb_snoc]
theorem kb_split {K : List PutN} {j : Nat} (h : j < K.length) : kb K = kb (K.take j) ++ (numBits (K.getD j default).n (K.getD j default).m.toNat ++ kb (K.drop (j + 1))) := by
  have e : K = K.take (j + 1) ++ K.drop (j + 1) := (List.take_append_drop (j + 1) K).symm
  conv => lhs; rw [e, kb_app, kb_take h]
  rw [List.append_assoc]
theorem kb_read {K : List PutN} {j : Nat} (h : j < K.length) : ((bitsOf (pk (kb K))).drop (kb (K.take j)).length).take (K.getD j default).m.toNat = numBits (K.getD j default).n (K.getD j default).m.toNat := by
  rw [bitsOf_pk, kb_split h, List.append_assoc, List.drop_left, List.append_assoc, List.take_left' (numBits_len _ _)]
theorem kb_close (K : List PutN) : closeX (bitsOf (pk (kb K))) (kb K).length = 0 := by
  unfold closeX
  have hl := bitsOf_len (pk (kb K))
  rw [pk_len] at hl
  rw [if_neg (by omega), if_neg]
  rw [bitsOf_pk, List.drop_left]
  simp
end Go.Proofs.Ythbcfjlalmhabaa
