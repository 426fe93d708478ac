import Derived.Test.YthbcfjlalmhabaaPe
/-! What was written is read back: plain facts. -/
namespace Go.Proofs.Ythbcfjlalmhabaa
open Go.Eng
set_option linter.unusedSimpArgs false
set_option linter.unusedVariables false
theorem numBits_zero (m : Nat) : numBits 0 m = List.replicate m false := by
  induction m with
  | zero => rfl
  | succ m ih => 
    have e : numBits 0 (m + 1) = decide (0 / 2 ^ m % 2 = 1) :: numBits 0 m := rfl
    rw [e, ih, List.replicate_succ]
    simp
theorem zl_rep (k : Nat) (T : List Bool) : zl (List.replicate k false ++ true :: T) = k := by
  induction k with
  | zero => rfl
  | succ k ih => rw [List.replicate_succ, List.cons_append]; show zl _ + 1 = _; rw [ih]
theorem numBits_top {n : Nat} (h0 : n ≠ 0) : numBits n (bl n) = true :: numBits n (bl n - 1) := by
  have hb := bl_pos h0
  have h1 := bl_le h0
  have h2 := bl_lt n
  obtain ⟨k, hk⟩ : ∃ k, bl n = k + 1 := ⟨bl n - 1, by omega⟩
  rw [hk] at h1 h2 ⊢
  have e : numBits n (k + 1) = decide (n / 2 ^ k % 2 = 1) :: numBits n k := rfl
  rw [e]
  simp only [Nat.add_sub_cancel] at h1 ⊢
  have hd : n / 2 ^ k = 1 := by
    have hp := Nat.two_pow_pos k
    have a1 := (Nat.le_div_iff_mul_le hp).2 (show 1 * 2 ^ k ≤ n by omega)
    have a2 := (Nat.div_lt_iff_lt_mul hp).2 (show n < 2 * 2 ^ k by rw [Nat.pow_succ] at h2; omega)
    omega
  rw [hd]
  rfl
theorem drop_app (A B : List Bool) (k : Nat) : (A ++ B).drop (A.length + k) = B.drop k := by
  rw [List.drop_append, List.drop_eq_nil_of_le (by omega)]; simp
theorem gX_back {A T : List Bool} {n : Nat} (h0 : n ≠ 0) (hn : n < 18446744073709551616) : gX (A ++ (gammaB n ++ T)) A.length = (n, A.length + (gammaB n).length, 0) := by
  have hb := bl_pos h0
  have hb2 := bl_le_of (n := n) (k := 64) hn
  have h1 := bl_le h0
  have h2 := bl_lt n
  have hgl := gammaB_len h0
  have e : gammaB n ++ T = List.replicate (bl n - 1) false ++ true :: (numBits n (bl n - 1) ++ T) := by
    unfold gammaB
    rw [numBits_top h0, numBits_zero]
    simp
  have hz : zr (A ++ (gammaB n ++ T)) A.length = bl n - 1 := by
    unfold zr
    rw [List.drop_left, e, zl_rep]
  have hlen : (A ++ (gammaB n ++ T)).length = A.length + (2 * bl n - 1 + T.length) := by simp [hgl]
  rw [(gX_ok hz (by omega) (by rw [hlen]; omega)).1]
  have hd : (A ++ (gammaB n ++ T)).drop (A.length + (bl n - 1) + 1) = numBits n (bl n - 1) ++ T := by
    rw [Nat.add_assoc, drop_app, e]
    have : (List.replicate (bl n - 1) false).length = bl n - 1 := by simp
    conv => lhs; rw [show bl n - 1 + 1 = (List.replicate (bl n - 1) false).length + 1 by simp]
    rw [drop_app]
    rfl
  rw [hd, List.take_left' (numBits_len _ _), numOf_numBits]
  have hm : n % 2 ^ (bl n - 1) = n - 2 ^ (bl n - 1) := by
    obtain ⟨k, hk⟩ : ∃ k, bl n = k + 1 := ⟨bl n - 1, by omega⟩
    rw [hk] at h1 h2 ⊢
    simp only [Nat.add_sub_cancel] at h1 ⊢
    rw [Nat.pow_succ] at h2
    rw [Nat.mod_eq_sub_mod h1, Nat.mod_eq_of_lt (by omega)]
  rw [hm]
  congr 1
  · omega
  · congr 1; omega
theorem dX_back {A T : List Bool} {n : Nat} (h0 : n ≠ 0) (hn : n < 18446744073709551616) : dX (A ++ (deltaB n ++ T)) A.length = (n, A.length + (deltaB n).length, 0) := by
  have hb := bl_pos h0
  have hb2 := bl_le_of (n := n) (k := 64) hn
  have h1 := bl_le h0
  have h2 := bl_lt n
  have hgl := gammaB_len (n := bl n) (by omega)
  have e : deltaB n ++ T = gammaB (bl n) ++ (numBits (n - 2 ^ (bl n - 1)) (bl n - 1) ++ T) := by unfold deltaB; simp
  have hdl : (deltaB n).length = (gammaB (bl n)).length + (bl n - 1) := by unfold deltaB; simp [numBits_len]
  rw [e, hdl]
  have hg := gX_back (A := A) (T := numBits (n - 2 ^ (bl n - 1)) (bl n - 1) ++ T) (n := bl n) (by omega) (by omega)
  unfold dX
  rw [hg]
  simp only [if_pos]
  rw [if_neg (by omega), if_pos (by simp [numBits_len]; omega)]
  have hd : (A ++ (gammaB (bl n) ++ (numBits (n - 2 ^ (bl n - 1)) (bl n - 1) ++ T))).drop (A.length + (gammaB (bl n)).length) = numBits (n - 2 ^ (bl n - 1)) (bl n - 1) ++ T := by
    rw [drop_app, List.drop_left]
  rw [hd, List.take_left' (numBits_len _ _), numOf_numBits]
  have h3 : n < 2 ^ (bl n - 1) * 2 := by rw [← Nat.pow_succ, show (bl n - 1).succ = bl n by omega]; exact h2
  rw [Nat.mod_eq_of_lt (by omega)]
  congr 1
  · omega
  · congr 1; omega
theorem vXj_back {T : List Bool} : ∀ (n j i : Nat) (A : List Bool) (a : Nat), j + i = 10 → n < 2 ^ (64 - 7 * i) → (0 < i → n ≠ 0) → i ≤ 9 →
    vXj (A ++ (varB n ++ T)) j i A.length a = (a + n * 2 ^ (7 * i), A.length + (varB n).length, 0) := by
  intro n
  induction n using Nat.strongRecOn with
  | ind n ih =>
    intro j i A a hj hn h0 hi
    obtain ⟨j, rfl⟩ : ∃ j', j = j' + 1 := ⟨j - 1, by omega⟩
    by_cases h : n < 128
    · rw [varB_lt h]
      have hx : numOf (((A ++ (numBits n 8 ++ T)).drop A.length).take 8) = n := by
        rw [List.drop_left, List.take_left' (numBits_len _ _), numOf_numBits]
        omega
      rw [vXj_ok (by simp [numBits_len]) hx, if_neg, if_pos h, Nat.mod_eq_of_lt h, numBits_len]
      rintro (⟨rfl, h1⟩ | ⟨h1, h2⟩)
      · rw [Nat.mod_eq_of_lt h] at h1; omega
      · exact h0 h1 h2
    · rw [varB_ge h]
      have hi8 : i ≤ 8 := by
        by_cases h9 : i = 9
        · subst h9; omega
        · omega
      have hx : numOf (((A ++ (numBits (128 + n % 128) 8 ++ varB (n / 128) ++ T)).drop A.length).take 8) = 128 + n % 128 := by
        rw [List.drop_left, List.append_assoc, List.take_left' (numBits_len _ _), numOf_numBits]
        omega
      rw [vXj_ok (by simp [numBits_len]) hx, if_neg (by omega), if_neg (by omega)]
      have hn' : n / 128 < 2 ^ (64 - 7 * (i + 1)) := by
        rw [Nat.div_lt_iff_lt_mul (by decide)]
        have : 2 ^ (64 - 7 * (i + 1)) * 128 = 2 ^ (64 - 7 * i) := by
          rw [show (128 : Nat) = 2 ^ 7 from rfl, ← Nat.pow_add]
          congr 1; omega
        omega
      have := ih (n / 128) (by omega) j (i + 1) (A ++ numBits (128 + n % 128) 8) (a + (128 + n % 128) % 128 * 2 ^ (7 * i)) (by omega) hn' (fun _ => by omega) (by omega)
      rw [List.length_append, numBits_len] at this
      have e : A ++ (numBits (128 + n % 128) 8 ++ varB (n / 128) ++ T) = A ++ numBits (128 + n % 128) 8 ++ (varB (n / 128) ++ T) := by simp
      rw [e, this, List.length_append, numBits_len]
      have hm : (128 + n % 128) % 128 = n % 128 := by omega
      rw [hm, pow7_succ]
      have hmul : n % 128 * 2 ^ (7 * i) + n / 128 * (128 * 2 ^ (7 * i)) = n * 2 ^ (7 * i) := by
        rw [← Nat.mul_assoc, ← Nat.add_mul]
        congr 1
        omega
      congr 1
      · omega
      · congr 1; omega
theorem vX_back {A T : List Bool} {n : Nat} (hn : n < 18446744073709551616) : vX (A ++ (varB n ++ T)) A.length = (n, A.length + (varB n).length, 0) := by
  unfold vX
  rw [vXj_back n 10 0 A 0 rfl hn (fun h => absurd h (by decide)) (by decide)]
  simp
/-- Pieces, one behind the other. -/
def cat (f : Nat → List Bool) : Nat → List Bool
  | 0 => []
  | i + 1 => cat f i ++ f i
theorem cat_split {f : Nat → List Bool} : ∀ {n i : Nat}, i < n → ∃ T, cat f n = cat f i ++ (f i ++ T)
  | 0, i, h => by omega
  | n + 1, i, h => by
    by_cases he : i = n
    · subst he; exact ⟨[], by simp [cat]⟩
    · obtain ⟨T, hT⟩ := cat_split (f := f) (n := n) (i := i) (by omega)
      exact ⟨T ++ f n, by show cat f n ++ f n = _; rw [hT]; simp⟩
theorem cat_read {f : Nat → List Bool} {n i : Nat} (h : i < n) : ∃ T, bitsOf (pk (cat f n)) = cat f i ++ (f i ++ T) := by
  obtain ⟨T, hT⟩ := cat_split (f := f) h
  rw [bitsOf_pk]
  exact ⟨T ++ List.replicate (8 * (((cat f n).length + 7) / 8) - (cat f n).length) false, by conv => lhs; rw [hT]
                                                                                             simp [hT]⟩
theorem pk_close (L : List Bool) : closeX (bitsOf (pk L)) L.length = 0 := by
  unfold closeX
  have hl := bitsOf_len (pk L)
  rw [pk_len] at hl
  rw [if_neg (by omega), if_neg]
  rw [bitsOf_pk, List.drop_left]
  simp
theorem cat_le {f : Nat → List Bool} {m : Nat} (h : ∀ i, (f i).length ≤ m) : ∀ n, (cat f n).length ≤ m * n
  | 0 => by simp [cat]
  | n + 1 => by
    have := cat_le h n
    have := h n
    simp only [cat, List.length_append, Nat.mul_add]
    omega
/-- A number in one of three codes. -/
def piece (k : Int) (x : Nat) : List Bool := if k = 0 then gammaB x else if k = 1 then deltaB x else varB x
theorem piece_len {k : Int} {x : Nat} (h0 : x ≠ 0) (hx : x < 18446744073709551616) : (piece k x).length ≤ 200 := by
  have hb := bl_pos h0
  have hb2 := bl_le_of (n := x) (k := 64) hx
  have hb4 := bl_le_of (n := bl x) (k := 7) (by omega)
  have h1 := gammaB_len h0
  have h2 := deltaB_len h0
  have h3 := varB_len x
  unfold piece
  split
  · omega
  · split
    · omega
    · omega
theorem or_one {x : Nat} (hx : x < 18446744073709551616) : bitK .or .u64 (x : Int) 1 = ((x ||| 1 : Nat) : Int) := or_u64 (y := 1) hx (by decide)
theorem or_one_pos (x : Nat) : x ||| 1 ≠ 0 := by
  have := @Nat.right_le_or x 1
  omega
theorem or_one_lt {x : Nat} (hx : x < 18446744073709551616) : x ||| 1 < 18446744073709551616 := Nat.or_lt_two_pow (n := 64) hx (by decide)
end Go.Proofs.Ythbcfjlalmhabaa
