import Derived.Test.YteookgjmohokiaaGreatE7
namespace Go.Proofs.YteookgjmohokiaaGreat
open Go.Eng
set_option linter.unusedSimpArgs false
set_option linter.unusedVariables false
def packN (w : Nat) : List Nat → Nat
  | [] => 0
  | x :: l => x + 2 ^ w * packN w l
def words (m X : Nat) : List Int := (List.range m).map fun k => ((X / 2 ^ (64 * k) % 2 ^ 64 : Nat) : Int)
theorem words_len (m X : Nat) : (words m X).length = m := by simp [words]
theorem packN_bit {w : Nat} (hw : 0 < w) : ∀ (l : List Nat) (j : Nat), (∀ x ∈ l, x < 2 ^ w) → (packN w l).testBit j = (l.getD (j / w) 0).testBit (j % w)
  | [], j, _ => by simp [packN]
  | x :: l, j, h => by
    have hx := h x (by simp)
    have ih := packN_bit hw l (j - w) (fun y hy => h y (by simp [hy]))
    show (x + 2 ^ w * packN w l).testBit j = _
    rw [Nat.add_comm, Nat.testBit_two_pow_mul_add _ hx]
    by_cases hj : j < w
    · rw [if_pos hj, Nat.div_eq_of_lt hj, Nat.mod_eq_of_lt hj]; rfl
    · rw [if_neg hj, ih]
      have e1 : j / w = (j - w) / w + 1 := by rw [Nat.div_eq_sub_div hw (by omega)]
      have e2 : j % w = (j - w) % w := by rw [Nat.mod_eq_sub_mod (by omega)]
      rw [e1, e2, List.getD_cons_succ]
def wordOf (X k : Nat) : Nat := X / 2 ^ (64 * k) % 2 ^ 64
theorem wordOf_bit (X k t : Nat) : (wordOf X k).testBit t = (decide (t < 64) && X.testBit (64 * k + t)) := by
  unfold wordOf
  rw [Nat.testBit_mod_two_pow, Nat.testBit_div_two_pow, Nat.add_comm]
theorem getW (X k b w : Nat) (hb : b < 64) (hw : w ≤ 32) :
    (wordOf X k / 2 ^ b ||| (if 64 < b + w then wordOf X (k + 1) * 2 ^ (64 - b) % 2 ^ 64 else 0)) % 2 ^ w = X / 2 ^ (64 * k + b) % 2 ^ w := by
  apply Nat.eq_of_testBit_eq
  intro j
  rw [Nat.testBit_mod_two_pow, Nat.testBit_mod_two_pow, Nat.testBit_or, Nat.testBit_div_two_pow, Nat.testBit_div_two_pow, wordOf_bit]
  by_cases hj : j < w
  · simp only [hj, decide_true, Bool.true_and]
    by_cases h1 : j + b < 64
    · rw [show 64 * k + (j + b) = j + (64 * k + b) by omega]
      simp only [h1, decide_true, Bool.true_and]
      split
      · rw [Nat.testBit_mod_two_pow, Nat.testBit_mul_two_pow]
        have : ¬ (64 - b ≤ j) := by omega
        simp [this]
      · simp
    · rw [if_pos (by omega), Nat.testBit_mod_two_pow, Nat.testBit_mul_two_pow, wordOf_bit]
      have h2 : j < 64 := by omega
      have h3 : 64 - b ≤ j := by omega
      have h4 : j - (64 - b) < 64 := by omega
      rw [show 64 * (k + 1) + (j - (64 - b)) = j + (64 * k + b) by omega]
      simp [h1, h2, h3, h4]
  · simp [hj]
def SetBits (X Y p w n : Nat) : Prop := ∀ j, Y.testBit j = if p ≤ j ∧ j < p + w then n.testBit (j - p) else X.testBit j
theorem packN_set {w i n : Nat} {l : List Nat} (hw : 0 < w) (hi : i < l.length) (hl : ∀ x ∈ l, x < 2 ^ w) (hn : n < 2 ^ w) : SetBits (packN w l) (packN w (l.set i n)) (i * w) w n := by
  intro j
  have hl' : ∀ x ∈ l.set i n, x < 2 ^ w := fun x hx => by
    rcases List.mem_or_eq_of_mem_set hx with h | h
    · exact hl x h
    · rw [h]; exact hn
  rw [packN_bit hw _ _ hl', packN_bit hw _ _ hl]
  by_cases hj : j / w = i
  · have h1 : i * w ≤ j ∧ j < i * w + w := by
      subst hj
      have a1 := Nat.div_add_mod j w
      have a2 := Nat.mod_lt j hw
      rw [Nat.mul_comm] at a1
      omega
    rw [if_pos h1, hj]
    have e : (l.set i n).getD i 0 = n := by simp [List.getD_eq_getElem?_getD, hi]
    rw [e]
    congr 1
    have a1 := Nat.div_add_mod j w
    rw [hj, Nat.mul_comm] at a1
    omega
  · have h1 : ¬ (i * w ≤ j ∧ j < i * w + w) := by
      rintro ⟨h1, h2⟩
      apply hj
      have a1 := (Nat.le_div_iff_mul_le hw).2 h1
      have a2 := (Nat.div_lt_iff_lt_mul hw).2 (show j < (i + 1) * w by rw [Nat.add_mul]; omega)
      omega
    rw [if_neg h1]
    have e : (l.set i n).getD (j / w) 0 = l.getD (j / w) 0 := by
      simp only [List.getD_eq_getElem?_getD]
      rw [List.getElem?_set_ne (by omega)]
    rw [e]
theorem setW0 {X Y k b w n : Nat} (hS : SetBits X Y (64 * k + b) w n) (hb : b < 64) (hn : n < 2 ^ w) :
    ((wordOf X k ^^^ (wordOf X k &&& ((2 ^ w - 1) * 2 ^ b % 2 ^ 64))) ||| (n * 2 ^ b % 2 ^ 64)) = wordOf Y k := by
  apply Nat.eq_of_testBit_eq
  intro t
  rw [Nat.testBit_or, Nat.testBit_xor, Nat.testBit_and, Nat.testBit_mod_two_pow, Nat.testBit_mod_two_pow, Nat.testBit_mul_two_pow, Nat.testBit_mul_two_pow, Nat.testBit_two_pow_sub_one, wordOf_bit, wordOf_bit, hS]
  by_cases ht : t < 64
  · simp only [ht, decide_true, Bool.true_and]
    by_cases h1 : b ≤ t
    · have e : 64 * k + t - (64 * k + b) = t - b := by omega
      by_cases h2 : t - b < w
      · rw [if_pos (by omega), e]
        simp [h1, h2]
      · rw [if_neg (by omega)]
        have : n.testBit (t - b) = false := Nat.testBit_lt_two_pow (Nat.lt_of_lt_of_le hn (Nat.pow_le_pow_right (by decide) (by omega)))
        simp [h1, h2, this]
    · rw [if_neg (by omega)]
      simp [h1]
  · simp [ht]
theorem setW1 {X Y k b w n : Nat} (hS : SetBits X Y (64 * k + b) w n) (hb : b < 64) (hw : w ≤ 32) (hbw : 64 < b + w) (hn : n < 2 ^ w) :
    ((wordOf X (k + 1) ^^^ (wordOf X (k + 1) &&& ((2 ^ w - 1) / 2 ^ (64 - b)))) ||| (n / 2 ^ (64 - b))) = wordOf Y (k + 1) := by
  apply Nat.eq_of_testBit_eq
  intro t
  rw [Nat.testBit_or, Nat.testBit_xor, Nat.testBit_and, Nat.testBit_div_two_pow, Nat.testBit_div_two_pow, Nat.testBit_two_pow_sub_one, wordOf_bit, wordOf_bit, hS]
  by_cases ht : t < 64
  · simp only [ht, decide_true, Bool.true_and]
    by_cases h2 : t + (64 - b) < w
    · rw [if_pos (by omega), show 64 * (k + 1) + t - (64 * k + b) = t + (64 - b) by omega]
      simp [h2]
    · rw [if_neg (by omega)]
      have : n.testBit (t + (64 - b)) = false := Nat.testBit_lt_two_pow (Nat.lt_of_lt_of_le hn (Nat.pow_le_pow_right (by decide) (by omega)))
      simp [h2, this]
  · have : n.testBit (t + (64 - b)) = false := Nat.testBit_lt_two_pow (Nat.lt_of_lt_of_le hn (Nat.pow_le_pow_right (by decide) (by omega)))
    simp [ht, this]
theorem setW_other {X Y k b w n k' : Nat} (hS : SetBits X Y (64 * k + b) w n) (hb : b < 64) (hw : w ≤ 32) (h1 : k' ≠ k) (h2 : 64 < b + w → k' ≠ k + 1) : wordOf Y k' = wordOf X k' := by
  apply Nat.eq_of_testBit_eq
  intro t
  rw [wordOf_bit, wordOf_bit, hS]
  by_cases ht : t < 64
  · rw [if_neg]
    rintro ⟨a1, a2⟩
    by_cases h3 : k' = k + 1
    · have := fun h => h2 h h3
      omega
    · omega
  · simp [ht]
theorem words_zero (m : Nat) : words m 0 = List.replicate m 0 := by
  unfold words
  apply List.ext_getElem
  · simp
  · intro i h1 h2
    simp
theorem words_get {m X k : Nat} (h : k < m) : (words m X).getD k 0 = (wordOf X k : Int) := by
  unfold words
  rw [List.getD_eq_getElem?_getD, List.getElem?_map, List.getElem?_range h]
  rfl
theorem wordOf_lt (X k : Nat) : wordOf X k < 18446744073709551616 := Nat.mod_lt _ (by decide)
theorem wrap_nat (y : Nat) : IntKind.u64.wrap (y : Int) = ((y % 2 ^ 64 : Nat) : Int) := by
  unfold IntKind.wrap
  have e : IntKind.u64.bits = 64 := rfl
  have e2 : IntKind.u64.signed = false := rfl
  rw [e, e2]
  simp
theorem wrap_mul (x k : Nat) : IntKind.u64.wrap ((x : Int) * 2 ^ k) = ((x * 2 ^ k % 2 ^ 64 : Nat) : Int) := by
  rw [show ((x : Int) * 2 ^ k) = ((x * 2 ^ k : Nat) : Int) by simp, wrap_nat]
theorem div_nat (x k : Nat) : (x : Int) / 2 ^ k = ((x / 2 ^ k : Nat) : Int) := by simp
theorem mod_lt64 (y : Nat) : y % 2 ^ 64 < 18446744073709551616 := Nat.mod_lt _ (by decide)
theorem div_lt64 {y k : Nat} (h : y < 18446744073709551616) : y / 2 ^ k < 18446744073709551616 := Nat.lt_of_le_of_lt (Nat.div_le_self _ _) h
theorem or_lt64 {x y : Nat} (hx : x < 18446744073709551616) (hy : y < 18446744073709551616) : x ||| y < 18446744073709551616 := Nat.or_lt_two_pow (n := 64) hx hy
theorem and_mask {x w : Nat} (hx : x < 18446744073709551616) (hw : 2 ^ w ≤ 4294967296) : bitK .and .u64 (x : Int) ((2 ^ w - 1 : Nat) : Int) = ((x % 2 ^ w : Nat) : Int) := by
  rw [and_u64 hx (by omega), Nat.and_two_pow_sub_one_eq_mod]
end Go.Proofs.YteookgjmohokiaaGreat

namespace Go.Proofs.YteookgjmohokiaaGreat
open Go.Eng
set_option linter.unusedSimpArgs false
set_option linter.unusedVariables false
def nl (N : List Nat) : List Int := N.map fun n : Nat => (n : Int)
theorem nl_len (N : List Nat) : (nl N).length = N.length := by simp [nl]
theorem nl_get (N : List Nat) (i : Nat) : (nl N).getD i 0 = ((N.getD i 0 : Nat) : Int) := by
  simp only [nl, List.getD_eq_getElem?_getD, List.getElem?_map]
  cases N[i]? <;> rfl
theorem nl_inj {N M : List Nat} : nl N = nl M ↔ N = M := by
  constructor
  · intro h
    have h2 : (nl N).map Int.toNat = (nl M).map Int.toNat := by rw [h]
    simpa [nl, List.map_map, Function.comp_def] using h2
  · rintro rfl; rfl
theorem getD_lt {w : Nat} {N : List Nat} (h : ∀ x ∈ N, x < 2 ^ w) (i : Nat) : N.getD i 0 < 2 ^ w := by
  rw [List.getD_eq_getElem?_getD]
  cases hx : N[i]? with
  | none => exact Nat.two_pow_pos w
  | some x => exact h x (List.mem_of_getElem? hx)
theorem packN_get {w i : Nat} {l : List Nat} (hw : 0 < w) (hl : ∀ x ∈ l, x < 2 ^ w) : packN w l / 2 ^ (i * w) % 2 ^ w = l.getD i 0 := by
  apply Nat.eq_of_testBit_eq
  intro j
  rw [Nat.testBit_mod_two_pow, Nat.testBit_div_two_pow, packN_bit hw _ _ hl]
  by_cases hj : j < w
  · have e1 : (j + i * w) / w = i := by rw [Nat.add_mul_div_right _ _ hw, Nat.div_eq_of_lt hj, Nat.zero_add]
    have e2 : (j + i * w) % w = j := by rw [Nat.add_mul_mod_self_right, Nat.mod_eq_of_lt hj]
    rw [e1, e2]
    simp [hj]
  · have : (l.getD i 0).testBit j = false := Nat.testBit_lt_two_pow (Nat.lt_of_lt_of_le (getD_lt hl i) (Nat.pow_le_pow_right (by decide) (by omega)))
    rw [this]
    simp [hj]
def nwd (n w : Nat) : Nat := (n * w + 63) / 64
theorem words_ext {m : Nat} {L : List Int} {Y : Nat} (hl : L.length = m) (h : ∀ k, k < m → L.getD k 0 = (wordOf Y k : Int)) : L = words m Y := by
  apply List.ext_getElem (by rw [hl, words_len])
  intro i h1 h2
  have := h i (by omega)
  rw [← words_get (m := m) (by omega)] at this
  simpa [List.getD_eq_getElem?_getD, h1, h2] using this
theorem getD_set_eq {L : List Int} {k : Nat} {x : Int} (h : k < L.length) : (L.set k x).getD k 0 = x := by simp [List.getD_eq_getElem?_getD, h]
theorem getD_set_ne {L : List Int} {k j : Nat} {x : Int} (h : k ≠ j) : (L.set k x).getD j 0 = L.getD j 0 := by simp only [List.getD_eq_getElem?_getD]; rw [List.getElem?_set_ne h]
theorem words_set1 {m X Y k b w n : Nat} (hk : k < m) (hS : SetBits X Y (64 * k + b) w n) (hb : b < 64) (hw : w ≤ 32) (h : ¬ 64 < b + w) : (words m X).set k (wordOf Y k : Int) = words m Y := by
  apply words_ext (by rw [List.length_set, words_len])
  intro j hj
  by_cases e : k = j
  · subst e
    rw [getD_set_eq (by rw [words_len]; exact hk)]
  · rw [getD_set_ne e, words_get hj, setW_other hS hb hw (by omega) (fun h' => absurd h' h)]
theorem words_set2 {m X Y k b w n : Nat} (hk : k + 1 < m) (hS : SetBits X Y (64 * k + b) w n) (hb : b < 64) (hw : w ≤ 32) : ((words m X).set k (wordOf Y k : Int)).set (k + 1) (wordOf Y (k + 1) : Int) = words m Y := by
  apply words_ext (by rw [List.length_set, List.length_set, words_len])
  intro j hj
  by_cases e : k + 1 = j
  · subst e
    rw [getD_set_eq (by rw [List.length_set, words_len]; exact hk)]
  · rw [getD_set_ne e]
    by_cases e2 : k = j
    · subst e2
      rw [getD_set_eq (by rw [words_len]; omega)]
    · rw [getD_set_ne e2, words_get hj, setW_other hS hb hw (by omega) (fun _ => by omega)]
theorem xor_lt64 {x y : Nat} (hx : x < 18446744073709551616) (hy : y < 18446744073709551616) : x ^^^ (x &&& y) < 18446744073709551616 :=
  Nat.xor_lt_two_pow (n := 64) hx (Nat.lt_of_le_of_lt Nat.and_le_left hx)
theorem mulP_lt {n i w : Nat} (hi : i < n) : i * w + w ≤ n * w := by
  have := Nat.mul_le_mul_right w (show i + 1 ≤ n by omega)
  rw [Nat.add_mul, Nat.one_mul] at this
  exact this
theorem takeI_succ {l m : List Int} {i : Nat} (h1 : i < l.length) (h2 : i < m.length) : (l.take (i + 1) = m.take (i + 1)) ↔ (l.take i = m.take i ∧ l.getD i 0 = m.getD i 0) := by
  rw [List.take_add_one, List.take_add_one]
  simp only [List.getD_eq_getElem?_getD, List.getElem?_eq_getElem h1, List.getElem?_eq_getElem h2, Option.toList_some, Option.getD_some]
  constructor
  · intro h
    have := List.append_inj h (by simp; omega)
    simpa using this
  · rintro ⟨a, b⟩; rw [a, b]
end Go.Proofs.YteookgjmohokiaaGreat

namespace Go.Proofs.YteookgjmohokiaaGreat
open Go.Eng
set_option linter.unusedSimpArgs false
set_option linter.unusedVariables false
def wbits (w : Nat) (N : List Nat) : List Bool := N.flatMap fun x => numBits x w
theorem wbits_len (w : Nat) : ∀ N : List Nat, (wbits w N).length = N.length * w
  | [] => by simp [wbits]
  | x :: N => by
    have ih := wbits_len w N
    show (numBits x w ++ wbits w N).length = _
    rw [List.length_append, numBits_len, ih, List.length_cons, Nat.add_mul]; omega
theorem wbits_app (w : Nat) (N M : List Nat) : wbits w (N ++ M) = wbits w N ++ wbits w M := by simp [wbits]
theorem take_succ_N {N : List Nat} {i : Nat} (h : i < N.length) : N.take (i + 1) = N.take i ++ [N.getD i 0] := by
  rw [List.take_add_one, List.getD_eq_getElem?_getD, List.getElem?_eq_getElem h]; rfl
theorem wbits_take {w i : Nat} {N : List Nat} (h : i < N.length) : wbits w (N.take (i + 1)) = wbits w (N.take i) ++ numBits (N.getD i 0) w := by
  rw [take_succ_N h, wbits_app]; simp [wbits]
theorem numBits_add (a r m : Nat) : numBits (a * 2 ^ m + r) m = numBits r m := by
  apply List.ext_getElem (by rw [numBits_len, numBits_len])
  intro i h1 h2
  rw [numBits_len] at h1
  rw [numBits_get _ _ _ h1, numBits_get _ _ _ h1, decide_eq_decide]
  have e : a * 2 ^ m + r = r + 2 ^ (m - 1 - i) * (2 ^ i * a * 2) := by
    have : 2 ^ m = 2 ^ (m - 1 - i) * 2 ^ i * 2 := by rw [← Nat.pow_add, ← Nat.pow_succ]; congr 1; omega
    rw [this, Nat.add_comm]
    congr 1
    simp only [Nat.mul_assoc, Nat.mul_comm, Nat.mul_left_comm]
  rw [e, Nat.add_mul_div_left _ _ (Nat.two_pow_pos _), Nat.add_mul_mod_self_right]
theorem numBits_numOf : ∀ l : List Bool, numBits (numOf l) l.length = l
  | [] => rfl
  | x :: l => by
    have ih := numBits_numOf l
    have hl := numOf_lt l
    have e : numOf (x :: l) = x.toNat * 2 ^ l.length + numOf l := by
      have := numOf_app [x] l
      simpa [numOf] using this
    show decide (numOf (x :: l) / 2 ^ l.length % 2 = 1) :: numBits (numOf (x :: l)) l.length = x :: l
    rw [e, numBits_add, ih]
    congr 1
    rw [Nat.mul_comm, Nat.mul_add_div (Nat.two_pow_pos _), Nat.div_eq_of_lt hl]
    cases x <;> simp
def chunk (L : List Bool) (p w n : Nat) : List Nat := (List.range n).map fun i => numOf ((L.drop (p + i * w)).take w)
theorem chunk_succ (L : List Bool) (p w n : Nat) : chunk L p w (n + 1) = chunk L p w n ++ [numOf ((L.drop (p + n * w)).take w)] := by simp [chunk, List.range_succ]
theorem numOf_take_lt (L : List Bool) (w : Nat) : numOf (L.take w) < 2 ^ w := Nat.lt_of_lt_of_le (numOf_lt _) (Nat.pow_le_pow_right (by decide) (by simp; omega))
theorem packN_rep (w : Nat) : ∀ n, packN w (List.replicate n 0) = 0
  | 0 => rfl
  | n + 1 => by
    show 0 + 2 ^ w * packN w (List.replicate n 0) = 0
    rw [packN_rep w n]; simp
end Go.Proofs.YteookgjmohokiaaGreat
