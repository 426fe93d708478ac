import Derived.Test.YthbcfjlalmhabaaPh
/-! Numbers packed into words: lists of numbers, plain facts. -/
namespace Go.Proofs.Ythbcfjlalmhabaa
open Go.Eng
set_option linter.unusedSimpArgs false
set_option linter.unusedVariables false
/-- Plain numbers as integers. -/
def nl (N : List Nat) : List Int := N.map fun n : Nat => (n : Int)
theorem nl_len (N : List Nat) : (nl N).length = N.length := by simp [nl]
theorem nl_get (N : List Nat) (i : Nat) : (nl N).getD i 0 = ((N.getD i 0 : Nat) : Int) := by
  simp only [nl, List.getD_eq_getElem?_getD, List.getElem?_map]
  cases N[i]? <;> rfl
theorem nl_set (N : List Nat) (i x : Nat) : (nl N).set i (x : Int) = nl (N.set i x) := by simp [nl, List.map_set]
theorem nl_inj {N M : List Nat} : nl N = nl M ↔ N = M := by
  constructor
  · intro h
    have h2 : (nl N).map Int.toNat = (nl M).map Int.toNat := by rw [h]
    simpa [nl, List.map_map, Function.comp_def] using h2
  · rintro rfl; rfl
theorem nl_rep (n : Nat) : List.replicate n (0 : Int) = nl (List.replicate n 0) := by simp [nl]
theorem getD_lt {w : Nat} {N : List Nat} (h : ∀ x ∈ N, x < 2 ^ w) (i : Nat) : N.getD i 0 < 2 ^ w := by
  rw [List.getD_eq_getElem?_getD]
  cases hx : N[i]? with
  | none => exact Nat.two_pow_pos w
  | some x => exact h x (List.mem_of_getElem? hx)
theorem packN_get {w i : Nat} {l : List Nat} (hw : 0 < w) (hl : ∀ x ∈ l, x < 2 ^ w) : packN w l / 2 ^ (i * w) % 2 ^ w = l.getD i 0 := by
  apply Nat.eq_of_testBit_eq
  intro j
  rw [Nat.testBit_mod_two_pow, Nat.testBit_div_two_pow, packN_bit hw _ _ hl]
  by_cases hj : j < w
  · have e1 : (j + i * w) / w = i := by rw [Nat.add_mul_div_right _ _ hw, Nat.div_eq_of_lt hj, Nat.zero_add]
    have e2 : (j + i * w) % w = j := by rw [Nat.add_mul_mod_self_right, Nat.mod_eq_of_lt hj]
    rw [e1, e2]
    simp [hj]
  · have : (l.getD i 0).testBit j = false := Nat.testBit_lt_two_pow (Nat.lt_of_lt_of_le (getD_lt hl i) (Nat.pow_le_pow_right (by decide) (by omega)))
    rw [this]
    simp [hj]
theorem packN_lt {w : Nat} : ∀ {l : List Nat}, (∀ x ∈ l, x < 2 ^ w) → packN w l < 2 ^ (l.length * w)
  | [], _ => by simp [packN]
  | x :: l, h => by
    have ih := packN_lt (l := l) (fun y hy => h y (by simp [hy]))
    have hx := h x (by simp)
    show x + 2 ^ w * packN w l < _
    have e : 2 ^ ((x :: l).length * w) = 2 ^ w * 2 ^ (l.length * w) := by rw [← Nat.pow_add]; congr 1; simp [Nat.add_mul]; omega
    rw [e]
    have : 2 ^ w * (packN w l + 1) ≤ 2 ^ w * 2 ^ (l.length * w) := Nat.mul_le_mul_left _ ih
    rw [Nat.mul_add, Nat.mul_one] at this
    omega
/-- How many words. -/
def nwd (n w : Nat) : Nat := (n * w + 63) / 64
theorem words_inj {m X Y : Nat} (hX : X < 2 ^ (64 * m)) (hY : Y < 2 ^ (64 * m)) (h : words m X = words m Y) : X = Y := by
  apply Nat.eq_of_testBit_eq
  intro j
  by_cases hj : j < 64 * m
  · have hk : j / 64 < m := by omega
    have h1 : (words m X).getD (j / 64) 0 = (words m Y).getD (j / 64) 0 := by rw [h]
    rw [words_get hk, words_get hk] at h1
    have h2 : wordOf X (j / 64) = wordOf Y (j / 64) := by omega
    have h3 : (wordOf X (j / 64)).testBit (j % 64) = (wordOf Y (j / 64)).testBit (j % 64) := by rw [h2]
    rw [wordOf_bit, wordOf_bit, Nat.div_add_mod] at h3
    simpa [Nat.mod_lt j (show 64 > 0 by decide)] using h3
  · have e : 2 ^ (64 * m) ≤ 2 ^ j := Nat.pow_le_pow_right (by decide) (by omega)
    rw [Nat.testBit_lt_two_pow (by omega), Nat.testBit_lt_two_pow (by omega)]
theorem words_eq {n w : Nat} {N M : List Nat} (hw : 0 < w) (hN : N.length = n) (hM : M.length = n) (h1 : ∀ x ∈ N, x < 2 ^ w) (h2 : ∀ x ∈ M, x < 2 ^ w) : words (nwd n w) (packN w N) = words (nwd n w) (packN w M) ↔ N = M := by
  constructor
  · intro h
    have a1 := packN_lt h1
    have a2 := packN_lt h2
    have e : 2 ^ (n * w) ≤ 2 ^ (64 * nwd n w) := Nat.pow_le_pow_right (by decide) (by unfold nwd; omega)
    rw [hN] at a1
    rw [hM] at a2
    have hp := words_inj (by omega) (by omega) h
    apply List.ext_getElem (by omega)
    intro i b1 b2
    have c1 := packN_get (i := i) hw h1
    have c2 := packN_get (i := i) hw h2
    rw [hp, c2] at c1
    simpa [List.getD_eq_getElem?_getD, b1, b2] using c1.symm
  · rintro rfl; rfl
theorem words_ext {m : Nat} {L : List Int} {Y : Nat} (hl : L.length = m) (h : ∀ k, k < m → L.getD k 0 = (wordOf Y k : Int)) : L = words m Y := by
  apply List.ext_getElem (by rw [hl, words_len])
  intro i h1 h2
  have := h i (by omega)
  rw [← words_get (m := m) (by omega)] at this
  simpa [List.getD_eq_getElem?_getD, h1, h2] using this
theorem getD_set_eq {L : List Int} {k : Nat} {x : Int} (h : k < L.length) : (L.set k x).getD k 0 = x := by simp [List.getD_eq_getElem?_getD, h]
theorem getD_set_ne {L : List Int} {k j : Nat} {x : Int} (h : k ≠ j) : (L.set k x).getD j 0 = L.getD j 0 := by simp only [List.getD_eq_getElem?_getD]; rw [List.getElem?_set_ne h]
theorem words_set1 {m X Y k b w n : Nat} (hk : k < m) (hS : SetBits X Y (64 * k + b) w n) (hb : b < 64) (hw : w ≤ 32) (h : ¬ 64 < b + w) : (words m X).set k (wordOf Y k : Int) = words m Y := by
  apply words_ext (by rw [List.length_set, words_len])
  intro j hj
  by_cases e : k = j
  · subst e
    rw [getD_set_eq (by rw [words_len]; exact hk)]
  · rw [getD_set_ne e, words_get hj, setW_other hS hb hw (by omega) (fun h' => absurd h' h)]
theorem words_set2 {m X Y k b w n : Nat} (hk : k + 1 < m) (hS : SetBits X Y (64 * k + b) w n) (hb : b < 64) (hw : w ≤ 32) : ((words m X).set k (wordOf Y k : Int)).set (k + 1) (wordOf Y (k + 1) : Int) = words m Y := by
  apply words_ext (by rw [List.length_set, List.length_set, words_len])
  intro j hj
  by_cases e : k + 1 = j
  · subst e
    rw [getD_set_eq (by rw [List.length_set, words_len]; exact hk)]
  · rw [getD_set_ne e]
    by_cases e2 : k = j
    · subst e2
      rw [getD_set_eq (by rw [words_len]; omega)]
    · rw [getD_set_ne e2, words_get hj, setW_other hS hb hw (by omega) (fun _ => by omega)]
theorem xor_lt64 {x y : Nat} (hx : x < 18446744073709551616) (hy : y < 18446744073709551616) : x ^^^ (x &&& y) < 18446744073709551616 :=
  Nat.xor_lt_two_pow (n := 64) hx (Nat.lt_of_le_of_lt Nat.and_le_left hx)
theorem mulP_lt {n i w : Nat} (hi : i < n) : i * w + w ≤ n * w := by
  have := Nat.mul_le_mul_right w (show i + 1 ≤ n by omega)
  rw [Nat.add_mul, Nat.one_mul] at this
  exact this
theorem takeI_succ {l m : List Int} {i : Nat} (h1 : i < l.length) (h2 : i < m.length) : (l.take (i + 1) = m.take (i + 1)) ↔ (l.take i = m.take i ∧ l.getD i 0 = m.getD i 0) := by
  rw [List.take_add_one, List.take_add_one]
  simp only [List.getD_eq_getElem?_getD, List.getElem?_eq_getElem h1, List.getElem?_eq_getElem h2, Option.toList_some, Option.getD_some]
  constructor
  · intro h
    have := List.append_inj h (by simp; omega)
    simpa using this
  · rintro ⟨a, b⟩; rw [a, b]
theorem set_lt {w i x : Nat} {N : List Nat} (h : ∀ y ∈ N, y < 2 ^ w) (hx : x < 2 ^ w) : ∀ y ∈ N.set i x, y < 2 ^ w := fun y hy => by
  rcases List.mem_or_eq_of_mem_set hy with h' | h'
  · exact h y h'
  · rw [h']; exact hx
theorem rep_lt (n w : Nat) : ∀ y ∈ List.replicate n 0, y < 2 ^ w := fun y hy => by
  rw [List.eq_of_mem_replicate hy]; exact Nat.two_pow_pos w
end Go.Proofs.Ythbcfjlalmhabaa
