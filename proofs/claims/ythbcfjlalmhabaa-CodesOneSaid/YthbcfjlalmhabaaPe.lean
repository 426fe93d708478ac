import Derived.Test.YthbcfjlalmhabaaPd
/-! What codes read: plain facts. -/
namespace Go.Proofs.Ythbcfjlalmhabaa
open Go.Eng
set_option linter.unusedSimpArgs false
set_option linter.unusedVariables false
/-- How many noughts stand ahead. -/
def zl : List Bool → Nat
  | [] => 0
  | true :: _ => 0
  | false :: l => zl l + 1
theorem zl_le : ∀ l : List Bool, zl l ≤ l.length
  | [] => Nat.le_refl _
  | true :: l => Nat.zero_le _
  | false :: l => by have := zl_le l; simp only [zl, List.length_cons]; omega
theorem zl_false : ∀ (l : List Bool) (k : Nat), k < zl l → l.getD k false = false
  | [], k, h => by simp [zl] at h
  | true :: l, k, h => by simp [zl] at h
  | false :: l, 0, h => rfl
  | false :: l, k + 1, h => by
    have := zl_false l k (by simp only [zl] at h; omega)
    simpa using this
theorem zl_true : ∀ l : List Bool, zl l < l.length → l.getD (zl l) false = true
  | [], h => by simp [zl] at h
  | true :: l, h => rfl
  | false :: l, h => by
    have := zl_true l (by simp only [zl, List.length_cons] at h; omega)
    simpa [zl] using this
def zr (L : List Bool) (p : Nat) : Nat := zl (L.drop p)
theorem getD_drop' (L : List Bool) (p k : Nat) : (L.drop p).getD k false = L.getD (p + k) false := by
  simp [List.getD_eq_getElem?_getD, List.getElem?_drop]
theorem zr_le {L : List Bool} {p : Nat} (h : p ≤ L.length) : p + zr L p ≤ L.length := by
  have := zl_le (L.drop p)
  unfold zr
  simp at this
  omega
theorem zr_true {L : List Bool} {p k : Nat} (h : p + k < L.length) (hk : k ≤ zr L p) (hb : L.getD (p + k) false = true) : zr L p = k := by
  by_cases h1 : k < zr L p
  · have := zl_false _ _ h1
    rw [getD_drop', hb] at this
    cases this
  · omega
theorem zr_false {L : List Bool} {p k : Nat} (h : p + k < L.length) (hk : k ≤ zr L p) (hb : L.getD (p + k) false = false) : k + 1 ≤ zr L p := by
  by_cases h1 : k = zr L p
  · subst h1
    have := zl_true (L.drop p) (by unfold zr at h; simp; omega)
    rw [getD_drop'] at this
    unfold zr at hb
    rw [hb] at this
    cases this
  · omega
theorem zr_end {L : List Bool} {p k : Nat} (h : ¬ p + k < L.length) (hk : k ≤ zr L p) (hp : p ≤ L.length) : zr L p = k := by
  have := zr_le hp
  omega
theorem rX_one {L : List Bool} {p : Nat} (h : p < L.length) : rX L p 1 = ((L.getD p false).toNat, p + 1, 0) := by
  unfold rX
  rw [if_pos (by omega), if_pos (by simp; omega)]
  have e : (L.drop p).take 1 = [L.getD p false] := by
    have := take_snoc (l := L) (a := p) (w := 0) (by omega)
    simpa using this
  simp only [Int.toNat_one, e]
  cases L.getD p false <;> rfl
theorem rX_one_end {L : List Bool} {p : Nat} (h : ¬ p < L.length) : rX L p 1 = (0, p, 5) := by
  unfold rX
  rw [if_pos (by omega), if_neg (by simp; omega)]
theorem rX_ok {L : List Bool} {p w : Nat} (hw : w ≤ 64) (h : p + w ≤ L.length) : rX L p w = (numOf ((L.drop p).take w), p + w, 0) := by
  unfold rX
  rw [if_pos (by omega), if_pos (by simpa using h)]
  simp
theorem rX_end {L : List Bool} {p w : Nat} (hw : w ≤ 64) (h : ¬ p + w ≤ L.length) : rX L p w = (0, p, 5) := by
  unfold rX
  rw [if_pos (by omega), if_neg (by simpa using h)]
/-- A number of gamma's code from a place on, as the code reads it: the number, how far it got, an error. -/
def gX (L : List Bool) (p : Nat) : Nat × Nat × Int :=
  if 64 ≤ zr L p then (0, p + 64, 4) else if L.length < p + 2 * zr L p + 1 then (0, (if p + zr L p < L.length then p + zr L p + 1 else p + zr L p), 5)
  else (2 ^ zr L p + numOf ((L.drop (p + zr L p + 1)).take (zr L p)), p + 2 * zr L p + 1, 0)
/-- Just as the document. -/
def gR (L : List Bool) (p : Nat) : Nat × Nat × Int :=
  if 64 ≤ zr L p then (0, p + 64, 4) else if L.length < p + 2 * zr L p + 1 then (0, p + zr L p, 5)
  else (2 ^ zr L p + numOf ((L.drop (p + zr L p + 1)).take (zr L p)), p + 2 * zr L p + 1, 0)
theorem gX_le {L : List Bool} {p : Nat} (h : p ≤ L.length) : (gX L p).2.1 ≤ L.length := by
  have := zr_le h
  unfold gX
  split
  · simp only; omega
  · split
    · simp only; split <;> omega
    · simp only; omega
theorem gX_lt {L : List Bool} {p : Nat} : (gX L p).1 < 18446744073709551616 := by
  unfold gX
  split
  · simp
  · split
    · simp
    · simp only
      have h1 : 2 ^ zr L p ≤ 2 ^ 63 := Nat.pow_le_pow_right (by decide) (by omega)
      have h2 := numOf_lt ((L.drop (p + zr L p + 1)).take (zr L p))
      have h3 : 2 ^ ((L.drop (p + zr L p + 1)).take (zr L p)).length ≤ 2 ^ 63 := Nat.pow_le_pow_right (by decide) (by simp; omega)
      omega
theorem gX_pos {L : List Bool} {p : Nat} (h : (gX L p).2.2 = 0) : 0 < (gX L p).1 := by
  unfold gX at *
  split at h
  · cases h
  · split at h
    · cases h
    · rename_i h1 h2
      rw [if_neg h1, if_neg h2]
      have := Nat.two_pow_pos (zr L p)
      simp only; omega
theorem gR_eq (L : List Bool) (p : Nat) : (gR L p).1 = (gX L p).1 ∧ (gR L p).2.2 = (gX L p).2.2 ∧ ((gX L p).2.2 = 0 → (gR L p).2.1 = (gX L p).2.1) ∧ ((gX L p).2.2 = 0 ∨ (gX L p).2.2 = 4 ∨ (gX L p).2.2 = 5) := by
  unfold gR gX
  split
  · simp
  · split <;> simp
theorem gX_err {L : List Bool} {p : Nat} (h : (gX L p).2.2 ≠ 0) : (gX L p).1 = 0 := by
  unfold gX at *
  split
  · rfl
  · split
    · rfl
    · rename_i h1 h2
      rw [if_neg h1, if_neg h2] at h
      exact absurd rfl h
theorem gX_form {L : List Bool} {p : Nat} (h : 64 ≤ zr L p) : gX L p = (0, p + 64, 4) ∧ gR L p = (0, p + 64, 4) := by
  unfold gX gR; rw [if_pos h, if_pos h]; exact ⟨rfl, rfl⟩
theorem gX_end {L : List Bool} {p k : Nat} (hz : zr L p = k) (h : k < 64) (he : L.length < p + 2 * k + 1) : gX L p = (0, (if p + k < L.length then p + k + 1 else p + k), 5) ∧ gR L p = (0, p + k, 5) := by
  subst hz
  exact ⟨by unfold gX; rw [if_neg (by omega), if_pos he], by unfold gR; rw [if_neg (by omega), if_pos he]⟩
theorem gX_ok {L : List Bool} {p k : Nat} (hz : zr L p = k) (h : k < 64) (he : p + 2 * k + 1 ≤ L.length) : gX L p = (2 ^ k + numOf ((L.drop (p + k + 1)).take k), p + 2 * k + 1, 0) ∧ gR L p = gX L p := by
  subst hz
  have e : gX L p = (2 ^ zr L p + numOf ((L.drop (p + zr L p + 1)).take (zr L p)), p + 2 * zr L p + 1, 0) := by unfold gX; rw [if_neg (by omega), if_neg (by omega)]
  exact ⟨e, by rw [e]; unfold gR; rw [if_neg (by omega), if_neg (by omega)]⟩
theorem numOf_top {L : List Bool} {q k : Nat} (h : q + k < L.length) (hb : L.getD q false = true) : numOf ((L.drop q).take (k + 1)) = 2 ^ k + numOf ((L.drop (q + 1)).take k) := by
  have e : (L.drop q).take (k + 1) = [L.getD q false] ++ (L.drop (q + 1)).take k := by
    rw [List.getD_eq_getElem?_getD, List.getElem?_eq_getElem (by omega), List.drop_eq_getElem_cons (by omega), List.take_succ_cons]
    rfl
  rw [e, numOf_app, hb]
  have : ((L.drop (q + 1)).take k).length = k := by simp; omega
  rw [this]
  simp [numOf]
/-- A number of delta's code. -/
def dX (L : List Bool) (p : Nat) : Nat × Nat × Int :=
  if (gX L p).2.2 = 0 then (if 64 < (gX L p).1 then (0, (gX L p).2.1, 4) else
    if (gX L p).2.1 + ((gX L p).1 - 1) ≤ L.length then (2 ^ ((gX L p).1 - 1) + numOf ((L.drop (gX L p).2.1).take ((gX L p).1 - 1)), (gX L p).2.1 + ((gX L p).1 - 1), 0)
    else (0, (gX L p).2.1, 5)) else (0, (gX L p).2.1, (gX L p).2.2)
def dR (L : List Bool) (p : Nat) : Nat × Nat × Int :=
  if (dX L p).2.2 = 0 then dX L p else (0, p, (dX L p).2.2)
theorem dX_le {L : List Bool} {p : Nat} (h : p ≤ L.length) : (dX L p).2.1 ≤ L.length := by
  have := gX_le h
  unfold dX
  split
  · split
    · exact this
    · split
      · assumption
      · exact this
  · exact this
theorem dX_err {L : List Bool} {p : Nat} : ((dX L p).2.2 = 0 ∨ (dX L p).2.2 = 4 ∨ (dX L p).2.2 = 5) ∧ ((dX L p).2.2 ≠ 0 → (dX L p).1 = 0) := by
  have := (gR_eq L p).2.2.2
  unfold dX
  split
  · split
    · simp
    · split <;> simp
  · exact ⟨this, fun _ => rfl⟩
/-- A number in groups of seven bits. -/
def vXj (L : List Bool) : Nat → Nat → Nat → Nat → Nat × Nat × Int
  | 0, _, p, _ => (0, p, 4)
  | j + 1, i, p, a =>
    if (rX L p 8).2.2 = 0 then
      (if (i = 9 ∧ 1 < (rX L p 8).1 % 128) ∨ (0 < i ∧ (rX L p 8).1 = 0) then (0, (rX L p 8).2.1, 4)
       else if (rX L p 8).1 < 128 then (a + (rX L p 8).1 % 128 * 2 ^ (7 * i), (rX L p 8).2.1, 0)
       else vXj L j (i + 1) (rX L p 8).2.1 (a + (rX L p 8).1 % 128 * 2 ^ (7 * i)))
    else (0, (rX L p 8).2.1, 5)
def vX (L : List Bool) (p : Nat) : Nat × Nat × Int := vXj L 10 0 p 0
theorem vXj_le {L : List Bool} : ∀ (j i p a : Nat), p ≤ L.length → (vXj L j i p a).2.1 ≤ L.length
  | 0, _, _, _, h => h
  | j + 1, i, p, a, h => by
    have := rX_le (w := 8) h
    unfold vXj
    split
    · split
      · exact this
      · split
        · exact this
        · exact vXj_le _ _ _ _ this
    · exact this
theorem vXj_err {L : List Bool} : ∀ (j i p a : Nat), (vXj L j i p a).2.2 = 0 ∨ (vXj L j i p a).2.2 = 4 ∨ (vXj L j i p a).2.2 = 5
  | 0, _, _, _ => by simp [vXj]
  | j + 1, i, p, a => by
    unfold vXj
    split
    · split
      · simp
      · split
        · simp
        · exact vXj_err _ _ _ _
    · simp
theorem rX8_ok {L : List Bool} {p : Nat} (h : p + 8 ≤ L.length) : rX L p 8 = (numOf ((L.drop p).take 8), p + 8, 0) := rX_ok (w := 8) (by decide) h
theorem rX8_end {L : List Bool} {p : Nat} (h : ¬ p + 8 ≤ L.length) : rX L p 8 = (0, p, 5) := rX_end (w := 8) (by decide) h
theorem vXj_end {L : List Bool} {j i p a : Nat} (h : ¬ p + 8 ≤ L.length) : vXj L (j + 1) i p a = (0, p, 5) := by
  have e : rX L p 8 = (0, p, 5) := rX_end (w := 8) (by decide) h
  unfold vXj
  rw [e]
  simp
theorem vXj_ok {L : List Bool} {j i p a x : Nat} (h : p + 8 ≤ L.length) (hx : numOf ((L.drop p).take 8) = x) : vXj L (j + 1) i p a =
    if (i = 9 ∧ 1 < x % 128) ∨ (0 < i ∧ x = 0) then (0, p + 8, 4) else if x < 128 then (a + x % 128 * 2 ^ (7 * i), p + 8, 0) else vXj L j (i + 1) (p + 8) (a + x % 128 * 2 ^ (7 * i)) := by
  have e : rX L p 8 = (x, p + 8, 0) := by rw [← hx]; exact rX_ok (w := 8) (by decide) h
  conv => lhs; unfold vXj
  rw [e]
  simp
theorem shl7 {x i : Nat} (hi : i ≤ 9) (h9 : i = 9 → x ≤ 1) (hx : x < 128) : x * 2 ^ (7 * i) < 18446744073709551616 ∧ x * 2 ^ (7 * i) + 2 ^ (7 * i) ≤ 18446744073709551616 := by
  by_cases h : i = 9
  · subst h
    have := h9 rfl
    omega
  · have h1 : 2 ^ (7 * i) ≤ 2 ^ 56 := Nat.pow_le_pow_right (by decide) (by omega)
    have h2 : x * 2 ^ (7 * i) ≤ 127 * 2 ^ 56 := Nat.mul_le_mul (by omega) h1
    omega
theorem pow7_succ (i : Nat) : 2 ^ (7 * (i + 1)) = 128 * 2 ^ (7 * i) := by
  rw [Nat.mul_add, Nat.pow_add]; omega
theorem or_shl {a x i : Nat} (ha : a < 2 ^ (7 * i)) (hi : i ≤ 9) (h9 : i = 9 → x ≤ 1) (hx : x < 128) : bitK .or .u64 (a : Int) ((x * 2 ^ (7 * i) : Nat) : Int) = ((a + x * 2 ^ (7 * i) : Nat) : Int) := by
  have h := shl7 hi h9 hx
  rw [or_u64 (by omega) (by omega)]
  have e := Nat.two_pow_add_eq_or_of_lt ha x
  rw [Nat.mul_comm x, Nat.or_comm, ← e, Nat.add_comm]
theorem wrap_shl {x i : Nat} (hi : i ≤ 9) (h9 : i = 9 → x ≤ 1) (hx : x < 128) : IntKind.u64.wrap ((x : Int) * 2 ^ (7 * i)) = ((x * 2 ^ (7 * i) : Nat) : Int) := by
  have h := shl7 hi h9 hx
  have e0 : ((x : Int) * 2 ^ (7 * i)) = ((x * 2 ^ (7 * i) : Nat) : Int) := by simp
  rw [e0]
  generalize x * 2 ^ (7 * i) = y at *
  unfold IntKind.wrap
  have e : IntKind.u64.bits = 64 := rfl
  have e2 : IntKind.u64.signed = false := rfl
  rw [e, e2]
  simp
  omega
end Go.Proofs.Ythbcfjlalmhabaa
