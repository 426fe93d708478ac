import Derived.Test.YtfemchdaoihogaaRa
/-! Words of a fixed number (plain facts). -/
namespace Go.Proofs.Ytfemchdaoihogaa
open Go.Eng
set_option linter.unusedSimpArgs false
set_option linter.unusedVariables false
/-- The k lowest digits of a number. -/
def fw (B : Nat) : Nat → Nat → List Nat
  | 0, _ => []
  | k + 1, v => v % B :: fw B k (v / B)
theorem fw_len {B : Nat} : ∀ k v, (fw B k v).length = k
  | 0, _ => rfl
  | k + 1, v => by show (fw B k (v / B)).length + 1 = _; rw [fw_len k]
theorem fw_lt {B : Nat} (hB : 0 < B) : ∀ k v, ∀ d ∈ fw B k v, d < B
  | 0, _, d, hd => by simp [fw] at hd
  | k + 1, v, d, hd => by
    rcases List.mem_cons.1 hd with rfl | hd
    · exact Nat.mod_lt _ hB
    · exact fw_lt hB k _ d hd
theorem fw_val {B : Nat} (hB : 0 < B) : ∀ k v, valB B (fw B k v) = v % B ^ k
  | 0, v => by rw [Nat.pow_zero, Nat.mod_one]; rfl
  | k + 1, v => by
    show v % B + B * valB B (fw B k (v / B)) = _
    rw [fw_val hB k, Nat.pow_succ, Nat.mul_comm (B ^ k), Nat.mod_mul]
theorem fw_of {B : Nat} : ∀ {l : List Nat}, (∀ d ∈ l, d < B) → fw B l.length (valB B l) = l
  | [], _ => rfl
  | d :: l, h => by
    have hd := h d (by simp)
    have ih := fw_of (l := l) (fun x hx => h x (by simp [hx]))
    show (d + B * valB B l) % B :: fw B l.length ((d + B * valB B l) / B) = _
    rw [Nat.add_mul_mod_self_left, Nat.mod_eq_of_lt hd, Nat.add_mul_div_left _ _ (by omega), Nat.div_eq_of_lt hd, Nat.zero_add, ih]
theorem fw_eq {B k v : Nat} {l : List Nat} (h : ∀ d ∈ l, d < B) (hk : l.length = k) (hv : valB B l = v) : fw B k v = l := by rw [← hk, ← hv]; exact fw_of h
theorem fw_add {B : Nat} : ∀ a b v, fw B (a + b) v = fw B a v ++ fw B b (v / B ^ a)
  | 0, b, v => by rw [Nat.zero_add, Nat.pow_zero, Nat.div_one]; rfl
  | a + 1, b, v => by
    rw [show a + 1 + b = (a + b) + 1 by omega]
    show v % B :: fw B (a + b) (v / B) = v % B :: (fw B a (v / B) ++ fw B b (v / B ^ (a + 1)))
    rw [fw_add a b, Nat.pow_succ, Nat.mul_comm, Nat.div_div_eq_div_mul]
theorem fw_mod {B : Nat} (hB : 0 < B) : ∀ k v, fw B k (v % B ^ k) = fw B k v
  | 0, _ => rfl
  | k + 1, v => by
    show v % B ^ (k + 1) % B :: fw B k (v % B ^ (k + 1) / B) = v % B :: fw B k (v / B)
    rw [Nat.pow_succ, Nat.mod_mul_left_mod, Nat.mul_comm, Nat.mod_mul_right_div_self, fw_mod hB k]
theorem fw_getD {B : Nat} : ∀ {k i} (v : Nat), i < k → (fw B k v).getD i 0 = v / B ^ i % B
  | 0, _, _, h => absurd h (Nat.not_lt_zero _)
  | k + 1, 0, v, _ => by simp [fw]
  | k + 1, i + 1, v, h => by
    show (fw B k (v / B)).getD i 0 = _
    rw [fw_getD (v / B) (by omega), Nat.pow_succ, Nat.mul_comm (B ^ i), Nat.div_div_eq_div_mul]
theorem fw_zero {B : Nat} : ∀ k, fw B k 0 = List.replicate k 0
  | 0 => rfl
  | k + 1 => by
    show 0 % B :: fw B k (0 / B) = _
    rw [Nat.zero_mod, Nat.zero_div, fw_zero k, List.replicate_succ]
theorem wg_fw {B n : Nat} (hB : 2 ≤ B) : fw B (dgB B n).length n = dgB B n := fw_eq (dgB_lt hB n) rfl (dgB_val hB n)
/-- A list's part from k on, its first elements handled. -/
def prt (P N T : List Nat) : List Nat := P ++ (N ++ T.drop N.length)
theorem prt_nil (P T : List Nat) : prt P [] T = P ++ T := rfl
theorem prt_len {P N T : List Nat} (h : N.length ≤ T.length) : (prt P N T).length = P.length + T.length := by unfold prt; simp; omega
theorem prt_get {P N T : List Nat} {i : Nat} (h : N.length ≤ i) (hi : i < T.length) : (prt P N T).getD (P.length + i) 0 = T.getD i 0 := by
  unfold prt
  rw [List.getD_eq_getElem?_getD, List.getElem?_append_right (by omega), List.getElem?_append_right (by omega), List.getElem?_drop, List.getD_eq_getElem?_getD]
  congr 2
  omega
theorem prt_set {P N T : List Nat} {x : Nat} (h : N.length < T.length) : (prt P N T).set (P.length + N.length) x = prt P (N ++ [x]) T := by
  unfold prt
  rw [List.set_append_right (h := by omega), Nat.add_sub_cancel_left, List.set_append_right (h := Nat.le_refl _), Nat.sub_self, List.drop_eq_getElem_cons h, List.set_cons_zero, List.length_append, List.length_singleton, List.append_assoc]
  rfl
end Go.Proofs.Ytfemchdaoihogaa
