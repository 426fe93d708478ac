import Derived.Test.YtdohmppildfjhaaGreatDoorE7
import Derived.Test.YtdohmppildfjhaaGreatDoorE6
namespace Go.Proofs.YtdohmppildfjhaaGreatDoor
open Go.Eng
set_option linter.unusedSimpArgs false
set_option linter.unusedVariables false
def valB (B : Nat) : List Nat → Nat
 | [] => 0
 | d :: l => d + B * valB B l
def dgB (B : Nat) (n : Nat) : List Nat := if h : n = 0 ∨ B < 2 then [] else n % B :: dgB B (n / B)
termination_by n
decreasing_by exact Nat.div_lt_self (by omega) (by omega)
theorem dgB_zero (B : Nat) : dgB B 0 = [] := by unfold dgB; simp
theorem dgB_pos {B n : Nat} (hB : 2 ≤ B) (h : n ≠ 0) : dgB B n = n % B :: dgB B (n / B) := by
 conv => lhs; unfold dgB
 rw [dif_neg (by omega)]
theorem dgB_val {B : Nat} (hB : 2 ≤ B) (n : Nat) : valB B (dgB B n) = n := by
 induction n using Nat.strongRecOn with
 | _ n ih =>
  by_cases h : n = 0
  ·
   subst h; rw [dgB_zero]; rfl
  ·
   rw [dgB_pos hB h]
   show n % B + B * valB B (dgB B (n / B)) = n
   rw [ih _ (Nat.div_lt_self (by omega) (by omega)), Nat.add_comm, Nat.div_add_mod]
theorem dgB_lt {B : Nat} (hB : 2 ≤ B) (n : Nat) : ∀ d ∈ dgB B n, d < B := by
 induction n using Nat.strongRecOn with
 | _ n ih =>
  by_cases h : n = 0
  ·
   subst h; rw [dgB_zero]; simp
  ·
   rw [dgB_pos hB h]
   intro d hd
   rcases List.mem_cons.1 hd with rfl | hd
   ·
    exact Nat.mod_lt _ (by omega)
   ·
    exact ih _ (Nat.div_lt_self (by omega) (by omega)) d hd
theorem dgB_nil {B n : Nat} (hB : 2 ≤ B) : dgB B n = [] ↔ n = 0 := by
 constructor
 ·
  intro h
  refine Classical.byContradiction fun hn => ?_
  rw [dgB_pos hB hn] at h
  cases h
 ·
  rintro rfl; exact dgB_zero B
theorem valB_lt {B : Nat} : ∀ {l : List Nat}, (∀ d ∈ l, d < B) → valB B l < B ^ l.length
 | [], _ => by simp [valB]
 | d :: l, h => by
  have ih := valB_lt (l := l) (fun x hx => h x (by simp [hx]))
  have hd := h d (by simp)
  show d + B * valB B l < B ^ (l.length + 1)
  have : B * (valB B l + 1) ≤ B * B ^ l.length := Nat.mul_le_mul_left _ ih
  rw [Nat.pow_succ, Nat.mul_comm (B ^ l.length)]
  rw [Nat.mul_add, Nat.mul_one] at this
  omega
theorem valB_app (B : Nat) : ∀ l m : List Nat, valB B (l ++ m) = valB B l + B ^ l.length * valB B m
 | [], m => by simp [valB]
 | d :: l, m => by
  show d + B * valB B (l ++ m) = d + B * valB B l + B ^ (l.length + 1) * valB B m
  rw [valB_app B l m, Nat.pow_succ, Nat.mul_add, Nat.mul_comm (B ^ l.length) B, Nat.mul_assoc, Nat.add_assoc]
theorem valB_snoc (B : Nat) (l : List Nat) (d : Nat) : valB B (l ++ [d]) = valB B l + B ^ l.length * d := by
 rw [valB_app]; simp [valB]
theorem valB_rep (B n : Nat) : valB B (List.replicate n 0) = 0 := by
 induction n with
 | zero => rfl
 | succ n ih => rw [List.replicate_succ]; show 0 + B * _ = 0; rw [ih]; simp
theorem valB_take {B : Nat} {l : List Nat} {i : Nat} (h : i < l.length) : valB B (l.take (i + 1)) = valB B (l.take i) + B ^ i * l.getD i 0 := by
 rw [List.take_add_one, List.getElem?_eq_getElem h]
 show valB B (l.take i ++ [l[i]]) = _
 rw [valB_snoc, List.length_take, Nat.min_eq_left (by omega), List.getD_eq_getElem?_getD, List.getElem?_eq_getElem h]
 rfl
theorem valB_set {B : Nat} : ∀ {l : List Nat} {i x : Nat}, i < l.length → valB B (l.set i x) + B ^ i * l.getD i 0 = valB B l + B ^ i * x
 | d :: l, 0, x, _ => by simp [valB]; omega
 | d :: l, i + 1, x, h => by
  have ih := valB_set (B := B) (l := l) (i := i) (x := x) (by simpa using h)
  simp only [List.set_cons_succ, List.getD_cons_succ]
  show d + B * valB B (l.set i x) + B ^ (i + 1) * l.getD i 0 = d + B * valB B l + B ^ (i + 1) * x
  have e1 : B ^ (i + 1) * l.getD i 0 = B * (B ^ i * l.getD i 0) := by rw [Nat.pow_succ, Nat.mul_comm (B ^ i), Nat.mul_assoc]
  have e2 : B ^ (i + 1) * x = B * (B ^ i * x) := by rw [Nat.pow_succ, Nat.mul_comm (B ^ i), Nat.mul_assoc]
  have e3 : B * valB B (l.set i x) + B * (B ^ i * l.getD i 0) = B * valB B l + B * (B ^ i * x) := by rw [← Nat.mul_add, ← Nat.mul_add, ih]
  omega
theorem dgB_of {B : Nat} (hB : 2 ≤ B) : ∀ {l : List Nat}, (∀ d ∈ l, d < B) → (∀ h : l ≠ [], l.getLast h ≠ 0) → dgB B (valB B l) = l
 | [], _, _ => dgB_zero B
 | d :: l, h, hl => by
  have hd := h d (by simp)
  have ih := dgB_of hB (l := l) (fun x hx => h x (by simp [hx])) (fun hne => by
   have := hl (by simp)
   rwa [List.getLast_cons hne] at this)
  have hv : valB B (d :: l) = d + B * valB B l := rfl
  have hne : valB B (d :: l) ≠ 0 := by
   rw [hv]
   intro h0
   have hd0 : d = 0 := by omega
   have hv0 : valB B l = 0 := by
    rcases Nat.eq_zero_or_pos (valB B l) with h | h
    ·
     exact h
    ·
     have : 0 < B * valB B l := Nat.mul_pos (by omega) h
     omega
   rw [hv0, dgB_zero] at ih
   subst ih
   exact hl (by simp) hd0
  rw [dgB_pos hB hne, hv]
  have e1 : (d + B * valB B l) % B = d := by rw [Nat.add_mul_mod_self_left, Nat.mod_eq_of_lt hd]
  have e2 : (d + B * valB B l) / B = valB B l := by rw [Nat.add_mul_div_left _ _ (by omega), Nat.div_eq_of_lt hd, Nat.zero_add]
  rw [e1, e2, ih]
theorem dgB_last {B : Nat} (hB : 2 ≤ B) (n : Nat) : ∀ h : dgB B n ≠ [], (dgB B n).getLast h ≠ 0 := by
 induction n using Nat.strongRecOn with
 | _ n ih =>
  intro h
  have hn : n ≠ 0 := fun e => h ((dgB_nil hB).2 e)
  have e := dgB_pos hB hn
  by_cases hq : n / B = 0
  ·
   have e2 : dgB B n = [n % B] := by rw [e, hq, dgB_zero]
   have : n % B ≠ 0 := by
    have := Nat.div_add_mod n B
    rw [hq] at this
    omega
   simpa [e2] using this
  ·
   have hne : dgB B (n / B) ≠ [] := fun h => hq ((dgB_nil hB).1 h)
   have := ih _ (Nat.div_lt_self (by omega) (by omega)) hne
   have e3 : (dgB B n).getLast h = (dgB B (n / B)).getLast hne := by simp only [e]; rw [List.getLast_cons hne]
   rw [e3]
   exact this
theorem dgB_len_le {B n k : Nat} (hB : 2 ≤ B) : (dgB B n).length ≤ k ↔ n < B ^ k := by
 induction k generalizing n with
 | zero =>
  rw [Nat.pow_zero]
  constructor
  ·
   intro h
   have := (dgB_nil hB).1 (List.length_eq_zero_iff.1 (by omega : (dgB B n).length = 0))
   omega
  ·
   intro h
   rw [(dgB_nil hB).2 (by omega)]
   simp
 | succ k ih =>
  by_cases h : n = 0
  ·
   subst h
   rw [dgB_zero]
   exact ⟨fun _ => Nat.pow_pos (by omega), fun _ => by simp⟩
  ·
   rw [dgB_pos hB h, List.length_cons, Nat.add_le_add_iff_right, ih, Nat.div_lt_iff_lt_mul (by omega), Nat.pow_succ]
theorem dgB_len_mono {B m n : Nat} (hB : 2 ≤ B) (h : m ≤ n) : (dgB B m).length ≤ (dgB B n).length :=
 (dgB_len_le hB).2 (Nat.lt_of_le_of_lt h ((dgB_len_le hB).1 (Nat.le_refl _)))
theorem dgB_lt_pow {B : Nat} (hB : 2 ≤ B) (n : Nat) : n < B ^ (dgB B n).length := (dgB_len_le hB).1 (Nat.le_refl _)
theorem dgB_len_mul {B : Nat} (hB : 2 ≤ B) (m n : Nat) : (dgB B (m * n)).length ≤ (dgB B m).length + (dgB B n).length := by
 rw [dgB_len_le hB, Nat.pow_add]
 exact Nat.mul_lt_mul'' (dgB_lt_pow hB m) (dgB_lt_pow hB n)
theorem dgB_len_add {B : Nat} (hB : 2 ≤ B) {m n k : Nat} (h1 : (dgB B m).length ≤ k) (h2 : (dgB B n).length ≤ k) : (dgB B (m + n)).length ≤ k + 1 := by
 rw [dgB_len_le hB] at *
 rw [Nat.pow_succ]
 have : B ^ k * 2 ≤ B ^ k * B := Nat.mul_le_mul_left _ hB
 omega
theorem dgB_trim {B : Nat} (hB : 2 ≤ B) {l : List Nat} {n : Nat} (hl : ∀ d ∈ l, d < B) (hn : n ≤ l.length) (h0 : ∀ i, n ≤ i → i < l.length → l.getD i 0 = 0) (hp : n = 0 ∨ l.getD (n - 1) 0 ≠ 0) : l.take n = dgB B (valB B l) := by
 have e : valB B l = valB B (l.take n) := by
  have hd : l.drop n = List.replicate (l.length - n) 0 := by
   apply List.ext_getElem (by simp)
   intro i h1 h2
   have := h0 (n + i) (by omega) (by simp at h1; omega)
   simp at h1
   rw [List.getElem_drop, List.getElem_replicate]
   simpa [List.getD_eq_getElem?_getD, List.getElem?_eq_getElem (show n + i < l.length by omega)] using this
  conv => lhs; rw [← List.take_append_drop n l, hd, valB_app, valB_rep]
  simp
 rw [e]
 refine (dgB_of hB (fun d hd => hl d (List.mem_of_mem_take hd)) fun hne => ?_).symm
 rcases hp with rfl | hp
 ·
  simp at hne
 ·
  have hlen : (l.take n).length = n := by simp; omega
  have hn0 : 0 < n := by
   rcases Nat.eq_zero_or_pos n with h | h
   ·
    subst h; simp at hne
   ·
    exact h
  rw [List.getLast_eq_getElem]
  simp only [hlen, List.getElem_take]
  simpa [List.getD_eq_getElem?_getD, List.getElem?_eq_getElem (show n - 1 < l.length by omega)] using hp
theorem getD_ltB {B : Nat} {l : List Nat} (hB : 0 < B) (h : ∀ d ∈ l, d < B) (i : Nat) : l.getD i 0 < B := by
 rw [List.getD_eq_getElem?_getD]
 cases hx : l[i]? with
 | none => exact hB
 | some x => exact h x (List.mem_of_getElem? hx)
theorem setB {B : Nat} {l : List Nat} {i x : Nat} (h : ∀ d ∈ l, d < B) (hx : x < B) : ∀ d ∈ l.set i x, d < B := fun y hy => by
 rcases List.mem_or_eq_of_mem_set hy with h' | h'
 ·
  exact h y h'
 ·
  rw [h']; exact hx
theorem valB_cmp {B : Nat} {l m : List Nat} {i : Nat} (hB : 0 < B) (hl : ∀ d ∈ l, d < B) (hm : ∀ d ∈ m, d < B) (hlen : l.length = m.length) (hi : i < l.length) (he : l.drop (i + 1) = m.drop (i + 1)) (hlt : l.getD i 0 < m.getD i 0) : valB B l < valB B m := by
 have hs : ∀ k : List Nat, i < k.length → valB B k = valB B (k.take i) + B ^ i * (k.getD i 0 + B * valB B (k.drop (i + 1))) := fun k hk => by
  conv => lhs; rw [← List.take_append_drop i k, List.drop_eq_getElem_cons hk, valB_app]
  have e : k.getD i 0 = k[i] := by simp [List.getD_eq_getElem?_getD, hk]
  rw [List.length_take, Nat.min_eq_left (by omega), e]
  rfl
 rw [hs l hi, hs m (by omega), he]
 have h1 : valB B (l.take i) < B ^ i := by
  have := valB_lt (B := B) (l := l.take i) (fun d hd => hl d (List.mem_of_mem_take hd))
  rwa [List.length_take, Nat.min_eq_left (by omega)] at this
 have h2 : B ^ i * (l.getD i 0 + B * valB B (m.drop (i + 1)) + 1) ≤ B ^ i * (m.getD i 0 + B * valB B (m.drop (i + 1))) := Nat.mul_le_mul_left _ (by omega)
 rw [Nat.mul_add _ _ 1, Nat.mul_one] at h2
 omega
theorem dgB_len_lt {B a b : Nat} (hB : 2 ≤ B) (h : (dgB B a).length < (dgB B b).length) : a < b := by
 refine Classical.byContradiction fun hn => ?_
 have := dgB_len_mono hB (show b ≤ a by omega)
 omega
theorem nl_nil : nl [] = [] := rfl
attribute [go_sem] nl_nil
theorem nl_takeR (l : List Nat) (n : Nat) : (nl l).take n = nl (l.take n) := by simp [nl, List.map_take]
theorem valB_take' {B : Nat} (l : List Nat) (i : Nat) : valB B (l.take (i + 1)) = valB B (l.take i) + B ^ i * l.getD i 0 := by
 rcases Nat.lt_or_ge i l.length with h | h
 ·
  exact valB_take h
 ·
  rw [List.take_of_length_le (by omega), List.take_of_length_le h]
  have : l.getD i 0 = 0 := by rw [List.getD_eq_getElem?_getD, List.getElem?_eq_none h]; rfl
  rw [this]; simp
theorem getD_out {l : List Nat} {i : Nat} (h : l.length ≤ i) : l.getD i 0 = 0 := by rw [List.getD_eq_getElem?_getD, List.getElem?_eq_none h]; rfl
theorem mul_step (P B x : Nat) : P * (x % B) + P * B * (x / B) = P * x := by
 rw [Nat.mul_assoc, ← Nat.mul_add, Nat.mod_add_div]
theorem snocB {B : Nat} {l : List Nat} {x : Nat} (h : ∀ d ∈ l, d < B) (hx : x < B) : ∀ d ∈ l ++ [x], d < B := fun d hd => by
 rcases List.mem_append.1 hd with h' | h'
 ·
  exact h d h'
 ·
  rw [List.mem_singleton] at h'; omega
theorem add_step {B c : Nat} {L a b : List Nat} (hv : valB B L + B ^ L.length * c = valB B (a.take L.length) + valB B (b.take L.length)) :
  valB B (L ++ [(c + a.getD L.length 0 + b.getD L.length 0) % B]) + B ^ (L.length + 1) * ((c + a.getD L.length 0 + b.getD L.length 0) / B) = valB B (a.take (L.length + 1)) + valB B (b.take (L.length + 1)) := by
 rw [valB_snoc, valB_take', valB_take', Nat.pow_succ]
 have h := mul_step (B ^ L.length) B (c + a.getD L.length 0 + b.getD L.length 0)
 rw [Nat.mul_add, Nat.mul_add] at h
 omega
def cmpI (a b : Nat) : Int := if a < b then -1 else if b < a then 1 else 0
theorem mulD_step {B j c y : Nat} {O : List Nat} (hj : j < O.length) :
  valB B (O.set j ((O.getD j 0 + c + y) % B)) + B ^ (j + 1) * ((O.getD j 0 + c + y) / B) = valB B O + B ^ j * c + B ^ j * y := by
 have h1 := valB_set (B := B) (x := (O.getD j 0 + c + y) % B) hj
 have h2 := mul_step (B ^ j) B (O.getD j 0 + c + y)
 rw [Nat.mul_add, Nat.mul_add] at h2
 rw [Nat.pow_succ]
 omega
theorem sub_step {B c x c' : Nat} {L a b : List Nat} (hv : valB B (a.take L.length) + B ^ L.length * c = valB B L + valB B (b.take L.length)) (hx : a.getD L.length 0 + B * c' = x + c + b.getD L.length 0) :
  valB B (a.take (L.length + 1)) + B ^ (L.length + 1) * c' = valB B (L ++ [x]) + valB B (b.take (L.length + 1)) := by
 rw [valB_snoc, valB_take', valB_take', Nat.pow_succ]
 have h : B ^ L.length * (a.getD L.length 0 + B * c') = B ^ L.length * (x + c + b.getD L.length 0) := by rw [hx]
 rw [Nat.mul_add, Nat.mul_add, Nat.mul_add, ← Nat.mul_assoc] at h
 omega
end Go.Proofs.YtdohmppildfjhaaGreatDoor
