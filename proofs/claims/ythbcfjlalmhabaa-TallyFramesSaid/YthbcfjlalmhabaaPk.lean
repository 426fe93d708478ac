import Derived.Test.YthbcfjlalmhabaaPj
/-! Package crc: plain facts, bytes as numbers. -/
namespace Go.Proofs.Ythbcfjlalmhabaa
open Go.Eng
set_option linter.unusedSimpArgs false
set_option linter.unusedVariables false
set_option maxRecDepth 100000
def tstep (c : Nat) : Nat := if c % 2 = 1 then (c / 2) ^^^ 3988292384 else c / 2
def tsteps (c : Nat) : Nat → Nat
  | 0 => c
  | k + 1 => tstep (tsteps c k)
def entry (i : Nat) : Nat := tsteps i 8
theorem tstep_lt {c : Nat} (h : c < 4294967296) : tstep c < 4294967296 := by
  unfold tstep
  split
  · exact Nat.xor_lt_two_pow (n := 32) (by omega) (by omega)
  · omega
theorem tsteps_lt {c : Nat} (h : c < 4294967296) : ∀ k, tsteps c k < 4294967296
  | 0 => h
  | k + 1 => tstep_lt (tsteps_lt h k)
theorem entry_lt {i : Nat} (h : i < 256) : entry i < 4294967296 := tsteps_lt (by omega) 8
def enV (i : Nat) : Value := .int .u32 (entry i : Int)
/-- The table's cells, the first i made. -/
def tabTo (i : Nat) : List Value := (List.range i).map enV ++ List.replicate (256 - i) (.int .u32 0)
theorem tabTo_len {i : Nat} (h : i ≤ 256) : (tabTo i).length = 256 := by
  unfold tabTo; rw [List.length_append, List.length_map, List.length_range, List.length_replicate]; omega
theorem tabTo_set {i : Nat} (h : i < 256) : (tabTo i).set i (enV i) = tabTo (i + 1) := by
  unfold tabTo
  rw [List.range_succ, List.map_append, List.set_append_right _ _ (by simp)]
  simp only [List.length_map, List.length_range, Nat.sub_self, List.map_cons, List.map_nil, List.append_assoc, List.singleton_append]
  rw [show 256 - i = (256 - (i + 1)) + 1 by omega, List.replicate_succ]
  rfl
theorem tabTo_get {m : Nat} (h : m < 256) : (tabTo 256)[m]? = some (enV m) := by
  unfold tabTo
  rw [List.getElem?_append_left (by simpa using h), List.getElem?_map, List.getElem?_range h]
  rfl
theorem tab_one : ∀ v ∈ tabTo 256, oneC v = true := by
  intro v hv
  simp only [tabTo, Nat.sub_self, List.replicate_zero, List.append_nil] at hv
  obtain ⟨i, _, rfl⟩ := List.mem_map.1 hv
  rfl
theorem tabTo_zero : tabTo 0 = List.replicate 256 (.int .u32 0) := by
  unfold tabTo; rw [List.range_zero, List.map_nil, List.nil_append]

theorem xor_mod_two (x y : Nat) : (x ^^^ y) % 2 = (x + y) % 2 := by
  have h := Nat.xor_mod_two_pow (a := x) (b := y) (n := 1)
  rw [show (2 : Nat) ^ 1 = 2 from rfl] at h
  rw [h]
  rcases Nat.mod_two_eq_zero_or_one x with hx | hx <;> rcases Nat.mod_two_eq_zero_or_one y with hy | hy <;> rw [hx, hy] <;> simp <;> omega
theorem tstep_xor (x y : Nat) : tstep (x ^^^ y) = tstep x ^^^ tstep y := by
  have h1 : (x ^^^ y) / 2 = (x / 2) ^^^ (y / 2) := Nat.xor_div_two
  have h2 : (x ^^^ y) % 2 = (x + y) % 2 := xor_mod_two x y
  unfold tstep
  rw [h1, h2]
  rcases Nat.mod_two_eq_zero_or_one x with hx | hx <;> rcases Nat.mod_two_eq_zero_or_one y with hy | hy
  · rw [if_neg (by omega), if_neg (by omega), if_neg (by omega)]
  · rw [if_pos (by omega), if_neg (by omega), if_pos (by omega), Nat.xor_assoc]
  · rw [if_pos (by omega), if_pos (by omega), if_neg (by omega), Nat.xor_assoc, Nat.xor_assoc, Nat.xor_comm (y / 2)]
  · rw [if_neg (by omega), if_pos (by omega), if_pos (by omega)]
    rw [Nat.xor_comm (y / 2), Nat.xor_assoc, ← Nat.xor_assoc 3988292384, Nat.xor_self, Nat.zero_xor]
theorem tsteps_xor (x y : Nat) : ∀ k, tsteps (x ^^^ y) k = tsteps x k ^^^ tsteps y k
  | 0 => rfl
  | k + 1 => by rw [tsteps, tsteps, tsteps, tsteps_xor x y k, tstep_xor]
theorem tstep_two (x : Nat) : tstep (2 * x) = x := by
  unfold tstep
  rw [if_neg (by omega)]
  omega
theorem tsteps_succ (x : Nat) : ∀ k, tsteps x (k + 1) = tsteps (tstep x) k
  | 0 => rfl
  | k + 1 => by rw [tsteps, tsteps_succ x k, tsteps]
theorem tsteps_two (x : Nat) : ∀ k, tsteps (2 ^ k * x) k = x
  | 0 => by simp [tsteps]
  | k + 1 => by rw [tsteps_succ, Nat.pow_succ, show 2 ^ k * 2 * x = 2 * (2 ^ k * x) by rw [Nat.mul_comm (2 ^ k) 2, Nat.mul_assoc], tstep_two, tsteps_two x k]
theorem low_xor (c : Nat) : c = (c % 256) ^^^ (256 * (c / 256)) := by
  apply Nat.eq_of_testBit_eq
  intro i
  rw [Nat.testBit_xor, show (256 : Nat) = 2 ^ 8 from rfl, Nat.testBit_mod_two_pow, Nat.testBit_two_pow_mul, Nat.testBit_div_two_pow]
  by_cases h : i < 8
  · have : ¬ 8 ≤ i := by omega
    simp [h, this]
  · have h' : 8 ≤ i := by omega
    simp [h, h', Nat.sub_add_cancel h']
theorem xor_poly_lt {x y : Nat} (hx : x < 2147483648) (hy : y < 2147483648) : x ^^^ 3988292384 ≠ y := by
  intro h
  have h1 := congrArg (fun n => n.testBit 31) h
  simp only [Nat.testBit_xor] at h1
  rw [Nat.testBit_lt_two_pow (i := 31) (x := x) hx, Nat.testBit_lt_two_pow (i := 31) (x := y) hy] at h1
  revert h1
  decide
theorem xor_cancel {x y z : Nat} (h : x ^^^ z = y ^^^ z) : x = y := by
  have := congrArg (· ^^^ z) h
  simpa [Nat.xor_assoc] using this
theorem tstep_inj {x y : Nat} (hx : x < 4294967296) (hy : y < 4294967296) (h : tstep x = tstep y) : x = y := by
  unfold tstep at h
  split at h <;> split at h
  · have := xor_cancel h
    omega
  · exact absurd h (xor_poly_lt (by omega) (by omega))
  · exact absurd h.symm (xor_poly_lt (by omega) (by omega))
  · omega
theorem tsteps_inj {x y : Nat} (hx : x < 4294967296) (hy : y < 4294967296) : ∀ k, tsteps x k = tsteps y k → x = y
  | 0, h => h
  | k + 1, h => tsteps_inj hx hy k (tstep_inj (tsteps_lt hx k) (tsteps_lt hy k) h)

def ms (c b : Nat) : Nat := entry ((c % 256) ^^^ b) ^^^ (c / 256)
theorem ms_eq (c b : Nat) : ms c b = tsteps (c ^^^ b) 8 := by
  have h : c ^^^ b = (c % 256 ^^^ b) ^^^ (256 * (c / 256)) := by
    conv => lhs; rw [low_xor c]
    rw [Nat.xor_assoc, Nat.xor_comm _ b, ← Nat.xor_assoc]
  rw [h, tsteps_xor]
  unfold ms entry
  congr 1
  exact (tsteps_two (c / 256) 8).symm
theorem ms_lt {c b : Nat} (hc : c < 4294967296) (hb : b < 256) : ms c b < 4294967296 := by
  rw [ms_eq]
  exact tsteps_lt (Nat.xor_lt_two_pow (n := 32) hc (by omega)) 8
def crcN (c : Nat) (l : List Nat) : Nat := l.foldl ms c
theorem crcN_app (c : Nat) (l m : List Nat) : crcN c (l ++ m) = crcN (crcN c l) m := by simp [crcN]
theorem crcN_lt : ∀ {l : List Nat} {c : Nat}, (∀ x ∈ l, x < 256) → c < 4294967296 → crcN c l < 4294967296
  | [], c, _, h => h
  | b :: l, c, hl, h => crcN_lt (l := l) (fun x hx => hl x (by simp [hx])) (ms_lt h (hl b (by simp)))
def sumN (l : List Nat) : Nat := 4294967295 - crcN 4294967295 l
theorem sumN_lt (l : List Nat) : sumN l < 4294967296 := by unfold sumN; omega
/-- Bytes as one number, the first lowest. -/
def leN : List Nat → Nat
  | [] => 0
  | b :: l => b ^^^ (256 * leN l)
theorem tsteps_add (c j : Nat) : ∀ k, tsteps (tsteps c j) k = tsteps c (j + k)
  | 0 => rfl
  | k + 1 => by rw [tsteps, tsteps_add c j k]; rfl
theorem crcN_le : ∀ (l : List Nat) (c : Nat), crcN c l = tsteps (c ^^^ leN l) (8 * l.length)
  | [], c => by simp [crcN, leN, tsteps]
  | b :: l, c => by
    have ih := crcN_le l (ms c b)
    show crcN (ms c b) l = _
    have e : leN (b :: l) = b ^^^ (2 ^ 8 * leN l) := rfl
    rw [ih, ms_eq, e, ← Nat.xor_assoc, show 8 * (b :: l).length = 8 + 8 * l.length by simp; omega, ← tsteps_add]
    congr 1
    rw [tsteps_xor (c ^^^ b), tsteps_two]
theorem leN_div (b : Nat) (l : List Nat) (hb : b < 256) : leN (b :: l) / 256 = leN l ∧ leN (b :: l) % 256 = b := by
  have e : leN (b :: l) = b ^^^ (2 ^ 8 * leN l) := rfl
  rw [e, show (256 : Nat) = 2 ^ 8 from rfl, Nat.xor_div_two_pow, Nat.xor_mod_two_pow]
  simp only [Nat.mul_div_cancel_left _ (show 0 < 2 ^ 8 by decide), Nat.mul_mod_right]
  rw [Nat.div_eq_of_lt hb, Nat.mod_eq_of_lt hb]
  simp
theorem leN_inj : ∀ {l m : List Nat}, l.length = m.length → (∀ x ∈ l, x < 256) → (∀ x ∈ m, x < 256) → leN l = leN m → l = m
  | [], [], _, _, _, _ => rfl
  | b :: l, d :: m, h, hl, hm, he => by
    obtain ⟨a1, a2⟩ := leN_div b l (hl b (by simp))
    obtain ⟨b1, b2⟩ := leN_div d m (hm d (by simp))
    rw [he] at a1 a2
    rw [leN_inj (l := l) (m := m) (by simpa using h) (fun x hx => hl x (by simp [hx])) (fun x hx => hm x (by simp [hx])) (by omega)]
    congr 1
    omega
  | [], _ :: _, h, _, _, _ => by simp at h
  | _ :: _, [], h, _, _, _ => by simp at h
theorem leN_lt : ∀ {l : List Nat}, (∀ x ∈ l, x < 256) → leN l < 2 ^ (8 * l.length)
  | [], _ => by simp [leN]
  | b :: l, h => by
    have ih := leN_lt (l := l) (fun x hx => h x (by simp [hx]))
    have hb := h b (by simp)
    have e : 2 ^ (8 * (b :: l).length) = 2 ^ 8 * 2 ^ (8 * l.length) := by rw [← Nat.pow_add]; congr 1; simp; omega
    refine Nat.xor_lt_two_pow ?_ ?_
    · refine Nat.lt_of_lt_of_le hb ?_
      show 2 ^ 8 ≤ _
      exact Nat.pow_le_pow_right (by decide) (by simp; omega)
    · rw [e]
      show 2 ^ 8 * leN l < _
      exact Nat.mul_lt_mul_of_pos_left ih (by decide)
theorem crcN_inj {c : Nat} {l m : List Nat} (hc : c < 4294967296) (h : l.length = m.length) (h4 : l.length ≤ 4) (hl : ∀ x ∈ l, x < 256) (hm : ∀ x ∈ m, x < 256) (he : crcN c l = crcN c m) : l = m := by
  rw [crcN_le, crcN_le, h] at he
  have l1 := leN_lt hl
  have l2 := leN_lt hm
  have p1 : 2 ^ (8 * l.length) ≤ 2 ^ 32 := Nat.pow_le_pow_right (by decide) (by omega)
  have p2 : 2 ^ (8 * m.length) ≤ 2 ^ 32 := Nat.pow_le_pow_right (by decide) (by omega)
  have := tsteps_inj (Nat.xor_lt_two_pow (n := 32) hc (by omega)) (Nat.xor_lt_two_pow (n := 32) hc (by omega)) _ he
  rw [Nat.xor_comm c, Nat.xor_comm c] at this
  exact leN_inj h hl hm (xor_cancel this)
theorem crcN_state : ∀ {l : List Nat} {c d : Nat}, (∀ x ∈ l, x < 256) → c < 4294967296 → d < 4294967296 → crcN c l = crcN d l → c = d
  | [], c, d, _, _, _, h => h
  | b :: l, c, d, hl, hc, hd, h => by
    have hb := hl b (by simp)
    have h1 := crcN_state (l := l) (fun x hx => hl x (by simp [hx])) (ms_lt hc hb) (ms_lt hd hb) h
    rw [ms_eq, ms_eq] at h1
    exact xor_cancel (tsteps_inj (Nat.xor_lt_two_pow (n := 32) hc (by omega)) (Nat.xor_lt_two_pow (n := 32) hd (by omega)) 8 h1)
def be4N (s : Nat) : List Nat := [s / 16777216 % 256, s / 65536 % 256, s / 256 % 256, s % 256]
theorem be4N_inj {s t : Nat} (hs : s < 4294967296) (ht : t < 4294967296) (h : be4N s = be4N t) : s = t := by
  simp only [be4N, List.cons.injEq, and_true] at h
  omega
theorem be4N_lt (s : Nat) : ∀ x ∈ be4N s, x < 256 := fun x hx => by
  simp only [be4N, List.mem_cons, List.not_mem_nil, or_false] at hx
  omega
def sealN (l : List Nat) : List Nat := l ++ be4N (sumN l)
theorem sealN_len (l : List Nat) : (sealN l).length = l.length + 4 := by simp [sealN, be4N]
theorem sealN_lt {l : List Nat} (h : ∀ x ∈ l, x < 256) : ∀ x ∈ sealN l, x < 256 := fun x hx => by
  rcases List.mem_append.1 hx with h' | h'
  · exact h x h'
  · exact be4N_lt _ x h'
theorem sealN_take (l : List Nat) : (sealN l).take l.length = l := List.take_left' rfl
/-- Sums that are the same are of the same states. -/
theorem sumN_eq {l m : List Nat} (hl : ∀ x ∈ l, x < 256) (hm : ∀ x ∈ m, x < 256) (h : sumN l = sumN m) : crcN 4294967295 l = crcN 4294967295 m := by
  have h1 := crcN_lt (c := 4294967295) hl (by decide)
  have h2 := crcN_lt (c := 4294967295) hm (by decide)
  unfold sumN at h
  omega
/-- Alike but for a window of four: the sums differ. -/
theorem sum_window {A B B' C : List Nat} (hA : ∀ x ∈ A, x < 256) (hB : ∀ x ∈ B, x < 256) (hB' : ∀ x ∈ B', x < 256) (hC : ∀ x ∈ C, x < 256) (hlen : B.length = B'.length) (h4 : B.length ≤ 4) (h : sumN (A ++ B ++ C) = sumN (A ++ B' ++ C)) : B = B' := by
  have hall : ∀ {B : List Nat}, (∀ x ∈ B, x < 256) → ∀ x ∈ A ++ B ++ C, x < 256 := fun hB x hx => by
    simp only [List.mem_append] at hx
    rcases hx with (h | h) | h
    · exact hA x h
    · exact hB x h
    · exact hC x h
  have h1 := sumN_eq (hall hB) (hall hB') h
  have hcA := crcN_lt (c := 4294967295) hA (by decide)
  rw [crcN_app, crcN_app, crcN_app, crcN_app] at h1
  have h2 := crcN_state hC (crcN_lt hB hcA) (crcN_lt hB' hcA) h1
  exact crcN_inj hcA hlen h4 hB hB' h2
theorem xor_le32 {x : Nat} (h : x < 4294967296) : 4294967295 - x = x ^^^ 4294967295 := by
  have h1 := BitVec.toNat_not (x := BitVec.ofNat 32 x)
  rw [BitVec.not_def, BitVec.toNat_xor, BitVec.toNat_allOnes, BitVec.toNat_ofNat, Nat.mod_eq_of_lt (by omega)] at h1
  rw [← h1]
  exact Nat.xor_comm 4294967295 x
/-- One byte of the last ones changed: how the sum changes. -/
theorem sum_delta {A C : List Nat} {x e : Nat} (hA : ∀ y ∈ A, y < 256) (hC : ∀ y ∈ C, y < 256) (hx : x < 256) (he : e < 256) : sumN (A ++ (x ^^^ e) :: C) ^^^ sumN (A ++ x :: C) = tsteps e (8 * (C.length + 1)) := by
  have hxe : x ^^^ e < 256 := Nat.xor_lt_two_pow (n := 8) hx he
  have hcA := crcN_lt (c := 4294967295) hA (by decide)
  have hl : ∀ z, z < 256 → ∀ y ∈ z :: C, y < 256 := fun z hz y hy => by
    rcases List.mem_cons.1 hy with rfl | h
    · exact hz
    · exact hC y h
  have l1 := crcN_lt (hl _ hxe) hcA
  have l2 := crcN_lt (hl _ hx) hcA
  unfold sumN
  rw [crcN_app, crcN_app, xor_le32 l1, xor_le32 l2, crcN_le ((x ^^^ e) :: C), crcN_le (x :: C)]
  have hcan : ∀ a b c : Nat, (a ^^^ c) ^^^ (b ^^^ c) = a ^^^ b := fun a b c => by
    rw [Nat.xor_comm b c, Nat.xor_assoc, ← Nat.xor_assoc c c b, Nat.xor_self, Nat.zero_xor]
  have e1 : leN ((x ^^^ e) :: C) = leN (x :: C) ^^^ e := by
    show (x ^^^ e) ^^^ (256 * leN C) = (x ^^^ (256 * leN C)) ^^^ e
    rw [Nat.xor_assoc, Nat.xor_comm e, Nat.xor_assoc]
  rw [hcan, e1, ← Nat.xor_assoc, show ((x ^^^ e) :: C).length = C.length + 1 from rfl, show (x :: C).length = C.length + 1 from rfl, tsteps_xor, Nat.xor_comm, ← Nat.xor_assoc, Nat.xor_self, Nat.zero_xor]
theorem no_mix : ∀ j : Fin 3, ∀ p : Fin 3, tsteps 85 (8 * (j.val + 1)) ≠ 170 * 256 ^ (3 - p.val) ∧ tsteps 170 (8 * (j.val + 1)) ≠ 85 * 256 ^ (3 - p.val) := by decide +kernel
theorem be4N_delta {s t p e : Nat} (hs : s < 4294967296) (ht : t < 4294967296) (hp : p < 4) (he : e < 256) (h : be4N t = (be4N s).set p ((be4N s).getD p 0 ^^^ e)) : t ^^^ s = e * 256 ^ (3 - p) := by
  have hx : ∀ k, (t ^^^ s) / 2 ^ k % 2 ^ 8 = (t / 2 ^ k % 2 ^ 8) ^^^ (s / 2 ^ k % 2 ^ 8) := fun k => by rw [Nat.xor_div_two_pow, Nat.xor_mod_two_pow]
  have hlt : t ^^^ s < 4294967296 := Nat.xor_lt_two_pow (n := 32) ht hs
  have x0 := hx 0
  have x1 := hx 8
  have x2 := hx 16
  have x3 := hx 24
  simp only [Nat.pow_zero, Nat.div_one, show (2 : Nat) ^ 8 = 256 from rfl, show (2 : Nat) ^ 16 = 65536 from rfl, show (2 : Nat) ^ 24 = 16777216 from rfl] at x0 x1 x2 x3
  have hcan : ∀ a e : Nat, (a ^^^ e) ^^^ a = e := fun a e => by rw [Nat.xor_comm, ← Nat.xor_assoc, Nat.xor_self, Nat.zero_xor]
  generalize t ^^^ s = D at *
  rcases (show p = 0 ∨ p = 1 ∨ p = 2 ∨ p = 3 by omega) with rfl | rfl | rfl | rfl
  all_goals
    simp only [be4N, List.set_cons_zero, List.set_cons_succ, List.getD_cons_zero, List.getD_cons_succ, List.cons.injEq, and_true] at h
    obtain ⟨h1, h2, h3, h4⟩ := h
    rw [h4] at x0
    rw [h3] at x1
    rw [h2] at x2
    rw [h1] at x3
    simp only [Nat.xor_self, hcan] at x0 x1 x2 x3
    simp only [Nat.sub_zero, Nat.reduceSub, Nat.reducePow]
    omega
theorem getD_app_l {A B : List Nat} {i : Nat} (h : i < A.length) : (A ++ B).getD i 0 = A.getD i 0 := by simp [List.getD_eq_getElem?_getD, List.getElem?_append_left h]
theorem getD_app_r {A B : List Nat} {i : Nat} (h : A.length ≤ i) : (A ++ B).getD i 0 = B.getD (i - A.length) 0 := by simp [List.getD_eq_getElem?_getD, List.getElem?_append_right h]
theorem getD_set_same {A : List Nat} {i x : Nat} (h : i < A.length) : (A.set i x).getD i 0 = x := by simp [List.getD_eq_getElem?_getD, h]
theorem getD_set_other {A : List Nat} {i j x : Nat} (h : i ≠ j) : (A.set i x).getD j 0 = A.getD j 0 := by
  simp only [List.getD_eq_getElem?_getD]; rw [List.getElem?_set_ne h]
theorem xor_ne {x e : Nat} (he : e ≠ 0) : x ^^^ e ≠ x := fun h => he (by
  have := congrArg (fun z => x ^^^ z) h
  simpa [← Nat.xor_assoc] using this)
theorem split_at {l : List Nat} {p : Nat} (h : p < l.length) : l = l.take p ++ l.getD p 0 :: l.drop (p + 1) := by
  conv => lhs; rw [← List.take_append_drop p l]
  congr 1
  rw [List.drop_eq_getElem_cons h]
  simp [List.getD_eq_getElem?_getD, h]
theorem set_split {l : List Nat} {p x : Nat} (h : p < l.length) : l.set p x = l.take p ++ x :: l.drop (p + 1) := by
  conv => lhs; rw [split_at h]
  rw [List.set_append_right _ _ (by simp; omega)]
  congr 1
  rw [show p - (l.take p).length = 0 by simp; omega]
  rfl
theorem getD_lt256 {l : List Nat} (h : ∀ x ∈ l, x < 256) (i : Nat) : l.getD i 0 < 256 := by
  have := getD_lt (w := 8) h i
  exact this
theorem mem_set256 {l : List Nat} {i x : Nat} (h : ∀ y ∈ l, y < 256) (hx : x < 256) : ∀ y ∈ l.set i x, y < 256 := set_lt (w := 8) h hx
theorem one_bad {l : List Nat} {p e : Nat} (hl : ∀ x ∈ l, x < 256) (hp : p < l.length + 4) (he : e ≠ 0) (he2 : e < 256) : sealN (((sealN l).set p ((sealN l).getD p 0 ^^^ e)).take l.length) ≠ (sealN l).set p ((sealN l).getD p 0 ^^^ e) := by
  intro H
  by_cases h : p < l.length
  · have e1 : (sealN l).getD p 0 = l.getD p 0 := getD_app_l h
    rw [e1] at H
    have e2 : (sealN l).set p (l.getD p 0 ^^^ e) = l.set p (l.getD p 0 ^^^ e) ++ be4N (sumN l) := by unfold sealN; rw [List.set_append_left _ _ h]
    rw [e2, List.take_left' (by simp)] at H
    unfold sealN at H
    have h3 := be4N_inj (sumN_lt _) (sumN_lt _) (List.append_cancel_left H)
    have hx := getD_lt256 hl p
    have hxe : l.getD p 0 ^^^ e < 256 := Nat.xor_lt_two_pow (n := 8) hx he2
    have w := sum_window (A := l.take p) (B := [l.getD p 0 ^^^ e]) (B' := [l.getD p 0]) (C := l.drop (p + 1)) (fun x hx => hl x (List.mem_of_mem_take hx)) (fun z hz => by rw [List.mem_singleton] at hz; rw [hz]; exact hxe) (fun z hz => by rw [List.mem_singleton] at hz; rw [hz]; exact hx) (fun x hx => hl x (List.mem_of_mem_drop hx)) rfl (by simp)
      (by rw [List.append_assoc, List.append_assoc, List.singleton_append, List.singleton_append, ← set_split h, ← split_at h]; exact h3)
    simp only [List.cons.injEq, and_true] at w
    exact xor_ne he w
  · have e2 : (sealN l).set p ((sealN l).getD p 0 ^^^ e) = l ++ (be4N (sumN l)).set (p - l.length) ((sealN l).getD p 0 ^^^ e) := by
      conv => lhs; arg 1; unfold sealN
      rw [List.set_append_right _ _ (by omega)]
    rw [e2, List.take_left' rfl] at H
    have h3 := List.append_cancel_left H
    have h4 := congrArg (fun z => z.getD (p - l.length) 0) h3
    rw [getD_set_same (by simp [be4N]; omega)] at h4
    have e1 : (sealN l).getD p 0 = (be4N (sumN l)).getD (p - l.length) 0 := getD_app_r (by omega)
    rw [e1] at h4
    exact xor_ne he h4.symm
theorem two_bad {l : List Nat} {p q e e' : Nat} (hl : ∀ x ∈ l, x < 256) (hpq : p < q) (hq : q < l.length + 4) (h3 : q ≤ p + 3) (hee : (e = 85 ∧ e' = 170) ∨ (e = 170 ∧ e' = 85)) :
    sealN ((((sealN l).set p ((sealN l).getD p 0 ^^^ e)).set q ((sealN l).getD q 0 ^^^ e')).take l.length) ≠ ((sealN l).set p ((sealN l).getD p 0 ^^^ e)).set q ((sealN l).getD q 0 ^^^ e') := by
  intro H
  have he : e ≠ 0 ∧ e < 256 ∧ e' < 256 := by omega
  by_cases hqn : q < l.length
  · have hpn : p < l.length := by omega
    have e1 : (sealN l).getD p 0 = l.getD p 0 := getD_app_l hpn
    have e3 : (sealN l).getD q 0 = l.getD q 0 := getD_app_l hqn
    rw [e1, e3] at H
    have e2 : ((sealN l).set p (l.getD p 0 ^^^ e)).set q (l.getD q 0 ^^^ e') = (l.set p (l.getD p 0 ^^^ e)).set q (l.getD q 0 ^^^ e') ++ be4N (sumN l) := by unfold sealN; rw [List.set_append_left _ _ hpn, List.set_append_left _ _ (by simpa using hqn)]
    rw [e2, List.take_left' (by simp)] at H
    unfold sealN at H
    have hs := be4N_inj (sumN_lt _) (sumN_lt _) (List.append_cancel_left H)
    have hx := getD_lt256 hl p
    have hxe : l.getD p 0 ^^^ e < 256 := Nat.xor_lt_two_pow (n := 8) hx he.2.1
    have hye : l.getD q 0 ^^^ e' < 256 := Nat.xor_lt_two_pow (n := 8) (getD_lt256 hl q) he.2.2
    generalize hxd : l.getD p 0 ^^^ e = x at *
    generalize l.getD q 0 ^^^ e' = y at *
    have hl2 : l = l.take p ++ ((l.drop p).take (q - p + 1) ++ l.drop (q + 1)) := by
      conv => lhs; rw [← List.take_append_drop p l, ← List.take_append_drop (q - p + 1) (l.drop p), List.drop_drop, show p + (q - p + 1) = q + 1 by omega]
    have hB : ((l.drop p).take (q - p + 1)).length = q - p + 1 := by simp; omega
    have hA : (l.take p).length = p := by simp; omega
    have hm : (l.set p x).set q y = l.take p ++ ((((l.drop p).take (q - p + 1)).set 0 x).set (q - p) y ++ l.drop (q + 1)) := by
      conv => lhs; rw [hl2]
      rw [List.set_append_right _ _ (by omega), List.set_append_right _ _ (by omega), hA, Nat.sub_self, List.set_append_left _ _ (by omega), List.set_append_left _ _ (by simp; omega)]
    rw [hm] at hs
    conv at hs => rhs; rw [hl2]
    rw [← List.append_assoc, ← List.append_assoc] at hs
    have hBl : ∀ x ∈ (l.drop p).take (q - p + 1), x < 256 := fun x hx => hl x (List.mem_of_mem_drop (List.mem_of_mem_take hx))
    have w := sum_window (fun x hx => hl x (List.mem_of_mem_take hx)) (mem_set256 (mem_set256 hBl hxe) hye) hBl (fun x hx => hl x (List.mem_of_mem_drop hx)) (by simp) (by simp; omega) hs
    have w0 := congrArg (fun z => z.getD 0 0) w
    rw [getD_set_other (by omega), getD_set_same (by omega)] at w0
    have : ((l.drop p).take (q - p + 1)).getD 0 0 = l.getD p 0 := by simp [List.getD_eq_getElem?_getD, List.getElem?_take, List.getElem?_drop]
    rw [this, ← hxd] at w0
    exact xor_ne he.1 w0
  · by_cases hpn : p < l.length
    · have e1 : (sealN l).getD p 0 = l.getD p 0 := getD_app_l hpn
      have e3 : (sealN l).getD q 0 = (be4N (sumN l)).getD (q - l.length) 0 := getD_app_r (by omega)
      rw [e1, e3] at H
      have e2 : ((sealN l).set p (l.getD p 0 ^^^ e)).set q ((be4N (sumN l)).getD (q - l.length) 0 ^^^ e') = l.set p (l.getD p 0 ^^^ e) ++ (be4N (sumN l)).set (q - l.length) ((be4N (sumN l)).getD (q - l.length) 0 ^^^ e') := by
        conv => lhs; arg 1; unfold sealN
        rw [List.set_append_left _ _ hpn, List.set_append_right _ _ (by simp; omega), List.length_set]
      rw [e2, List.take_left' (by simp)] at H
      have h5 := List.append_cancel_left H
      have d1 := be4N_delta (sumN_lt _) (sumN_lt _) (by omega) he.2.2 h5
      rw [set_split hpn] at d1
      conv at d1 => lhs; rhs; rw [split_at hpn]
      have hx := getD_lt256 hl p
      rw [sum_delta (fun x hx => hl x (List.mem_of_mem_take hx)) (fun x hx => hl x (List.mem_of_mem_drop hx)) hx he.2.1] at d1
      have hC : (l.drop (p + 1)).length = l.length - 1 - p := by simp; omega
      rw [hC] at d1
      have n1 := no_mix ⟨l.length - 1 - p, by omega⟩ ⟨q - l.length, by omega⟩
      rcases hee with ⟨rfl, rfl⟩ | ⟨rfl, rfl⟩
      · exact n1.1 d1
      · exact n1.2 d1
    · have e2 : ((sealN l).set p ((sealN l).getD p 0 ^^^ e)).set q ((sealN l).getD q 0 ^^^ e') = l ++ ((be4N (sumN l)).set (p - l.length) ((sealN l).getD p 0 ^^^ e)).set (q - l.length) ((sealN l).getD q 0 ^^^ e') := by
        conv => lhs; arg 1; arg 1; unfold sealN
        rw [List.set_append_right _ _ (by omega), List.set_append_right _ _ (by omega)]
      rw [e2, List.take_left' rfl] at H
      have h5 := List.append_cancel_left H
      have h4 := congrArg (fun z => z.getD (p - l.length) 0) h5
      rw [getD_set_other (by omega), getD_set_same (by simp [be4N]; omega)] at h4
      have e1 : (sealN l).getD p 0 = (be4N (sumN l)).getD (p - l.length) 0 := getD_app_r (by omega)
      rw [e1] at h4
      exact xor_ne he.1 h4.symm
end Go.Proofs.Ythbcfjlalmhabaa
