import Derived.Test.YteookgjmohokiaaGreatE8
namespace Go.Proofs.YteookgjmohokiaaGreat
open Go.Eng
set_option linter.unusedSimpArgs false
set_option linter.unusedVariables false
set_option maxRecDepth 100000
def tstep (c : Nat) : Nat := if c % 2 = 1 then (c / 2) ^^^ 3988292384 else c / 2
def tsteps (c : Nat) : Nat → Nat
  | 0 => c
  | k + 1 => tstep (tsteps c k)
def entry (i : Nat) : Nat := tsteps i 8
theorem tstep_lt {c : Nat} (h : c < 4294967296) : tstep c < 4294967296 := by
  unfold tstep
  split
  · exact Nat.xor_lt_two_pow (n := 32) (by omega) (by omega)
  · omega
theorem tsteps_lt {c : Nat} (h : c < 4294967296) : ∀ k, tsteps c k < 4294967296
  | 0 => h
  | k + 1 => tstep_lt (tsteps_lt h k)
theorem entry_lt {i : Nat} (h : i < 256) : entry i < 4294967296 := tsteps_lt (by omega) 8
def enV (i : Nat) : Value := .int .u32 (entry i : Int)
def tabTo (i : Nat) : List Value := (List.range i).map enV ++ List.replicate (256 - i) (.int .u32 0)
theorem tabTo_len {i : Nat} (h : i ≤ 256) : (tabTo i).length = 256 := by
  unfold tabTo; rw [List.length_append, List.length_map, List.length_range, List.length_replicate]; omega
theorem tabTo_set {i : Nat} (h : i < 256) : (tabTo i).set i (enV i) = tabTo (i + 1) := by
  unfold tabTo
  rw [List.range_succ, List.map_append, List.set_append_right _ _ (by simp)]
  simp only [List.length_map, List.length_range, Nat.sub_self, List.map_cons, List.map_nil, List.append_assoc, List.singleton_append]
  rw [show 256 - i = (256 - (i + 1)) + 1 by omega, List.replicate_succ]
  rfl
theorem tabTo_get {m : Nat} (h : m < 256) : (tabTo 256)[m]? = some (enV m) := by
  unfold tabTo
  rw [List.getElem?_append_left (by simpa using h), List.getElem?_map, List.getElem?_range h]
  rfl
theorem tabTo_zero : tabTo 0 = List.replicate 256 (.int .u32 0) := by
  unfold tabTo; rw [List.range_zero, List.map_nil, List.nil_append]

theorem xor_mod_two (x y : Nat) : (x ^^^ y) % 2 = (x + y) % 2 := by
  have h := Nat.xor_mod_two_pow (a := x) (b := y) (n := 1)
  rw [show (2 : Nat) ^ 1 = 2 from rfl] at h
  rw [h]
  rcases Nat.mod_two_eq_zero_or_one x with hx | hx <;> rcases Nat.mod_two_eq_zero_or_one y with hy | hy <;> rw [hx, hy] <;> simp <;> omega
theorem tstep_xor (x y : Nat) : tstep (x ^^^ y) = tstep x ^^^ tstep y := by
  have h1 : (x ^^^ y) / 2 = (x / 2) ^^^ (y / 2) := Nat.xor_div_two
  have h2 : (x ^^^ y) % 2 = (x + y) % 2 := xor_mod_two x y
  unfold tstep
  rw [h1, h2]
  rcases Nat.mod_two_eq_zero_or_one x with hx | hx <;> rcases Nat.mod_two_eq_zero_or_one y with hy | hy
  · rw [if_neg (by omega), if_neg (by omega), if_neg (by omega)]
  · rw [if_pos (by omega), if_neg (by omega), if_pos (by omega), Nat.xor_assoc]
  · rw [if_pos (by omega), if_pos (by omega), if_neg (by omega), Nat.xor_assoc, Nat.xor_assoc, Nat.xor_comm (y / 2)]
  · rw [if_neg (by omega), if_pos (by omega), if_pos (by omega)]
    rw [Nat.xor_comm (y / 2), Nat.xor_assoc, ← Nat.xor_assoc 3988292384, Nat.xor_self, Nat.zero_xor]
theorem tsteps_xor (x y : Nat) : ∀ k, tsteps (x ^^^ y) k = tsteps x k ^^^ tsteps y k
  | 0 => rfl
  | k + 1 => by rw [tsteps, tsteps, tsteps, tsteps_xor x y k, tstep_xor]
theorem tstep_two (x : Nat) : tstep (2 * x) = x := by
  unfold tstep
  rw [if_neg (by omega)]
  omega
theorem tsteps_succ (x : Nat) : ∀ k, tsteps x (k + 1) = tsteps (tstep x) k
  | 0 => rfl
  | k + 1 => by rw [tsteps, tsteps_succ x k, tsteps]
theorem tsteps_two (x : Nat) : ∀ k, tsteps (2 ^ k * x) k = x
  | 0 => by simp [tsteps]
  | k + 1 => by rw [tsteps_succ, Nat.pow_succ, show 2 ^ k * 2 * x = 2 * (2 ^ k * x) by rw [Nat.mul_comm (2 ^ k) 2, Nat.mul_assoc], tstep_two, tsteps_two x k]
theorem low_xor (c : Nat) : c = (c % 256) ^^^ (256 * (c / 256)) := by
  apply Nat.eq_of_testBit_eq
  intro i
  rw [Nat.testBit_xor, show (256 : Nat) = 2 ^ 8 from rfl, Nat.testBit_mod_two_pow, Nat.testBit_two_pow_mul, Nat.testBit_div_two_pow]
  by_cases h : i < 8
  · have : ¬ 8 ≤ i := by omega
    simp [h, this]
  · have h' : 8 ≤ i := by omega
    simp [h, h', Nat.sub_add_cancel h']
theorem xor_poly_lt {x y : Nat} (hx : x < 2147483648) (hy : y < 2147483648) : x ^^^ 3988292384 ≠ y := by
  intro h
  have h1 := congrArg (fun n => n.testBit 31) h
  simp only [Nat.testBit_xor] at h1
  rw [Nat.testBit_lt_two_pow (i := 31) (x := x) hx, Nat.testBit_lt_two_pow (i := 31) (x := y) hy] at h1
  revert h1
  decide
theorem xor_cancel {x y z : Nat} (h : x ^^^ z = y ^^^ z) : x = y := by
  have := congrArg (· ^^^ z) h
  simpa [Nat.xor_assoc] using this
theorem tstep_inj {x y : Nat} (hx : x < 4294967296) (hy : y < 4294967296) (h : tstep x = tstep y) : x = y := by
  unfold tstep at h
  split at h <;> split at h
  · have := xor_cancel h
    omega
  · exact absurd h (xor_poly_lt (by omega) (by omega))
  · exact absurd h.symm (xor_poly_lt (by omega) (by omega))
  · omega
theorem tsteps_inj {x y : Nat} (hx : x < 4294967296) (hy : y < 4294967296) : ∀ k, tsteps x k = tsteps y k → x = y
  | 0, h => h
  | k + 1, h => tsteps_inj hx hy k (tstep_inj (tsteps_lt hx k) (tsteps_lt hy k) h)

def ms (c b : Nat) : Nat := entry ((c % 256) ^^^ b) ^^^ (c / 256)
theorem ms_eq (c b : Nat) : ms c b = tsteps (c ^^^ b) 8 := by
  have h : c ^^^ b = (c % 256 ^^^ b) ^^^ (256 * (c / 256)) := by
    conv => lhs; rw [low_xor c]
    rw [Nat.xor_assoc, Nat.xor_comm _ b, ← Nat.xor_assoc]
  rw [h, tsteps_xor]
  unfold ms entry
  congr 1
  exact (tsteps_two (c / 256) 8).symm
theorem ms_lt {c b : Nat} (hc : c < 4294967296) (hb : b < 256) : ms c b < 4294967296 := by
  rw [ms_eq]
  exact tsteps_lt (Nat.xor_lt_two_pow (n := 32) hc (by omega)) 8
def crcN (c : Nat) (l : List Nat) : Nat := l.foldl ms c
theorem crcN_app (c : Nat) (l m : List Nat) : crcN c (l ++ m) = crcN (crcN c l) m := by simp [crcN]
theorem crcN_lt : ∀ {l : List Nat} {c : Nat}, (∀ x ∈ l, x < 256) → c < 4294967296 → crcN c l < 4294967296
  | [], c, _, h => h
  | b :: l, c, hl, h => crcN_lt (l := l) (fun x hx => hl x (by simp [hx])) (ms_lt h (hl b (by simp)))
def crcS (l : List Nat) : Nat := 4294967295 - crcN 4294967295 l
theorem sumN_lt (l : List Nat) : crcS l < 4294967296 := by unfold crcS; omega
def leN : List Nat → Nat
  | [] => 0
  | b :: l => b ^^^ (256 * leN l)
theorem tsteps_add (c j : Nat) : ∀ k, tsteps (tsteps c j) k = tsteps c (j + k)
  | 0 => rfl
  | k + 1 => by rw [tsteps, tsteps_add c j k]; rfl
theorem leN_div (b : Nat) (l : List Nat) (hb : b < 256) : leN (b :: l) / 256 = leN l ∧ leN (b :: l) % 256 = b := by
  have e : leN (b :: l) = b ^^^ (2 ^ 8 * leN l) := rfl
  rw [e, show (256 : Nat) = 2 ^ 8 from rfl, Nat.xor_div_two_pow, Nat.xor_mod_two_pow]
  simp only [Nat.mul_div_cancel_left _ (show 0 < 2 ^ 8 by decide), Nat.mul_mod_right]
  rw [Nat.div_eq_of_lt hb, Nat.mod_eq_of_lt hb]
  simp
def be4N (s : Nat) : List Nat := [s / 16777216 % 256, s / 65536 % 256, s / 256 % 256, s % 256]
theorem be4N_lt (s : Nat) : ∀ x ∈ be4N s, x < 256 := fun x hx => by
  simp only [be4N, List.mem_cons, List.not_mem_nil, or_false] at hx
  omega
def sealN (l : List Nat) : List Nat := l ++ be4N (crcS l)
theorem sealN_len (l : List Nat) : (sealN l).length = l.length + 4 := by simp [sealN, be4N]
theorem sealN_lt {l : List Nat} (h : ∀ x ∈ l, x < 256) : ∀ x ∈ sealN l, x < 256 := fun x hx => by
  rcases List.mem_append.1 hx with h' | h'
  · exact h x h'
  · exact be4N_lt _ x h'
theorem xor_le32 {x : Nat} (h : x < 4294967296) : 4294967295 - x = x ^^^ 4294967295 := by
  have h1 := BitVec.toNat_not (x := BitVec.ofNat 32 x)
  rw [BitVec.not_def, BitVec.toNat_xor, BitVec.toNat_allOnes, BitVec.toNat_ofNat, Nat.mod_eq_of_lt (by omega)] at h1
  rw [← h1]
  exact Nat.xor_comm 4294967295 x
theorem getD_lt256 {l : List Nat} (h : ∀ x ∈ l, x < 256) (i : Nat) : l.getD i 0 < 256 := by
  have := getD_lt (w := 8) h i
  exact this
end Go.Proofs.YteookgjmohokiaaGreat
