import Derived.Test.YtflpdbhabknekaaCrcC
/-! The plain laws of package crc. -/
namespace Go.Proofs.Ytflpdbhabknekaa
open Go.Eng
set_option linter.unusedSimpArgs false
set_option linter.unusedVariables false

theorem xor_mod_two (x y : Nat) : (x ^^^ y) % 2 = (x + y) % 2 := by
  have h := Nat.xor_mod_two_pow (a := x) (b := y) (n := 1)
  rw [show (2 : Nat) ^ 1 = 2 from rfl] at h
  rw [h]
  rcases Nat.mod_two_eq_zero_or_one x with hx | hx <;> rcases Nat.mod_two_eq_zero_or_one y with hy | hy <;> rw [hx, hy] <;> simp <;> omega
theorem tstep_xor (x y : Nat) : tstep (x ^^^ y) = tstep x ^^^ tstep y := by
  have h1 : (x ^^^ y) / 2 = (x / 2) ^^^ (y / 2) := Nat.xor_div_two
  have h2 : (x ^^^ y) % 2 = (x + y) % 2 := xor_mod_two x y
  unfold tstep
  rw [h1, h2]
  rcases Nat.mod_two_eq_zero_or_one x with hx | hx <;> rcases Nat.mod_two_eq_zero_or_one y with hy | hy
  · rw [if_neg (by omega), if_neg (by omega), if_neg (by omega)]
  · rw [if_pos (by omega), if_neg (by omega), if_pos (by omega), Nat.xor_assoc]
  · rw [if_pos (by omega), if_pos (by omega), if_neg (by omega), Nat.xor_assoc, Nat.xor_assoc, Nat.xor_comm (y / 2)]
  · rw [if_neg (by omega), if_pos (by omega), if_pos (by omega)]
    rw [Nat.xor_comm (y / 2), Nat.xor_assoc, ← Nat.xor_assoc 3988292384, Nat.xor_self, Nat.zero_xor]
theorem tsteps_xor (x y : Nat) : ∀ k, tsteps (x ^^^ y) k = tsteps x k ^^^ tsteps y k
  | 0 => rfl
  | k + 1 => by rw [tsteps, tsteps, tsteps, tsteps_xor x y k, tstep_xor]
theorem tstep_two (x : Nat) : tstep (2 * x) = x := by
  unfold tstep
  rw [if_neg (by omega)]
  omega
theorem tsteps_succ (x : Nat) : ∀ k, tsteps x (k + 1) = tsteps (tstep x) k
  | 0 => rfl
  | k + 1 => by rw [tsteps, tsteps_succ x k, tsteps]
theorem tsteps_two (x : Nat) : ∀ k, tsteps (2 ^ k * x) k = x
  | 0 => by simp [tsteps]
  | k + 1 => by rw [tsteps_succ, Nat.pow_succ, show 2 ^ k * 2 * x = 2 * (2 ^ k * x) by rw [Nat.mul_comm (2 ^ k) 2, Nat.mul_assoc], tstep_two, tsteps_two x k]
theorem step1_xor (s b : Nat) : tstep (s ^^^ b) = step1 s (b % 2) ^^^ (b / 2) := by
  have h1 : (s ^^^ b) / 2 = (s / 2) ^^^ (b / 2) := Nat.xor_div_two
  have h2 : (s ^^^ b) % 2 = (s + b) % 2 := xor_mod_two s b
  unfold tstep step1
  rw [h1, h2]
  by_cases h : s % 2 = b % 2
  · rw [if_neg (by omega), if_pos h]
  · rw [if_pos (by omega), if_neg h, Nat.xor_assoc, Nat.xor_comm (b / 2), Nat.xor_assoc]
theorem steps_xor (c b : Nat) : ∀ k, steps c b k ^^^ (b / 2 ^ k) = tsteps (c ^^^ b) k
  | 0 => by simp [steps, tsteps]
  | k + 1 => by
    rw [tsteps, ← steps_xor c b k, step1_xor, steps, Nat.div_div_eq_div_mul, Nat.pow_succ]
theorem low_xor (c : Nat) : c = (c % 256) ^^^ (256 * (c / 256)) := by
  apply Nat.eq_of_testBit_eq
  intro i
  rw [Nat.testBit_xor, show (256 : Nat) = 2 ^ 8 from rfl, Nat.testBit_mod_two_pow, Nat.testBit_two_pow_mul, Nat.testBit_div_two_pow]
  by_cases h : i < 8
  · have : ¬ 8 ≤ i := by omega
    simp [h, this]
  · have h' : 8 ≤ i := by omega
    simp [h, h', Nat.sub_add_cancel h']
theorem moreStep_tsteps (c : Nat) (b : UInt8) : moreStep c b = tsteps (c ^^^ b.toNat) 8 := by
  have h : c ^^^ b.toNat = (c % 256 ^^^ b.toNat) ^^^ (256 * (c / 256)) := by
    conv => lhs; rw [low_xor c]
    rw [Nat.xor_assoc, Nat.xor_comm _ b.toNat, ← Nat.xor_assoc]
  rw [h, tsteps_xor]
  unfold moreStep entry
  congr 1
  exact (tsteps_two (c / 256) 8).symm
theorem moreStep_steps (c : Nat) (b : UInt8) : moreStep c b = steps c b.toNat 8 := by
  rw [moreStep_tsteps, ← steps_xor]
  have := b.toNat_lt
  rw [show b.toNat / 2 ^ 8 = 0 by omega, Nat.xor_zero]
theorem crcT_eq (c : Nat) (l : List UInt8) : crcT c l = l.foldl (fun c b => steps c b.toNat 8) c := by
  unfold crcT
  congr 1
  funext c b
  exact moreStep_steps c b
theorem crcT_app (c : Nat) (l m : List UInt8) : crcT c (l ++ m) = crcT (crcT c l) m := by simp [crcT]
theorem crcSum_ref (l : List UInt8) : crcSum l = refSum l := by
  unfold crcSum more refSum crcR
  rw [crcT_eq]
theorem more_ref (l m : List UInt8) : more (crcSum l) m = refSum (l ++ m) := by
  have h := crcT_lt l (c := 4294967295) (by omega)
  rw [← crcSum_ref]
  unfold crcSum more
  rw [crcT_app]
  rw [show 4294967295 - (4294967295 - crcT (4294967295 - 0) l) = crcT (4294967295 - 0) l from Nat.sub_sub_self (Nat.le_of_lt_succ h)]
end Go.Proofs.Ytflpdbhabknekaa
