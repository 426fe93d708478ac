import Derived.Test.YtpkfddfkacijoaaGreatDoorWb
import Derived.Test.YtpkfddfkacijoaaGreatDoorZ2
import Derived.Test.YtpkfddfkacijoaaGreatDoorFa
import Derived.Test.YtpkfddfkacijoaaGreatDoorE6
import Derived.Test.YtpkfddfkacijoaaGreatDoorYb
import Derived.Test.YtpkfddfkacijoaaGreatDoorE7
namespace Go.Proofs.YtpkfddfkacijoaaGreatDoor
open Go.Eng Go.Vx
set_option linter.unusedSimpArgs false
set_option linter.unusedVariables false
set_option maxRecDepth 100000

end Go.Proofs.YtpkfddfkacijoaaGreatDoor

namespace Go.Proofs.YtpkfddfkacijoaaGreatDoor
open Go.Eng Go.Vx
set_option linter.unusedSimpArgs false
set_option linter.unusedVariables false
set_option maxRecDepth 100000
theorem rat_div_eq {x y : Rat} : ((x.num * (y.den : Int) : Int) : Rat) / ((y.num * (x.den : Int) : Int) : Rat) = x / y := by
  rw [← Rat.divInt_eq_div, Rat.div_def x y, Rat.inv_def]
  conv => rhs; rw [← Rat.num_divInt_den x]
  rw [Rat.divInt_mul_divInt, Int.mul_comm y.num]
theorem rat_num_ne {y : Rat} (h : y ≠ 0) : y.num ≠ 0 := fun e => h (Rat.num_eq_zero.1 e)
theorem rdiv_fn {x y : Rat} (hy0 : y ≠ 0) (hx : RS 400000 x) (hy : RS 400000 y) : Fn1 Tryz.prog 81 [RV x, RV y] [] (.tup [RV (x / y), .lit (.int .i64 0)]) [] := by
  obtain ⟨hx1, hx2⟩ := hx
  obtain ⟨hy1, hy2⟩ := hy
  have hm1 := wmul_fn (x := x.num) (y := (y.den : Int)) (by omega) (by simp only [Int.natAbs_natCast]; omega)
  have hm2 := wmul_fn (x := y.num) (y := (x.den : Int)) (by omega) (by simp only [Int.natAbs_natCast]; omega)
  have hl1 := len_mulZ (x := x.num) (y := (y.den : Int)) hx1 (by simp only [Int.natAbs_natCast]; exact hy2)
  have hl2 := len_mulZ (x := y.num) (y := (x.den : Int)) hy1 (by simp only [Int.natAbs_natCast]; exact hx2)
  have hn0 : y.num * (x.den : Int) ≠ 0 := Int.mul_ne_zero (rat_num_ne hy0) (by have := x.den_nz; omega)
  have hr := rfrac_fn (p := x.num * (y.den : Int)) (q := y.num * (x.den : Int)) hn0 (by omega) (by omega)
  rw [rat_div_eq] at hr
  refine fn1N_of pl81 (by kernel_rfl) Tryz.call81 Tryz.func81 rfl (by kernel_rfl) rfl [.cell 4 91, .tmp 5] (by kernel_rfl) fun Q hQ => ?_
  refine runW ?_
  refine callV0 (rdenw_fn (x := y) (by omega)) rfl rfl ?_
  refine runW ?_
  refine callV0 (hm1) rfl rfl ?_
  refine runW ?_
  refine callV0 (rdenw_fn (x := x) (by omega)) rfl rfl ?_
  refine runW ?_
  refine callV0 (hm2) rfl rfl ?_
  refine runW ?_
  refine callV0 (hr) rfl rfl ?_
  refine runW ?_
  exact endW [] hQ
theorem RS_div {k l : Nat} {x y : Rat} (hk : 1 ≤ k + l) (hx : RS k x) (hy : RS l y) : RS (k + l) (x / y) := by
  by_cases h : y = 0
  · subst h
    have e : x / 0 = 0 := by rw [Rat.div_def, Rat.inv_zero, Rat.mul_zero]
    rw [e]
    exact ⟨by rw [show (0 : Rat).num.natAbs = 0 from rfl, wg_zero]; exact Nat.zero_le _, Nat.le_trans (wg_one (by decide)) hk⟩
  · have hn0 : y.num * (x.den : Int) ≠ 0 := Int.mul_ne_zero (rat_num_ne h) (by have := x.den_nz; omega)
    rw [← rat_div_eq, ← frac_eq hn0]
    refine RS_mk (by omega) ?_ ?_
    · rw [sg_abs]
      exact len_mulZ hx.1 (by simp only [Int.natAbs_natCast]; exact hy.2)
    · have := len_mulZ (x := y.num) (y := (x.den : Int)) hy.1 (by simp only [Int.natAbs_natCast]; exact hx.2)
      omega
end Go.Proofs.YtpkfddfkacijoaaGreatDoor

namespace Go.Proofs.YtpkfddfkacijoaaGreatDoor
open Go.Eng Go.Vx
set_option linter.unusedSimpArgs false
set_option linter.unusedVariables false
set_option maxRecDepth 100000
def goodB (P D : Nat) : Prop := ¬ (D = 0 ∨ D < P)
def powR (L : List Bool) (P D : Nat) : Nat → Nat → Bool × Int × Nat × Bool
  | 0, p => (true, 0, p, false)
  | k + 1, p => if (ratX L P D p).1 then powR L P D k (ratX L P D p).2.2.1 else ratX L P D p
def powX (L : List Bool) (P D K p : Nat) : Bool × Int × Nat × Bool := if D = 0 ∨ D < P then (false, 2, p, false) else powR L P D K p
end Go.Proofs.YtpkfddfkacijoaaGreatDoor

namespace Go.Proofs.YtpkfddfkacijoaaGreatDoor
open Go.Eng Go.Vx
set_option linter.unusedSimpArgs false
set_option linter.unusedVariables false
set_option maxRecDepth 100000
end Go.Proofs.YtpkfddfkacijoaaGreatDoor

namespace Go.Proofs.YtpkfddfkacijoaaGreatDoor
open Go.Eng
set_option linter.unusedSimpArgs false
set_option linter.unusedVariables false
theorem log_ok : ∀ b : Fin 65, 1 ≤ b.val → 2 ^ b.val ≤ 10 ^ (b.val * 78913 / 262144 + 1) ∧ (b.val * 78913 / 262144 = 0 ∨ 10 ^ (b.val * 78913 / 262144 - 1) ≤ 2 ^ (b.val - 1)) ∧ b.val * 78913 / 262144 < 20 := by decide +kernel
theorem nd10_log {d : Nat} (h0 : d ≠ 0) (h : d < 18446744073709551616) : nd10 d = bl d * 78913 / 262144 + (if 10 ^ (bl d * 78913 / 262144) ≤ d then 1 else 0) ∧ bl d * 78913 / 262144 < 20 := by
  have h1 := bl_lt d
  have h2 := bl_le (n := d) h0
  have h3 := bl_le_of (n := d) (k := 64) (by omega)
  have h4 : 1 ≤ bl d := by
    rcases Nat.eq_zero_or_pos (bl d) with e | e
    · rw [e] at h1; simp at h1; omega
    · exact e
  obtain ⟨k1, k2, k3⟩ := log_ok ⟨bl d, by omega⟩ h4
  simp only at k1 k2 k3
  refine ⟨?_, k3⟩
  generalize bl d * 78913 / 262144 = k at *
  by_cases hc : 10 ^ k ≤ d
  · rw [if_pos hc]
    exact nd10_eq (by omega) (Nat.lt_of_lt_of_le h1 k1) (.inl (by rw [Nat.add_sub_cancel]; exact hc))
  · rw [if_neg hc, Nat.add_zero]
    have hk : k ≠ 0 := fun e => by subst e; simp at hc; omega
    exact nd10_eq (by omega) (by omega) (.inl (Nat.le_trans (k2.resolve_left hk) h2))
end Go.Proofs.YtpkfddfkacijoaaGreatDoor
