import Derived.Test.YtpkfddfkacijoaaDoorE6
import Derived.Test.YtpkfddfkacijoaaDoorE7
import Derived.Test.YtpkfddfkacijoaaDoorFa
import Derived.Test.YtpkfddfkacijoaaDoorYa
namespace Go.Proofs.YtpkfddfkacijoaaDoor
open Go.Eng Go.Vx
set_option linter.unusedSimpArgs false
set_option linter.unusedVariables false
set_option maxRecDepth 100000
theorem tab_ix {s : ByteArray} {z : Nat} {F : Bool → V → Prop} (h : ∀ z : Fin 256, strAt s z.val = bl z.val) (hs : s.size = 256) (hz : z < 256) :
    ixvV Tryd.prog 9 (.lit (.string s)) (.lit (.int .u8 (z : Int))) F = F true (.lit (.int .u8 (bl z : Int))) := by
  rw [vis_9 (by omega), show ((z : Nat) : Int).toNat = z by omega, h ⟨z, hz⟩]
theorem len64_fn {n : Nat} (hn : n < 18446744073709551616) : Fn1 Tryd.prog 43 [.lit (.int .u64 n)] [] (.lit (.int .i64 (bl n : Int))) [] := by
  refine fn1N_of pl43 (by kernel_rfl) Tryd.call43 Tryd.func43 rfl (by kernel_rfl) rfl [.tmp 2] (by kernel_rfl) fun Q hQ => ?_
  obtain ⟨c, hc⟩ : ∃ c : Int, c = bl n := ⟨_, rfl⟩
  rw [← hc] at hQ
  by_cases h32 : 4294967296 ≤ n
  case' pos =>
    have e1 := bl_div (n := n) (k := 32) h32
    refine runW ?_
    rw [show (n : Int) / 4294967296 = ((n / 2 ^ 32 : Nat) : Int) by omega]
    have hx : n / 2 ^ 32 < 4294967296 := by omega
    generalize n / 2 ^ 32 = x at *
  case' neg =>
    refine runW ?_
    have hx : n < 4294967296 := by omega
    have e1 : bl n = 0 + bl n := by omega
    obtain ⟨x, rfl⟩ : ∃ x, x = n := ⟨_, rfl⟩
  all_goals
    by_cases h16 : 65536 ≤ x
    case' pos =>
      have e2 := bl_div (n := x) (k := 16) h16
      refine runW ?_
      rw [show (x : Int) / 65536 = ((x / 2 ^ 16 : Nat) : Int) by omega]
      have hy : x / 2 ^ 16 < 65536 := by omega
      generalize x / 2 ^ 16 = y at *
    case' neg =>
      refine runW ?_
      have hy : x < 65536 := by omega
      have e2 : bl x = 0 + bl x := by omega
      obtain ⟨y, rfl⟩ : ∃ y, y = x := ⟨_, rfl⟩
  all_goals
    by_cases h8 : 256 ≤ y
    case' pos =>
      have e3 := bl_div (n := y) (k := 8) h8
      refine runW ?_
      rw [show (y : Int) / 256 = ((y / 2 ^ 8 : Nat) : Int) by omega]
      have hz : y / 2 ^ 8 < 256 := by omega
      generalize y / 2 ^ 8 = z at *
    case' neg =>
      refine runW ?_
      have hz : y < 256 := by omega
      have e3 : bl y = 0 + bl y := by omega
      obtain ⟨z, rfl⟩ : ∃ z, z = y := ⟨_, rfl⟩
  all_goals
    have hb8 := bl_le_of (n := z) (k := 8) hz
    rw [tab_ix (of_decide_eq_true (by kernel_rfl)) (by kernel_rfl) hz]
    refine runW ?_
    exact endW [] hQ
end Go.Proofs.YtpkfddfkacijoaaDoor

namespace Go.Proofs.YtpkfddfkacijoaaDoor
open Go.Eng Go.Vx
set_option linter.unusedSimpArgs false
set_option linter.unusedVariables false
set_option maxRecDepth 100000
theorem log10_fn {x : Nat} (hx : x ≤ 64) : Fn1 Tryd.prog 88 [.lit (.int .i64 (x : Int))] [] (.lit (.int .i64 ((x * 78913 / 262144 : Nat) : Int))) [] := by
  refine fn1N_of pl88 (by kernel_rfl) Tryd.call88 Tryd.func88 rfl (by kernel_rfl) rfl [.tmp 2] (by kernel_rfl) fun Q hQ => ?_
  refine runW ?_
  exact endW [] hQ
theorem bool2_fn {b : Bool} : Fn1 Tryd.prog 89 [.lit (.bool b)] [] (.lit (.int .i64 (if b then 1 else 0))) [] := by
  refine fn1N_of pl89 (by kernel_rfl) Tryd.call89 Tryd.func89 rfl (by kernel_rfl) rfl [.tmp 2] (by kernel_rfl) fun Q hQ => ?_
  cases b
  · refine runW ?_
    exact endW [] hQ
  · refine runW ?_
    exact endW [] hQ
theorem numDigits_fn {d : Nat} (h0 : d ≠ 0) (h : d < 18446744073709551616) : Fn1 Tryd.prog 80 [.lit (.int .u64 (d : Int))] [] (.lit (.int .i64 (nd10 d : Int))) [] := by
  refine fn1N_of pl80 (by kernel_rfl) Tryd.call80 Tryd.func80 rfl (by kernel_rfl) rfl [.tmp 2] (by kernel_rfl) fun Q hQ => ?_
  obtain ⟨h1, h2⟩ := nd10_log h0 h
  have hb := bl_le_of (n := d) (k := 64) (by omega)
  have hl := log10_fn hb
  rw [h1] at hQ
  generalize bl d * 78913 / 262144 = k at *
  have hidx := fun (F : Bool → V → Prop) => idxV_lay (P := Tryd.prog) (t := 133) (len := 20) (et := 44) (m := k) (kd := .i64) (F := F) (g := 2) (by kernel_rfl) h2
  have hag : agOf Tryd.prog 44 = some none := by kernel_rfl
  refine runW ?_
  refine callV0 (len64_fn h) rfl rfl ?_
  refine runW ?_
  refine callV0 (hl) rfl rfl ?_
  simp (maxSteps := 1000000) (disch := (first | omega | (simp only [lnA, List.length_map, List.length_range, true_and, and_true]; (try omega); done) | fail)) only [go_sem, hidx, ldV_of hag, layK_pow h2, Int.reduceEq, Int.reduceToNat, Nat.reduceAdd, Nat.reduceMul, Nat.reduceEqDiff, ↓reduceIte]
  by_cases hc : 10 ^ k ≤ d
  · rw [if_pos hc] at hQ
    have hd : decide (((10 ^ k : Nat) : Int) ≤ (d : Int)) = true := decide_eq_true (by omega)
    simp (maxSteps := 1000000) (disch := (first | omega | (simp only [lnA, List.length_map, List.length_range, true_and, and_true]; (try omega); done) | fail)) only [go_sem, hd, Int.reduceEq, Int.reduceToNat, Nat.reduceAdd, Nat.reduceMul, Nat.reduceEqDiff, ↓reduceIte]
    refine callV0 (bool2_fn (b := true)) rfl rfl ?_
    refine runW ?_
    exact endW [] hQ
  · rw [if_neg hc] at hQ
    have hd : decide (((10 ^ k : Nat) : Int) ≤ (d : Int)) = false := decide_eq_false (by omega)
    simp (maxSteps := 1000000) (disch := (first | omega | (simp only [lnA, List.length_map, List.length_range, true_and, and_true]; (try omega); done) | fail)) only [go_sem, hd, Int.reduceEq, Int.reduceToNat, Nat.reduceAdd, Nat.reduceMul, Nat.reduceEqDiff, ↓reduceIte]
    refine callV0 (bool2_fn (b := false)) rfl rfl ?_
    refine runW ?_
    exact endW [] hQ
end Go.Proofs.YtpkfddfkacijoaaDoor
