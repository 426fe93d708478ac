import Derived.Test.YtdohmppildfjhaaGreatKr
import Derived.Test.YtdohmppildfjhaaGreatKp
import Derived.Test.YtdohmppildfjhaaGreatFa
import Derived.Test.YtdohmppildfjhaaGreatFw
namespace Go.Proofs.YtdohmppildfjhaaGreat
open Go.Eng Go.Vx
set_option linter.unusedSimpArgs false
set_option linter.unusedVariables false
set_option maxRecDepth 100000
theorem sg_pow (x : Int) (n : Nat) : sg (decide (x < 0) && decide (n % 2 = 1)) (x.natAbs ^ n) = x ^ n := by
 by_cases h : x < 0
 ·
  obtain ⟨k, rfl⟩ : ∃ k : Nat, x = -(k : Int) := ⟨x.natAbs, by omega⟩
  rw [decide_eq_true h, Bool.true_and, Int.natAbs_neg, Int.natAbs_natCast]
  by_cases ho : n % 2 = 1
  ·
   rw [decide_eq_true ho, show (-(k : Int)) ^ n = -((k : Int) ^ n) from by
    rw [Int.neg_pow, ho]; simp]
   simp [sg]
  ·
   rw [decide_eq_false ho, show (-(k : Int)) ^ n = (k : Int) ^ n from by
    rw [Int.neg_pow, show n % 2 = 0 by omega]; simp]
   simp [sg]
 ·
  obtain ⟨k, rfl⟩ : ∃ k : Nat, x = (k : Int) := ⟨x.natAbs, by omega⟩
  rw [decide_eq_false h, Bool.false_and, Int.natAbs_natCast]
  simp [sg]
theorem bl_wg {n k : Nat} (h : (wg n).length ≤ k) : bl n ≤ 64 * k := by
 refine bl_le_of (Nat.lt_of_lt_of_le (dgB_lt_pow (B := 18446744073709551616) (by decide) n) ?_)
 rw [Nat.pow_mul]
 exact Nat.pow_le_pow_right (by decide) h
theorem npow_ex {a N : Nat} (ha : bl a ≤ 128) (hN : N < 9223372036854775808) : ∃ (r : Nat) (e : Int), Fn1 Tryz.prog 166 [NV a, .lit (.int .i64 (N : Int))] [] (.tup [NV r, .lit (.int .i64 e)]) [] ∧ (wg r).length ≤ 129 ∧
  ((e = 0 ∧ r = a ^ N) ∨ (e = 3 ∧ r = 0 ∧ 64 < N)) := by
 by_cases h1 : 1 < bl a
 ·
  by_cases h2 : 8192 / bl a < N
  ·
   refine ⟨0, 3, npowS_fn h1 (by omega) hN h2, by rw [wg_zero]; decide, .inr ⟨rfl, rfl, ?_⟩⟩
   have := Nat.div_le_div_left (a := 8192) ha (by omega)
   omega
  ·
   have hle := (Nat.le_div_iff_mul_le (x := N) (y := 8192) (show 0 < bl a by omega)).1 (by omega)
   refine ⟨a ^ N, 0, npow_fn hN (by omega) (fun _ => hle), ?_, .inl ⟨rfl, rfl⟩⟩
   have := pow_bl7 (a := a) (i := N) hle (Nat.le_refl N)
   exact wg_bl (by omega)
 ·
  refine ⟨a ^ N, 0, npow_fn hN (by omega) (fun h => absurd h h1), ?_, .inl ⟨rfl, rfl⟩⟩
  rw [pow_min (a := a) (by omega) N]
  have h2 := bl_lt a
  have h3 : 2 ^ bl a ≤ 2 ^ 1 := Nat.pow_le_pow_right (by decide) (by omega)
  have h4 : min N 1 = 0 ∨ min N 1 = 1 := by omega
  refine Nat.le_trans (wg_one ?_) (by decide)
  rcases h4 with h4 | h4
  ·
   rw [h4, Nat.pow_zero]; decide
  ·
   rw [h4, Nat.pow_one]; omega
set_option maxHeartbeats 4000000 in
theorem rpow_ex {x : Rat} (hx : RS 2 x) {n : Int} (n0 : -9223372036854775808 ≤ n) (n1 : n ≤ 9223372036854775807) : ∃ (r : Rat) (e : Int), Fn1 Tryz.prog 165 [RV x, .lit (.int .i64 n)] [] (.tup [RV r, .lit (.int .i64 e)]) [] ∧
  (n < 0 → e = 2 ∧ r = 0) ∧ (∀ N : Nat, n = (N : Int) → N ≤ 64 → e = 0 ∧ r = x ^ N) ∧ RS 129 r := by
 obtain ⟨hx1, hx2⟩ := hx
 have ab := wabs_fn (z := x.num)
 have dn := rden_fn (x := x) (by omega)
 have ng := wneg_fn (z := x.num)
 have s0 : RS 129 (0 : Rat) := (RS_small (z := 0) (by decide)).mono (by decide)
 by_cases hneg : n < 0
 ·
  have p := npowE_fn (a := x.num.natAbs) hneg (by omega)
  refine ⟨0, 2, ?_, fun _ => ⟨rfl, rfl⟩, fun N h => by omega, s0⟩
  rw [RV_zero]
  refine fn1N_of pl165 (by kernel_rfl) Tryz.call165 Tryz.func165 rfl (by kernel_rfl) rfl [.cell 4 41, .tmp 5] (by kernel_rfl) fun Q hQ => ?_
  repeat (first | (refine callV0 (ab) rfl rfl ?_) | (refine callV0 (p) rfl rfl ?_) | (refine runW ?_))
  exact endW [] hQ
 obtain ⟨N, rfl⟩ := Int.eq_ofNat_of_zero_le (show 0 ≤ n by omega)
 obtain ⟨A, e, pa, la, ha⟩ := npow_ex (a := x.num.natAbs) (N := N) (bl_wg hx1) (by omega)
 rcases ha with ⟨rfl, hA⟩ | ⟨rfl, hA, h64⟩
 ·
  obtain ⟨B, e', pb, lb, hb⟩ := npow_ex (a := x.den) (N := N) (bl_wg hx2) (by omega)
  rcases hb with ⟨rfl, hB⟩ | ⟨rfl, hB, h64⟩
  ·
   have hB0 : B ≠ 0 := by rw [hB]; exact Nat.ne_of_gt (Nat.pow_pos (Nat.pos_of_ne_zero x.den_nz))
   have wm := wmake_fn (b := decide (x.num < 0) && decide (N % 2 = 1)) (n := A) (by omega)
   have md := rmade_fn (n := sg (decide (x.num < 0) && decide (N % 2 = 1)) A) (d := B) hB0 (by rw [sg_abs]; omega) (by omega)
   have hr : mkRat (sg (decide (x.num < 0) && decide (N % 2 = 1)) A) B = x ^ N := by
    rw [hA, hB, sg_pow, ← Rat.num_pow, ← Rat.den_pow, Rat.mkRat_self]
   have sr : RS 129 (mkRat (sg (decide (x.num < 0) && decide (N % 2 = 1)) A) B) := RS_mk hB0 (by rw [sg_abs]; exact la) lb
   rw [hr] at md sr
   refine ⟨x ^ N, 0, ?_, fun h => absurd h hneg, fun M h _ => ⟨rfl, by rw [show N = M by omega]⟩, sr⟩
   generalize sg (decide (x.num < 0) && decide (N % 2 = 1)) A = z at *
   generalize x ^ N = r at *
   have hodd : decide ((N : Int) % 2 = 1) = decide (N % 2 = 1) := by congr 1; exact propext ⟨fun h => by omega, fun h => by omega⟩
   by_cases hg : x.num < 0
   ·
    rw [decide_eq_true hg] at ng wm
    rw [Bool.true_and] at wm
    refine fn1N_of pl165 (by kernel_rfl) Tryz.call165 Tryz.func165 rfl (by kernel_rfl) rfl [.cell 4 41, .tmp 5] (by kernel_rfl) fun Q hQ => ?_
    repeat (first | (refine callV0 (ab) rfl rfl ?_) | (refine callV0 (pa) rfl rfl ?_) | (refine callV0 (dn) rfl rfl ?_) | (refine callV0 (pb) rfl rfl ?_) | (refine callV0 (ng) rfl rfl ?_) | (refine callV0 (wm) rfl rfl ?_) | (refine callV0 (md) rfl rfl ?_) | (simp (maxSteps := 1000000) (disch := (first | omega | (simp only [lnA, List.length_map, List.length_range, true_and, and_true]; (try omega); done) | fail)) only [go_sem, hodd, Int.reduceEq, Int.reduceToNat, Nat.reduceAdd, Nat.reduceMul, Nat.reduceEqDiff, ↓reduceIte]))
    exact endW [] hQ
   ·
    rw [decide_eq_false hg] at ng wm
    rw [Bool.false_and] at wm
    refine fn1N_of pl165 (by kernel_rfl) Tryz.call165 Tryz.func165 rfl (by kernel_rfl) rfl [.cell 4 41, .tmp 5] (by kernel_rfl) fun Q hQ => ?_
    repeat (first | (refine callV0 (ab) rfl rfl ?_) | (refine callV0 (pa) rfl rfl ?_) | (refine callV0 (dn) rfl rfl ?_) | (refine callV0 (pb) rfl rfl ?_) | (refine callV0 (ng) rfl rfl ?_) | (refine callV0 (wm) rfl rfl ?_) | (refine callV0 (md) rfl rfl ?_) | (simp (maxSteps := 1000000) (disch := (first | omega | (simp only [lnA, List.length_map, List.length_range, true_and, and_true]; (try omega); done) | fail)) only [go_sem, hodd, Int.reduceEq, Int.reduceToNat, Nat.reduceAdd, Nat.reduceMul, Nat.reduceEqDiff, ↓reduceIte]))
    exact endW [] hQ
  ·
   refine ⟨0, 3, ?_, fun h => absurd h hneg, fun M h h2 => by omega, s0⟩
   rw [RV_zero]
   refine fn1N_of pl165 (by kernel_rfl) Tryz.call165 Tryz.func165 rfl (by kernel_rfl) rfl [.cell 4 41, .tmp 5] (by kernel_rfl) fun Q hQ => ?_
   repeat (first | (refine callV0 (ab) rfl rfl ?_) | (refine callV0 (pa) rfl rfl ?_) | (refine callV0 (dn) rfl rfl ?_) | (refine callV0 (pb) rfl rfl ?_) | (refine runW ?_))
   exact endW [] hQ
 ·
  refine ⟨0, 3, ?_, fun h => absurd h hneg, fun M h h2 => by omega, s0⟩
  rw [RV_zero]
  refine fn1N_of pl165 (by kernel_rfl) Tryz.call165 Tryz.func165 rfl (by kernel_rfl) rfl [.cell 4 41, .tmp 5] (by kernel_rfl) fun Q hQ => ?_
  repeat (first | (refine callV0 (ab) rfl rfl ?_) | (refine callV0 (pa) rfl rfl ?_) | (refine runW ?_))
  exact endW [] hQ
theorem bl_two {N K : Nat} (h : N < K) : bl (2 ^ N) ≤ K := bl_le_of (Nat.pow_lt_pow_right (by decide) h)
theorem rhalf_fn {N : Nat} (hN : N ≤ 8192) : Fn1 Tryz.prog 87 [.lit (.int .i64 (N : Int))] [] (.tup [RV (mkRat 1 (2 ^ N)), .lit (.int .i64 0)]) [] := by
 have l1 : (wg 1).length ≤ 1 := wg_one (by decide)
 have s := shl_fn (v := 1) hN (by omega)
 rw [Nat.one_mul] at s
 have o := of1_fn (x := 1) (by decide)
 have wo := wof_fn (n := 1) (by decide) (by decide)
 have hb := bl_two (N := N) (K := 8193) (by omega)
 have l2 : (wg (2 ^ N)).length ≤ 129 := wg_bl (by omega)
 have md := rmade_fn (n := 1) (d := 2 ^ N) (Nat.ne_of_gt (Nat.pow_pos (by decide))) (show (wg 1).length ≤ 1000000 by omega) (by omega)
 generalize mkRat 1 (2 ^ N) = r at *
 generalize 2 ^ N = two at *
 refine fn1N_of pl87 (by kernel_rfl) Tryz.call87 Tryz.func87 rfl (by kernel_rfl) rfl [.cell 2 41, .tmp 3] (by kernel_rfl) fun Q hQ => ?_
 refine runW ?_
 refine callW [] [1] (o) ?_
 refine runW ?_
 refine callV0 (s) rfl rfl ?_
 refine runW ?_
 refine callV0 (wo) rfl rfl ?_
 refine runW ?_
 refine callV0 (md) rfl rfl ?_
 refine runW ?_
 exact endW [] hQ
end Go.Proofs.YtdohmppildfjhaaGreat
