import Derived.Test.YtdohmppildfjhaaGreatDoorKp
import Derived.Test.YtdohmppildfjhaaGreatDoorNe
import Derived.Test.YtdohmppildfjhaaGreatDoorFw
import Derived.Test.YtdohmppildfjhaaGreatDoorFa
import Derived.Test.YtdohmppildfjhaaGreatDoorKt
namespace Go.Proofs.YtdohmppildfjhaaGreatDoor
open Go.Eng Go.Vx
set_option linter.unusedSimpArgs false
set_option linter.unusedVariables false
set_option maxRecDepth 100000
theorem sg_pow (x : Int) (n : Nat) : sg (decide (x < 0) && decide (n % 2 = 1)) (x.natAbs ^ n) = x ^ n := by
 by_cases h : x < 0
 ·
  obtain ⟨k, rfl⟩ : ∃ k : Nat, x = -(k : Int) := ⟨x.natAbs, by omega⟩
  rw [decide_eq_true h, Bool.true_and, Int.natAbs_neg, Int.natAbs_natCast]
  by_cases ho : n % 2 = 1
  ·
   rw [decide_eq_true ho, show (-(k : Int)) ^ n = -((k : Int) ^ n) from by
    rw [Int.neg_pow, ho]; simp]
   simp [sg]
  ·
   rw [decide_eq_false ho, show (-(k : Int)) ^ n = (k : Int) ^ n from by
    rw [Int.neg_pow, show n % 2 = 0 by omega]; simp]
   simp [sg]
 ·
  obtain ⟨k, rfl⟩ : ∃ k : Nat, x = (k : Int) := ⟨x.natAbs, by omega⟩
  rw [decide_eq_false h, Bool.false_and, Int.natAbs_natCast]
  simp [sg]
theorem bl_wg {n k : Nat} (h : (wg n).length ≤ k) : bl n ≤ 64 * k := by
 refine bl_le_of (Nat.lt_of_lt_of_le (dgB_lt_pow (B := 18446744073709551616) (by decide) n) ?_)
 rw [Nat.pow_mul]
 exact Nat.pow_le_pow_right (by decide) h
theorem npow_ex {a N : Nat} (ha : bl a ≤ 128) (hN : N < 9223372036854775808) : ∃ (r : Nat) (e : Int), Fn1 Tryz.prog 187 [NV a, .lit (.int .i64 (N : Int))] [] (.tup [NV r, .lit (.int .i64 e)]) [] ∧ (wg r).length ≤ 129 ∧
  ((e = 0 ∧ r = a ^ N) ∨ (e = 3 ∧ r = 0 ∧ 64 < N)) := by
 by_cases h1 : 1 < bl a
 ·
  by_cases h2 : 8192 / bl a < N
  ·
   refine ⟨0, 3, npowS_fn h1 (by omega) hN h2, by rw [wg_zero]; decide, .inr ⟨rfl, rfl, ?_⟩⟩
   have := Nat.div_le_div_left (a := 8192) ha (by omega)
   omega
  ·
   have hle := (Nat.le_div_iff_mul_le (x := N) (y := 8192) (show 0 < bl a by omega)).1 (by omega)
   refine ⟨a ^ N, 0, npow_fn hN (by omega) (fun _ => hle), ?_, .inl ⟨rfl, rfl⟩⟩
   have := pow_bl7 (a := a) (i := N) hle (Nat.le_refl N)
   exact wg_bl (by omega)
 ·
  refine ⟨a ^ N, 0, npow_fn hN (by omega) (fun h => absurd h h1), ?_, .inl ⟨rfl, rfl⟩⟩
  rw [pow_min (a := a) (by omega) N]
  have h2 := bl_lt a
  have h3 : 2 ^ bl a ≤ 2 ^ 1 := Nat.pow_le_pow_right (by decide) (by omega)
  have h4 : min N 1 = 0 ∨ min N 1 = 1 := by omega
  refine Nat.le_trans (wg_one ?_) (by decide)
  rcases h4 with h4 | h4
  ·
   rw [h4, Nat.pow_zero]; decide
  ·
   rw [h4, Nat.pow_one]; omega
set_option maxHeartbeats 4000000 in
theorem rpow_ex {x : Rat} (hx : RS 2 x) {n : Int} (n0 : -9223372036854775808 ≤ n) (n1 : n ≤ 9223372036854775807) : ∃ (r : Rat) (e : Int), Fn1 Tryz.prog 186 [RV x, .lit (.int .i64 n)] [] (.tup [RV r, .lit (.int .i64 e)]) [] ∧
  (n < 0 → e = 2 ∧ r = 0) ∧ (∀ N : Nat, n = (N : Int) → N ≤ 64 → e = 0 ∧ r = x ^ N) ∧ RS 129 r := by
 obtain ⟨hx1, hx2⟩ := hx
 have ab := wabs_fn (z := x.num)
 have dn := rden_fn (x := x) (by omega)
 have ng := wneg_fn (z := x.num)
 have s0 : RS 129 (0 : Rat) := (RS_small (z := 0) (by decide)).mono (by decide)
 by_cases hneg : n < 0
 ·
  have p := npowE_fn (a := x.num.natAbs) hneg (by omega)
  refine ⟨0, 2, ?_, fun _ => ⟨rfl, rfl⟩, fun N h => by omega, s0⟩
  rw [RV_zero]
  refine fn1N_of pl186 (by kernel_rfl) Tryz.call186 Tryz.func186 rfl (by kernel_rfl) rfl [.cell 4 35, .tmp 5] (by kernel_rfl) fun Q hQ => ?_
  repeat (first | (refine callV0 (ab) rfl rfl ?_) | (refine callV0 (p) rfl rfl ?_) | (refine runW ?_))
  exact endW [] hQ
 obtain ⟨N, rfl⟩ := Int.eq_ofNat_of_zero_le (show 0 ≤ n by omega)
 obtain ⟨A, e, pa, la, ha⟩ := npow_ex (a := x.num.natAbs) (N := N) (bl_wg hx1) (by omega)
 rcases ha with ⟨rfl, hA⟩ | ⟨rfl, hA, h64⟩
 ·
  obtain ⟨B, e', pb, lb, hb⟩ := npow_ex (a := x.den) (N := N) (bl_wg hx2) (by omega)
  rcases hb with ⟨rfl, hB⟩ | ⟨rfl, hB, h64⟩
  ·
   have hB0 : B ≠ 0 := by rw [hB]; exact Nat.ne_of_gt (Nat.pow_pos (Nat.pos_of_ne_zero x.den_nz))
   have wm := wmake_fn (b := decide (x.num < 0) && decide (N % 2 = 1)) (n := A) (by omega)
   have md := rmade_fn (n := sg (decide (x.num < 0) && decide (N % 2 = 1)) A) (d := B) hB0 (by rw [sg_abs]; omega) (by omega)
   have hr : mkRat (sg (decide (x.num < 0) && decide (N % 2 = 1)) A) B = x ^ N := by
    rw [hA, hB, sg_pow, ← Rat.num_pow, ← Rat.den_pow, Rat.mkRat_self]
   have sr : RS 129 (mkRat (sg (decide (x.num < 0) && decide (N % 2 = 1)) A) B) := RS_mk hB0 (by rw [sg_abs]; exact la) lb
   rw [hr] at md sr
   refine ⟨x ^ N, 0, ?_, fun h => absurd h hneg, fun M h _ => ⟨rfl, by rw [show N = M by omega]⟩, sr⟩
   generalize sg (decide (x.num < 0) && decide (N % 2 = 1)) A = z at *
   generalize x ^ N = r at *
   have hodd : decide ((N : Int) % 2 = 1) = decide (N % 2 = 1) := by congr 1; exact propext ⟨fun h => by omega, fun h => by omega⟩
   by_cases hg : x.num < 0
   ·
    rw [decide_eq_true hg] at ng wm
    rw [Bool.true_and] at wm
    refine fn1N_of pl186 (by kernel_rfl) Tryz.call186 Tryz.func186 rfl (by kernel_rfl) rfl [.cell 4 35, .tmp 5] (by kernel_rfl) fun Q hQ => ?_
    repeat (first | (refine callV0 (ab) rfl rfl ?_) | (refine callV0 (pa) rfl rfl ?_) | (refine callV0 (dn) rfl rfl ?_) | (refine callV0 (pb) rfl rfl ?_) | (refine callV0 (ng) rfl rfl ?_) | (refine callV0 (wm) rfl rfl ?_) | (refine callV0 (md) rfl rfl ?_) | (simp (maxSteps := 1000000) (disch := (first | omega | (simp only [lnA, List.length_map, List.length_range, true_and, and_true]; (try omega); done) | fail)) only [go_sem, hodd, Int.reduceEq, Int.reduceToNat, Nat.reduceAdd, Nat.reduceMul, Nat.reduceEqDiff, ↓reduceIte]))
    exact endW [] hQ
   ·
    rw [decide_eq_false hg] at ng wm
    rw [Bool.false_and] at wm
    refine fn1N_of pl186 (by kernel_rfl) Tryz.call186 Tryz.func186 rfl (by kernel_rfl) rfl [.cell 4 35, .tmp 5] (by kernel_rfl) fun Q hQ => ?_
    repeat (first | (refine callV0 (ab) rfl rfl ?_) | (refine callV0 (pa) rfl rfl ?_) | (refine callV0 (dn) rfl rfl ?_) | (refine callV0 (pb) rfl rfl ?_) | (refine callV0 (ng) rfl rfl ?_) | (refine callV0 (wm) rfl rfl ?_) | (refine callV0 (md) rfl rfl ?_) | (simp (maxSteps := 1000000) (disch := (first | omega | (simp only [lnA, List.length_map, List.length_range, true_and, and_true]; (try omega); done) | fail)) only [go_sem, hodd, Int.reduceEq, Int.reduceToNat, Nat.reduceAdd, Nat.reduceMul, Nat.reduceEqDiff, ↓reduceIte]))
    exact endW [] hQ
  ·
   refine ⟨0, 3, ?_, fun h => absurd h hneg, fun M h h2 => by omega, s0⟩
   rw [RV_zero]
   refine fn1N_of pl186 (by kernel_rfl) Tryz.call186 Tryz.func186 rfl (by kernel_rfl) rfl [.cell 4 35, .tmp 5] (by kernel_rfl) fun Q hQ => ?_
   repeat (first | (refine callV0 (ab) rfl rfl ?_) | (refine callV0 (pa) rfl rfl ?_) | (refine callV0 (dn) rfl rfl ?_) | (refine callV0 (pb) rfl rfl ?_) | (refine runW ?_))
   exact endW [] hQ
 ·
  refine ⟨0, 3, ?_, fun h => absurd h hneg, fun M h h2 => by omega, s0⟩
  rw [RV_zero]
  refine fn1N_of pl186 (by kernel_rfl) Tryz.call186 Tryz.func186 rfl (by kernel_rfl) rfl [.cell 4 35, .tmp 5] (by kernel_rfl) fun Q hQ => ?_
  repeat (first | (refine callV0 (ab) rfl rfl ?_) | (refine callV0 (pa) rfl rfl ?_) | (refine runW ?_))
  exact endW [] hQ
theorem bl_two {N K : Nat} (h : N < K) : bl (2 ^ N) ≤ K := bl_le_of (Nat.pow_lt_pow_right (by decide) h)
theorem rhalf_fn {N : Nat} (hN : N ≤ 8192) : Fn1 Tryz.prog 91 [.lit (.int .i64 (N : Int))] [] (.tup [RV (mkRat 1 (2 ^ N)), .lit (.int .i64 0)]) [] := by
 have l1 : (wg 1).length ≤ 1 := wg_one (by decide)
 have s := shl_fn (v := 1) hN (by omega)
 rw [Nat.one_mul] at s
 have o := of1_fn (x := 1) (by decide)
 have wo := wof_fn (n := 1) (by decide) (by decide)
 have hb := bl_two (N := N) (K := 8193) (by omega)
 have l2 : (wg (2 ^ N)).length ≤ 129 := wg_bl (by omega)
 have md := rmade_fn (n := 1) (d := 2 ^ N) (Nat.ne_of_gt (Nat.pow_pos (by decide))) (show (wg 1).length ≤ 1000000 by omega) (by omega)
 generalize mkRat 1 (2 ^ N) = r at *
 generalize 2 ^ N = two at *
 refine fn1N_of pl91 (by kernel_rfl) Tryz.call91 Tryz.func91 rfl (by kernel_rfl) rfl [.cell 2 35, .tmp 3] (by kernel_rfl) fun Q hQ => ?_
 refine runW ?_
 refine callW [] [1] (o) ?_
 refine runW ?_
 refine callV0 (s) rfl rfl ?_
 refine runW ?_
 refine callV0 (wo) rfl rfl ?_
 refine runW ?_
 refine callV0 (md) rfl rfl ?_
 refine runW ?_
 exact endW [] hQ
theorem two_fn {N : Nat} (hN : N ≤ 8192) : Fn1 Tryz.prog 51 [.lit (.int .i64 (N : Int))] [] (RV (tw N)) [] := by
 have l1 : (wg 1).length ≤ 1 := wg_one (by decide)
 have s := shl_fn (v := 1) hN (by omega)
 rw [Nat.one_mul] at s
 have o := of1_fn (x := 1) (by decide)
 have hb := bl_two (N := N) (K := 8193) (by omega)
 have l2 : (wg (2 ^ N)).length ≤ 129 := wg_bl (by omega)
 have rn := rnat_fn (n := 2 ^ N) (by omega)
 unfold tw
 generalize (((2 ^ N : Nat) : Int) : Rat) = r at *
 generalize 2 ^ N = two at *
 refine fn1N_of pl51 (by kernel_rfl) Tryz.call51 Tryz.func51 rfl (by kernel_rfl) rfl [.cell 2 35] (by kernel_rfl) fun Q hQ => ?_
 refine runW ?_
 refine callW [] [1] (o) ?_
 refine runW ?_
 refine callV0 (s) rfl rfl ?_
 refine runW ?_
 refine callV0 (rn) rfl rfl ?_
 refine runW ?_
 exact endW [] hQ
theorem halfB_fn {N : Nat} (hN : N ≤ 8192) : Fn1 Tryz.prog 52 [.lit (.int .i64 (N : Int))] [] (RV (hf N)) [] := by
 have h := rhalf_fn hN
 unfold hf
 refine fn1N_of pl52 (by kernel_rfl) Tryz.call52 Tryz.func52 rfl (by kernel_rfl) rfl [.cell 2 35] (by kernel_rfl) fun Q hQ => ?_
 repeat (first | (refine callV0 (h) rfl rfl ?_) | (refine runW ?_))
 exact endW [] hQ
theorem RS_tw {N : Nat} (hN : N ≤ 8192) : RS 129 (tw N) := by
 have hb := bl_two (N := N) (K := 8193) (by omega)
 exact RS_int (by rw [Int.natAbs_natCast]; exact wg_bl (by omega)) (by decide)
theorem RS_hf {N : Nat} (hN : N ≤ 8192) : RS 129 (hf N) := by
 have hb := bl_two (N := N) (K := 8193) (by omega)
 exact RS_mk (Nat.ne_of_gt (Nat.pow_pos (by decide))) (Nat.le_trans (wg_one (by decide)) (by decide)) (wg_bl (by omega))
theorem floor_len {x : Rat} {k : Nat} (h : RS k x) : (wg x.floor.natAbs).length ≤ k := by
 rw [Rat.floor_def]
 exact Nat.le_trans (wg_mono (Int.natAbs_ediv_le_natAbs _ _)) h.1
theorem floorB_fn {x : Rat} (hx : RS 400000 x) : Fn1 Tryz.prog 50 [RV x] [] (RV (x.floor : Rat)) [] := by
 have f := rfloor_fn hx
 have l := floor_len hx
 have w := wof_fn (n := 1) (by decide) (by decide)
 have r := rfrac_fn (p := x.floor) (q := 1) (by decide) (by omega) (show (wg 1).length ≤ _ from Nat.le_trans (wg_one (by decide)) (by decide))
 rw [show ((1 : Int) : Rat) = 1 from rfl, show (x.floor : Rat) / 1 = (x.floor : Rat) by grind] at r
 generalize (x.floor : Rat) = y at *
 generalize x.floor = z at *
 refine fn1N_of pl50 (by kernel_rfl) Tryz.call50 Tryz.func50 rfl (by kernel_rfl) rfl [.cell 2 35] (by kernel_rfl) fun Q hQ => ?_
 repeat (first | (refine callV0 (f) rfl rfl ?_) | (refine callV0 (w) rfl rfl ?_) | (refine callV0 (r) rfl rfl ?_) | (refine runW ?_))
 exact endW [] hQ
theorem RS_zero : RS 1 (0 : Rat) := RS_int (z := 0) (wg_one (by decide)) (by decide)
theorem minusB_fn {x : Rat} (hx : RS 400000 x) : Fn1 Tryz.prog 26 [RV x] [] (RV (0 - x)) [] := by
 have r := rsub_fn (RS_zero.mono (show 1 ≤ 400000 by decide)) hx
 rw [RV_zero] at r
 generalize (0 : Rat) - x = y at *
 refine fn1N_of pl26 (by kernel_rfl) Tryz.call26 Tryz.func26 rfl (by kernel_rfl) rfl [.cell 2 35] (by kernel_rfl) fun Q hQ => ?_
 refine runW ?_
 refine callW [] [] (r) ?_
 refine runW ?_
 exact endW [] hQ
theorem RS_fl {x : Rat} {k : Nat} (hk : 1 ≤ k) (h : RS k x) : RS k ((x.floor : Int) : Rat) := RS_int (floor_len h) hk
theorem RS_dn' {x : Rat} {k B : Nat} (hB : B ≤ 8192) (h : RS k x) : RS (k + 129 + 129) (dn x B) :=
 RS_mul (RS_fl (by omega) (RS_mul h (RS_tw hB))) (RS_hf hB)
theorem RS_up' {x : Rat} {k B : Nat} (hB : B ≤ 8192) (h : RS k x) : RS (1 + k + 1 + 129 + 129 + 1 + 1) (up x B) :=
 (RS_sub RS_zero (RS_dn' hB (RS_sub RS_zero h))).mono (by omega)
theorem down_fn {x : Rat} {bits : Int} {B : Nat} (hB : max 0 (min bits 512) = (B : Int)) (hx : RS 100000 x) : Fn1 Tryz.prog 16 [RV x, .lit (.int .i64 bits)] [] (RV (dn x B)) [] := by
 have hB2 : B ≤ 512 := by omega
 have t := two_fn (N := B) (by omega)
 have h := halfB_fn (N := B) (by omega)
 have st := RS_tw (N := B) (by omega)
 have sh := RS_hf (N := B) (by omega)
 have sm := RS_mul hx st
 have m1 := rmul_fn (hx.mono (show 100000 ≤ 400000 by decide)) (st.mono (show 129 ≤ 400000 by decide))
 have f := floorB_fn (sm.mono (by decide))
 have m2 := rmul_fn ((RS_fl (by decide) sm).mono (by decide)) (sh.mono (show 129 ≤ 400000 by decide))
 unfold dn
 generalize ((x * tw B).floor : Rat) * hf B = r1 at *
 generalize ((x * tw B).floor : Rat) = r2 at *
 generalize x * tw B = r3 at *
 generalize tw B = r4 at *
 generalize hf B = r5 at *
 refine fn1N_of pl16 (by kernel_rfl) Tryz.call16 Tryz.func16 rfl (by kernel_rfl) rfl [.cell 4 35] (by kernel_rfl) fun Q hQ => ?_
 repeat (first | (refine callV0 (t) rfl rfl ?_) | (refine callV0 (h) rfl rfl ?_) | (refine callV0 (m1) rfl rfl ?_) | (refine callV0 (f) rfl rfl ?_) | (refine callV0 (m2) rfl rfl ?_) | (simp (maxSteps := 1000000) (disch := (first | omega | (simp only [lnA, List.length_map, List.length_range, true_and, and_true]; (try omega); done) | fail)) only [go_sem, hB, Int.reduceEq, Int.reduceToNat, Nat.reduceAdd, Nat.reduceMul, Nat.reduceEqDiff, ↓reduceIte]))
 exact endW [] hQ
theorem upB_fn {x : Rat} {bits : Int} {B : Nat} (hB : max 0 (min bits 512) = (B : Int)) (hx : RS 90000 x) : Fn1 Tryz.prog 18 [RV x, .lit (.int .i64 bits)] [] (RV (up x B)) [] := by
 have sm := RS_sub RS_zero hx
 have m := minusB_fn (hx.mono (show 90000 ≤ 400000 by decide))
 have d := down_fn hB (sm.mono (show 1 + 90000 + 1 ≤ 100000 by decide))
 have m2 := minusB_fn ((RS_dn' (B := B) (by omega) sm).mono (show _ ≤ 400000 by decide))
 unfold up
 generalize 0 - dn (0 - x) B = r1 at *
 generalize dn (0 - x) B = r2 at *
 generalize 0 - x = r3 at *
 refine fn1N_of pl18 (by kernel_rfl) Tryz.call18 Tryz.func18 rfl (by kernel_rfl) rfl [.cell 4 35] (by kernel_rfl) fun Q hQ => ?_
 repeat (first | (refine callV0 (m) rfl rfl ?_) | (refine callV0 (d) rfl rfl ?_) | (refine callV0 (m2) rfl rfl ?_) | (refine runW ?_))
 exact endW [] hQ
theorem rcmp_le {x y : Rat} (hx : RS 400000 x) (hy : RS 400000 y) (h : x ≤ y) : ∃ c : Int, c ≤ 0 ∧ Fn1 Tryz.prog 11 [RV x, RV y] [] (.lit (.int .i64 c)) [] :=
 ⟨cmpQ x y, Int.not_lt.1 fun e => Rat.not_lt.2 h (cmpQ_pos.1 e), rcmp_fn hx hy⟩
theorem rcmp_ge {x y : Rat} (hx : RS 400000 x) (hy : RS 400000 y) (h : y ≤ x) : ∃ c : Int, 0 ≤ c ∧ Fn1 Tryz.prog 11 [RV x, RV y] [] (.lit (.int .i64 c)) [] :=
 ⟨cmpQ x y, Int.not_lt.1 fun e => Rat.not_lt.2 h (cmpQ_neg.1 e), rcmp_fn hx hy⟩
theorem rcmp_lt {x y : Rat} (hx : RS 400000 x) (hy : RS 400000 y) (h : x < y) : ∃ c : Int, c < 0 ∧ Fn1 Tryz.prog 11 [RV x, RV y] [] (.lit (.int .i64 c)) [] :=
 ⟨cmpQ x y, cmpQ_neg.2 h, rcmp_fn hx hy⟩
theorem rcmp_gt {x y : Rat} (hx : RS 400000 x) (hy : RS 400000 y) (h : y < x) : ∃ c : Int, 0 < c ∧ Fn1 Tryz.prog 11 [RV x, RV y] [] (.lit (.int .i64 c)) [] :=
 ⟨cmpQ x y, cmpQ_pos.2 h, rcmp_fn hx hy⟩
end Go.Proofs.YtdohmppildfjhaaGreatDoor
