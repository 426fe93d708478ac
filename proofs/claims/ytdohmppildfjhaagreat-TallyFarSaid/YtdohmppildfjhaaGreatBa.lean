import Derived.Test.YtdohmppildfjhaaGreatN1
import Derived.Test.YtdohmppildfjhaaGreatFw
import Derived.Test.YtdohmppildfjhaaGreatD3
import Derived.Test.YtdohmppildfjhaaGreatFa
import Derived.Test.YtdohmppildfjhaaGreatQd
import Derived.Test.YtdohmppildfjhaaGreatKr
import Derived.Test.YtdohmppildfjhaaGreatKu
namespace Go.Proofs.YtdohmppildfjhaaGreat
open Go.Eng Go.Vx
set_option linter.unusedSimpArgs false
set_option linter.unusedVariables false
set_option maxRecDepth 100000
abbrev PL := Nat × Nat × Nat × Nat
def plV (x : PL) : V := .agg [.lit (.int .i64 (x.1 : Int)), .lit (.int .i64 (x.2.1 : Int)), .row 1 ((nl (wg x.2.2.1)).map (ie .u64)), .row 1 ((nl (wg x.2.2.2)).map (ie .u64))]
attribute [go_sem] plV
def moreN (s t : Nat) : Nat := t + if t / 2 ^ s * 2 ^ s < t then t / 2 ^ s + 1 else t / 2 ^ s
def plN (s : Nat) (x : PL) : PL := if x.2.2.2 ≤ x.2.2.1 + 2 ^ x.2.1 then (x.1 + 1, bl (moreN s x.2.2.2) - 1 - 2 * s, x.2.2.1 + 2 ^ x.2.1, moreN s x.2.2.2) else (x.1, x.2.1, x.2.2.1 + 2 ^ x.2.1, x.2.2.2)
theorem wg_small {n : Nat} (h : n < 18446744073709551616) : (wg n).length ≤ 1 := wg_one h
theorem ymore_fn {s t : Nat} (hs : s ≤ 5) (ht : t < 4294967296) : Fn1 Tryz.prog 190 [.lit (.int .i64 (s : Int)), NV t] [] (NV (moreN s t)) [] := by
 have w0 := wg_small (n := t) (by omega)
 have hp : 2 ^ s ≤ 2 ^ 5 := Nat.pow_le_pow_right (by decide) hs
 have hd : t / 2 ^ s ≤ t := Nat.div_le_self _ _
 have hm : t / 2 ^ s * 2 ^ s ≤ t := Nat.div_mul_le_self _ _
 have w1 := wg_small (n := t / 2 ^ s) (by omega)
 have w2 := wg_small (n := t / 2 ^ s * 2 ^ s) (by omega)
 have w3 := wg_small (n := t / 2 ^ s + 1) (by omega)
 have w4 := wg_small (n := 1) (by omega)
 have sr := shr_fn (v := t) (N := s) (n := (s : Int)) (by omega) (by omega) (by omega)
 have sl := shl_fn (v := t / 2 ^ s) (N := s) (by omega) (by omega)
 have cm := ncmp_fn (a := t / 2 ^ s * 2 ^ s) (b := t) (by omega) (by omega)
 have o1 := of1_fn (x := 1) (by decide)
 rw [show ((1 : Nat) : Int) = 1 from rfl] at o1
 have a1 := nadd_fn (a := t / 2 ^ s) (b := 1) (by omega) (by omega)
 have a2 := nadd_fn (a := t) (b := t / 2 ^ s + 1) (by omega) (by omega)
 have a3 := nadd_fn (a := t) (b := t / 2 ^ s) (by omega) (by omega)
 have hc := cmpI_neg (a := t / 2 ^ s * 2 ^ s) (b := t)
 unfold moreN
 generalize t / 2 ^ s * 2 ^ s = u at *
 generalize t / 2 ^ s = q at *
 refine fn1N_of pl190 (by kernel_rfl) Tryz.call190 Tryz.func190 rfl (by kernel_rfl) rfl [.cell 4 37] (by kernel_rfl) fun Q hQ => ?_
 by_cases hu : u < t
 ·
  rw [if_pos hu] at hQ
  have hd := decide_eq_true (hc.2 hu)
  refine runW ?_
  refine callV0 (sr) rfl rfl ?_
  refine runW ?_
  refine callV0 (sl) rfl rfl ?_
  refine runW ?_
  refine callV0 (cm) rfl rfl ?_
  simp (maxSteps := 1000000) (disch := (first | omega | (simp only [lnA, List.length_map, List.length_range, true_and, and_true]; (try omega); done) | fail)) only [go_sem, hd, Int.reduceEq, Int.reduceToNat, Nat.reduceAdd, Nat.reduceMul, Nat.reduceEqDiff, ↓reduceIte]
  refine callW [] [4] (o1) ?_
  refine runW ?_
  refine callV0 (a1) rfl rfl ?_
  refine runW ?_
  refine callV0 (a2) rfl rfl ?_
  refine runW ?_
  exact endW [] hQ
 ·
  rw [if_neg hu] at hQ
  have hd := decide_eq_false (fun e => hu (hc.1 e))
  refine runW ?_
  refine callV0 (sr) rfl rfl ?_
  refine runW ?_
  refine callV0 (sl) rfl rfl ?_
  refine runW ?_
  refine callV0 (cm) rfl rfl ?_
  simp (maxSteps := 1000000) (disch := (first | omega | (simp only [lnA, List.length_map, List.length_range, true_and, and_true]; (try omega); done) | fail)) only [go_sem, hd, Int.reduceEq, Int.reduceToNat, Nat.reduceAdd, Nat.reduceMul, Nat.reduceEqDiff, ↓reduceIte]
  refine callV0 (a3) rfl rfl ?_
  refine runW ?_
  exact endW [] hQ
theorem yshift_fn {s t : Nat} (hs : s ≤ 5) (ht : t < 4294967296 * 3) : Fn1 Tryz.prog 191 [.lit (.int .i64 (s : Int)), NV t] [] (.lit (.int .i64 ((bl t - 1 - 2 * s : Nat) : Int))) [] := by
 have w0 := wg_small (n := t) (by omega)
 have b := bits_fn (n := t) (by omega)
 have hb := bl_le_of (n := t) (k := 34) (by omega)
 have hm : max 0 ((bl t : Int) - 1 - 2 * (s : Int)) = ((bl t - 1 - 2 * s : Nat) : Int) := by omega
 generalize bl t = B at *
 refine fn1N_of pl191 (by kernel_rfl) Tryz.call191 Tryz.func191 rfl (by kernel_rfl) rfl [.tmp 4] (by kernel_rfl) fun Q hQ => ?_
 refine runW ?_
 refine callV0 (b) rfl rfl ?_
 simp (maxSteps := 1000000) (disch := (first | omega | (simp only [lnA, List.length_map, List.length_range, true_and, and_true]; (try omega); done) | fail)) only [go_sem, hm, Int.reduceEq, Int.reduceToNat, Nat.reduceAdd, Nat.reduceMul, Nat.reduceEqDiff, ↓reduceIte]
 exact endW [] hQ
theorem bl_more {s t : Nat} : moreN s t ≤ t + (t + 1) := by
 have hd : t / 2 ^ s ≤ t := Nat.div_le_self _ _
 unfold moreN
 split <;> omega
set_option maxHeartbeats 1000000 in
theorem ynext_fn {s : Nat} {x : PL} (hs : s ≤ 5) (h1 : x.1 < 100000) (h2 : x.2.1 ≤ 30) (h3 : x.2.2.1 < 4294967296) (h4 : x.2.2.2 < 4294967296) : Fn1 Tryz.prog 189 [plV x, .lit (.int .i64 (s : Int))] [] (plV (plN s x)) [] := by
 obtain ⟨X, Sh, U, R⟩ := x
 dsimp only at h1 h2 h3 h4
 have hp : 2 ^ Sh ≤ 2 ^ 30 := Nat.pow_le_pow_right (by decide) h2
 have hmb := bl_more (s := s) (t := R)
 have wV := wg_small (n := U) (by omega)
 have wR := wg_small (n := R) (by omega)
 have w1 := wg_small (n := 1) (by omega)
 have wS := wg_small (n := 2 ^ Sh) (by omega)
 have wA := wg_small (n := U + 2 ^ Sh) (by omega)
 have wM := wg_small (n := moreN s R) (by omega)
 have o1 := of1_fn (x := 1) (by decide)
 rw [show ((1 : Nat) : Int) = 1 from rfl] at o1
 have sl := shl_fn (v := 1) (N := Sh) (by omega) (by omega)
 rw [Nat.one_mul] at sl
 have a1 := nadd_fn (a := U) (b := 2 ^ Sh) (by omega) (by omega)
 have cm := ncmp_fn (a := U + 2 ^ Sh) (b := R) (by omega) (by omega)
 have hc := cmpI_neg (a := U + 2 ^ Sh) (b := R)
 have mo := ymore_fn hs h4
 have sh := yshift_fn (s := s) (t := moreN s R) hs (by omega)
 unfold plN
 dsimp only
 generalize moreN s R = M at *
 generalize U + 2 ^ Sh = A at *
 generalize 2 ^ Sh = P at *
 refine fn1N_of pl189 (by kernel_rfl) Tryz.call189 Tryz.func189 rfl (by kernel_rfl) rfl [.cell 4 197] (by kernel_rfl) fun Q hQ => ?_
 by_cases hu : R ≤ A
 ·
  rw [if_pos hu] at hQ
  have hd := decide_eq_true (show (0 : Int) ≤ cmpI A R from by
   refine Classical.byContradiction fun h => ?_
   have := hc.1 (by omega)
   omega)
  refine runW ?_
  refine callW [] [2] (o1) ?_
  refine runW ?_
  refine callV0 (sl) rfl rfl ?_
  refine runW ?_
  refine callV0 (a1) rfl rfl ?_
  refine runW ?_
  refine callV0 (cm) rfl rfl ?_
  simp (maxSteps := 1000000) (disch := (first | omega | (simp only [lnA, List.length_map, List.length_range, true_and, and_true]; (try omega); done) | fail)) only [go_sem, hd, Int.reduceEq, Int.reduceToNat, Nat.reduceAdd, Nat.reduceMul, Nat.reduceEqDiff, ↓reduceIte]
  refine callV0 (mo) rfl rfl ?_
  refine runW ?_
  refine callV0 (sh) rfl rfl ?_
  refine runW ?_
  exact endW [] hQ
 ·
  rw [if_neg hu] at hQ
  have hd := decide_eq_false (show ¬ (0 : Int) ≤ cmpI A R from by
   have := hc.2 (show A < R by omega)
   omega)
  refine runW ?_
  refine callW [] [2] (o1) ?_
  refine runW ?_
  refine callV0 (sl) rfl rfl ?_
  refine runW ?_
  refine callV0 (a1) rfl rfl ?_
  refine runW ?_
  refine callV0 (cm) rfl rfl ?_
  simp (maxSteps := 1000000) (disch := (first | omega | (simp only [lnA, List.length_map, List.length_range, true_and, and_true]; (try omega); done) | fail)) only [go_sem, hd, Int.reduceEq, Int.reduceToNat, Nat.reduceAdd, Nat.reduceMul, Nat.reduceEqDiff, ↓reduceIte]
  exact endW [] hQ
end Go.Proofs.YtdohmppildfjhaaGreat

namespace Go.Proofs.YtdohmppildfjhaaGreat
open Go.Eng Go.Vx
set_option linter.unusedSimpArgs false
set_option linter.unusedVariables false
set_option maxRecDepth 100000
theorem two_fn {N : Nat} (hN : N ≤ 8192) : Fn1 Tryz.prog 68 [.lit (.int .i64 (N : Int))] [] (RV (tw N)) [] := by
 have l1 : (wg 1).length ≤ 1 := wg_one (by decide)
 have s := shl_fn (v := 1) hN (by omega)
 rw [Nat.one_mul] at s
 have o := of1_fn (x := 1) (by decide)
 have hb := bl_two (N := N) (K := 8193) (by omega)
 have l2 : (wg (2 ^ N)).length ≤ 129 := wg_bl (by omega)
 have rn := rnat_fn (n := 2 ^ N) (by omega)
 unfold tw
 generalize (((2 ^ N : Nat) : Int) : Rat) = r at *
 generalize 2 ^ N = two at *
 refine fn1N_of pl68 (by kernel_rfl) Tryz.call68 Tryz.func68 rfl (by kernel_rfl) rfl [.cell 2 41] (by kernel_rfl) fun Q hQ => ?_
 refine runW ?_
 refine callW [] [1] (o) ?_
 refine runW ?_
 refine callV0 (s) rfl rfl ?_
 refine runW ?_
 refine callV0 (rn) rfl rfl ?_
 refine runW ?_
 exact endW [] hQ
theorem halfB_fn {N : Nat} (hN : N ≤ 8192) : Fn1 Tryz.prog 67 [.lit (.int .i64 (N : Int))] [] (RV (hf N)) [] := by
 have h := rhalf_fn hN
 unfold hf
 refine fn1N_of pl67 (by kernel_rfl) Tryz.call67 Tryz.func67 rfl (by kernel_rfl) rfl [.cell 2 41] (by kernel_rfl) fun Q hQ => ?_
 repeat (first | (refine callV0 (h) rfl rfl ?_) | (refine runW ?_))
 exact endW [] hQ
theorem RS_tw {N : Nat} (hN : N ≤ 8192) : RS 129 (tw N) := by
 have hb := bl_two (N := N) (K := 8193) (by omega)
 exact RS_int (by rw [Int.natAbs_natCast]; exact wg_bl (by omega)) (by decide)
theorem RS_hf {N : Nat} (hN : N ≤ 8192) : RS 129 (hf N) := by
 have hb := bl_two (N := N) (K := 8193) (by omega)
 exact RS_mk (Nat.ne_of_gt (Nat.pow_pos (by decide))) (Nat.le_trans (wg_one (by decide)) (by decide)) (wg_bl (by omega))
theorem floor_len {x : Rat} {k : Nat} (h : RS k x) : (wg x.floor.natAbs).length ≤ k := by
 rw [Rat.floor_def]
 exact Nat.le_trans (wg_mono (Int.natAbs_ediv_le_natAbs _ _)) h.1
theorem floorB_fn {x : Rat} (hx : RS 400000 x) : Fn1 Tryz.prog 77 [RV x] [] (RV (x.floor : Rat)) [] := by
 have f := rfloor_fn hx
 have l := floor_len hx
 have w := wof_fn (n := 1) (by decide) (by decide)
 have r := rfrac_fn (p := x.floor) (q := 1) (by decide) (by omega) (show (wg 1).length ≤ _ from Nat.le_trans (wg_one (by decide)) (by decide))
 rw [show ((1 : Int) : Rat) = 1 from rfl, show (x.floor : Rat) / 1 = (x.floor : Rat) by grind] at r
 generalize (x.floor : Rat) = y at *
 generalize x.floor = z at *
 refine fn1N_of pl77 (by kernel_rfl) Tryz.call77 Tryz.func77 rfl (by kernel_rfl) rfl [.cell 2 41] (by kernel_rfl) fun Q hQ => ?_
 repeat (first | (refine callV0 (f) rfl rfl ?_) | (refine callV0 (w) rfl rfl ?_) | (refine callV0 (r) rfl rfl ?_) | (refine runW ?_))
 exact endW [] hQ
theorem RS_zero : RS 1 (0 : Rat) := RS_int (z := 0) (wg_one (by decide)) (by decide)
theorem minusB_fn {x : Rat} (hx : RS 400000 x) : Fn1 Tryz.prog 36 [RV x] [] (RV (0 - x)) [] := by
 have r := rsub_fn (RS_zero.mono (show 1 ≤ 400000 by decide)) hx
 rw [RV_zero] at r
 generalize (0 : Rat) - x = y at *
 refine fn1N_of pl36 (by kernel_rfl) Tryz.call36 Tryz.func36 rfl (by kernel_rfl) rfl [.cell 2 41] (by kernel_rfl) fun Q hQ => ?_
 refine runW ?_
 refine callW [] [] (r) ?_
 refine runW ?_
 exact endW [] hQ
theorem RS_fl {x : Rat} {k : Nat} (hk : 1 ≤ k) (h : RS k x) : RS k ((x.floor : Int) : Rat) := RS_int (floor_len h) hk
theorem RS_dn' {x : Rat} {k B : Nat} (hB : B ≤ 8192) (h : RS k x) : RS (k + 129 + 129) (dn x B) :=
 RS_mul (RS_fl (by omega) (RS_mul h (RS_tw hB))) (RS_hf hB)
theorem RS_up' {x : Rat} {k B : Nat} (hB : B ≤ 8192) (h : RS k x) : RS (1 + k + 1 + 129 + 129 + 1 + 1) (up x B) :=
 (RS_sub RS_zero (RS_dn' hB (RS_sub RS_zero h))).mono (by omega)
theorem down_fn {x : Rat} {bits : Int} {B : Nat} (hB : max 0 (min bits 512) = (B : Int)) (hx : RS 100000 x) : Fn1 Tryz.prog 34 [RV x, .lit (.int .i64 bits)] [] (RV (dn x B)) [] := by
 have hB2 : B ≤ 512 := by omega
 have t := two_fn (N := B) (by omega)
 have h := halfB_fn (N := B) (by omega)
 have st := RS_tw (N := B) (by omega)
 have sh := RS_hf (N := B) (by omega)
 have sm := RS_mul hx st
 have m1 := rmul_fn (hx.mono (show 100000 ≤ 400000 by decide)) (st.mono (show 129 ≤ 400000 by decide))
 have f := floorB_fn (sm.mono (by decide))
 have m2 := rmul_fn ((RS_fl (by decide) sm).mono (by decide)) (sh.mono (show 129 ≤ 400000 by decide))
 unfold dn
 generalize ((x * tw B).floor : Rat) * hf B = r1 at *
 generalize ((x * tw B).floor : Rat) = r2 at *
 generalize x * tw B = r3 at *
 generalize tw B = r4 at *
 generalize hf B = r5 at *
 refine fn1N_of pl34 (by kernel_rfl) Tryz.call34 Tryz.func34 rfl (by kernel_rfl) rfl [.cell 4 41] (by kernel_rfl) fun Q hQ => ?_
 repeat (first | (refine callV0 (t) rfl rfl ?_) | (refine callV0 (h) rfl rfl ?_) | (refine callV0 (m1) rfl rfl ?_) | (refine callV0 (f) rfl rfl ?_) | (refine callV0 (m2) rfl rfl ?_) | (simp (maxSteps := 1000000) (disch := (first | omega | (simp only [lnA, List.length_map, List.length_range, true_and, and_true]; (try omega); done) | fail)) only [go_sem, hB, Int.reduceEq, Int.reduceToNat, Nat.reduceAdd, Nat.reduceMul, Nat.reduceEqDiff, ↓reduceIte]))
 exact endW [] hQ
theorem upB_fn {x : Rat} {bits : Int} {B : Nat} (hB : max 0 (min bits 512) = (B : Int)) (hx : RS 90000 x) : Fn1 Tryz.prog 101 [RV x, .lit (.int .i64 bits)] [] (RV (up x B)) [] := by
 have sm := RS_sub RS_zero hx
 have m := minusB_fn (hx.mono (show 90000 ≤ 400000 by decide))
 have d := down_fn hB (sm.mono (show 1 + 90000 + 1 ≤ 100000 by decide))
 have m2 := minusB_fn ((RS_dn' (B := B) (by omega) sm).mono (show _ ≤ 400000 by decide))
 unfold up
 generalize 0 - dn (0 - x) B = r1 at *
 generalize dn (0 - x) B = r2 at *
 generalize 0 - x = r3 at *
 refine fn1N_of pl101 (by kernel_rfl) Tryz.call101 Tryz.func101 rfl (by kernel_rfl) rfl [.cell 4 41] (by kernel_rfl) fun Q hQ => ?_
 repeat (first | (refine callV0 (m) rfl rfl ?_) | (refine callV0 (d) rfl rfl ?_) | (refine callV0 (m2) rfl rfl ?_) | (refine runW ?_))
 exact endW [] hQ
theorem rcmp_le {x y : Rat} (hx : RS 400000 x) (hy : RS 400000 y) (h : x ≤ y) : ∃ c : Int, c ≤ 0 ∧ Fn1 Tryz.prog 10 [RV x, RV y] [] (.lit (.int .i64 c)) [] :=
 ⟨cmpQ x y, Int.not_lt.1 fun e => Rat.not_lt.2 h (cmpQ_pos.1 e), rcmp_fn hx hy⟩
theorem rcmp_ge {x y : Rat} (hx : RS 400000 x) (hy : RS 400000 y) (h : y ≤ x) : ∃ c : Int, 0 ≤ c ∧ Fn1 Tryz.prog 10 [RV x, RV y] [] (.lit (.int .i64 c)) [] :=
 ⟨cmpQ x y, Int.not_lt.1 fun e => Rat.not_lt.2 h (cmpQ_neg.1 e), rcmp_fn hx hy⟩
theorem rcmp_lt {x y : Rat} (hx : RS 400000 x) (hy : RS 400000 y) (h : x < y) : ∃ c : Int, c < 0 ∧ Fn1 Tryz.prog 10 [RV x, RV y] [] (.lit (.int .i64 c)) [] :=
 ⟨cmpQ x y, cmpQ_neg.2 h, rcmp_fn hx hy⟩
theorem rcmp_gt {x y : Rat} (hx : RS 400000 x) (hy : RS 400000 y) (h : y < x) : ∃ c : Int, 0 < c ∧ Fn1 Tryz.prog 10 [RV x, RV y] [] (.lit (.int .i64 c)) [] :=
 ⟨cmpQ x y, cmpQ_pos.2 h, rcmp_fn hx hy⟩
end Go.Proofs.YtdohmppildfjhaaGreat
