import Derived.Test.YtpkfddfkacijoaaGreatDoorRi
import Derived.Test.YtpkfddfkacijoaaGreatDoorAa
import Derived.Test.YtpkfddfkacijoaaGreatDoorLb
import Derived.Test.YtpkfddfkacijoaaGreatDoorSa
namespace Go.Proofs.YtpkfddfkacijoaaGreatDoor
open Go.Eng Go.Vx
set_option linter.unusedSimpArgs false
set_option linter.unusedVariables false
set_option maxRecDepth 100000
def goodA (K P C : Int) : Prop := (K = 1 ∧ 1 ≤ P ∧ P ≤ 8 ∨ K = 2 ∧ P = 0) ∧ 1 ≤ C ∧ C ≤ 16
theorem acheck_fn {K P C : Int} (h : goodA K P C) : Fn1 Tryz.prog 75 [.agg [.lit (.int .i64 K), .lit (.int .i64 P), .lit (.int .i64 C)]] [] (.lit (.int .i64 0)) [] := by
  obtain ⟨h, h1, h2⟩ := h
  refine fn1N_of pl75 (by kernel_rfl) Tryz.call75 Tryz.func75 rfl (by kernel_rfl) rfl [.tmp 2] (by kernel_rfl) fun Q hQ => ?_
  rcases h with ⟨rfl, h3, h4⟩ | ⟨rfl, rfl⟩
  · refine runW ?_
    exact endW [] hQ
  · refine runW ?_
    exact endW [] hQ
def gN (K : Int) (P N : Nat) : Nat := if K = 2 then N * lgN (max 1 N) else N ^ P
theorem gN_lt {K : Int} {P N : Nat} (hP : P ≤ 8) (hN : N ≤ 1048576) : gN K P N < 18446744073709551616 ^ 3 := by
  unfold gN
  split
  · have h := (xl_le hN).2
    unfold xl at h
    have h2 : (11542724608000000 : Nat) < 18446744073709551616 ^ 3 := by decide
    omega
  · have h1 : N ^ P ≤ 1048576 ^ P := Nat.pow_le_pow_left hN P
    have h2 : 1048576 ^ P ≤ 1048576 ^ 8 := Nat.pow_le_pow_right (by decide) hP
    exact Nat.lt_of_le_of_lt (Nat.le_trans h1 h2) (by decide)
theorem gN_wg {K : Int} {P N : Nat} (hP : P ≤ 8) (hN : N ≤ 1048576) : (wg (gN K P N)).length ≤ 3 := wg_len (gN_lt hP hN)
theorem ag_fn {K C r : Int} {P N : Nat} (h : goodA K P C) (hN : max 0 (min r 1048576) = (N : Int)) : Fn1 Tryz.prog 80 [.agg [.lit (.int .i64 K), .lit (.int .i64 (P : Int)), .lit (.int .i64 C)], .lit (.int .i64 r)] [] (NV (gN K P N)) [] := by
  have hc := acheck_fn h
  obtain ⟨h, h1, h2⟩ := h
  have hN2 : N ≤ 1048576 := by omega
  have hmm : min 1048576 (max 0 r) = (N : Int) := by omega
  refine fn1N_of pl80 (by kernel_rfl) Tryz.call80 Tryz.func80 rfl (by kernel_rfl) rfl [.cell 4 56] (by kernel_rfl) fun Q hQ => ?_
  rcases h with ⟨rfl, h3, h4⟩ | ⟨rfl, h3⟩
  · have e : gN 1 P N = N ^ P := if_neg (by decide)
    rw [e] at hQ
    have hb := bl_le_of (n := N) (k := 21) (by omega)
    have hm : P * bl N ≤ 8 * 21 := Nat.mul_le_mul (by omega) hb
    have o := of1_fn (x := N) (by omega)
    have p := npow_fn (a := N) (n := P) (by omega) (by omega) (fun _ => by omega)
    refine runW ?_
    refine callV0 (hc) rfl rfl ?_
    simp (maxSteps := 1000000) (disch := (first | omega | (simp only [lnA, List.length_map, List.length_range, true_and, and_true]; (try omega); done) | fail)) only [go_sem, hN, Int.reduceEq, Int.reduceToNat, Nat.reduceAdd, Nat.reduceMul, Nat.reduceEqDiff, ↓reduceIte]
    refine callW [] [2] (o) ?_
    refine runW ?_
    refine callV0 (p) rfl rfl ?_
    refine runW ?_
    exact endW [] hQ
  · obtain rfl : P = 0 := by omega
    have e : gN 2 0 N = N * lgN (max 1 N) := if_pos rfl
    rw [e] at hQ
    have hx := xlogn_fn hN2
    have hl := xl_le hN2
    unfold xl at hx hl
    generalize N * lgN (max 1 N) = X at *
    have o := of1_fn (x := X) (by omega)
    refine runW ?_
    refine callV0 (hc) rfl rfl ?_
    simp (maxSteps := 1000000) (disch := (first | omega | (simp only [lnA, List.length_map, List.length_range, true_and, and_true]; (try omega); done) | fail)) only [go_sem, hN, Int.reduceEq, Int.reduceToNat, Nat.reduceAdd, Nat.reduceMul, Nat.reduceEqDiff, ↓reduceIte]
    refine callV0 (hx) rfl rfl ?_
    refine runW ?_
    refine callW [] [2] (o) ?_
    refine runW ?_
    exact endW [] hQ
def sV (x : Nat × Nat) : List PV := [.lit (.int .u64 (x.1 : Int)), .lit (.int .i64 (x.2 : Int))]
def amC (K P C : Int) (X : List (Nat × Nat)) (N : Nat) : Ob := .cells [.lit (.int .i64 K), .lit (.int .i64 P), .lit (.int .i64 C), .row 2 (X.map sV), .lit (.int .i64 (N : Int))]
def amP (K P C : Int) (X : List (Nat × Nat)) (N : Nat) : V := .rref 5 [[.lit (.int .i64 K), .lit (.int .i64 P), .lit (.int .i64 C), .row 2 (X.map sV), .lit (.int .i64 (N : Int))]] 0 0
attribute [go_sem] amC amP
@[go_sem] theorem sV_eq {x : Nat × Nat} : sV x = [.lit (.int .u64 (x.1 : Int)), .lit (.int .i64 (x.2 : Int))] := (rfl)
@[go_sem] theorem pnO_sV {X : List (Nat × Nat)} {z : Nat} : pnO (.row z (X.map sV)) = True := eq_true fun e he p hp => by
  obtain ⟨x, _, rfl⟩ := List.mem_map.1 he
  rw [sV_eq] at hp
  simp only [List.mem_cons, List.not_mem_nil, or_false] at hp
  rcases hp with rfl | rfl <;> rfl
theorem anew_fn {K P : Int} {C : Nat} (h : goodA K P C) : Fn1 Tryz.prog 37 [.agg [.lit (.int .i64 K), .lit (.int .i64 P), .lit (.int .i64 (C : Int))]] [] (.tup [.ref 0 0 0 0, .lit (.int .i64 0)]) [some (amC K P C (List.replicate C (0, 0)) 0)] := by
  have hc := acheck_fn h
  obtain ⟨h, h1, h2⟩ := h
  have e : (List.replicate C ((0 : Nat), (0 : Nat))).map sV = zrow [.int .u64 0, .int .i64 0] C := by rw [List.map_replicate]; rfl
  have el : (zrow [Value.int IntKind.u64 0, Value.int IntKind.i64 0] C).length = C := by unfold zrow; rw [List.length_replicate]
  have et : List.take C (zrow [Value.int IntKind.u64 0, Value.int IntKind.i64 0] C) = zrow [Value.int IntKind.u64 0, Value.int IntKind.i64 0] C := List.take_of_length_le (Nat.le_of_eq el)
  refine fn1N_of pl37 (by kernel_rfl) Tryz.call37 Tryz.func37 rfl (by kernel_rfl) rfl [.tmp 2, .tmp 3] (by kernel_rfl) fun Q hQ => ?_
  unfold amC at hQ
  rw [e, show ((0 : Nat) : Int) = 0 from rfl] at hQ
  refine runW ?_
  refine callV0 (hc) rfl rfl ?_
  refine runW ?_
  generalize zrow [Value.int IntKind.u64 0, Value.int IntKind.i64 0] C = zr at *
  refine EndV_of [some 2] _ _ rfl ?_ ?_ hQ
  · simp only [go_sem, el, et, true_and, and_true, and_self, Nat.le_refl, List.take_zero, List.drop_zero]; (try simp); (try (rw [et])); (try simp [el, et])
  · (simp (disch := (first | omega | (simp only [lnA, List.length_map, List.length_range, true_and, and_true]; (try omega); done) | fail)) only [go_sem, Int.reduceEq, Int.reduceToNat, Nat.reduceAdd, Nat.reduceMul, Nat.reduceEqDiff, ↓reduceIte, true_and, and_true, and_self, List.drop_zero, List.take_length, Nat.le_refl, V.lit.injEq, Value.int.injEq, Value.bool.injEq]; try (first | omega | (simp; done) | (simp; omega)))
theorem atotal_fn {K P C : Int} {X : List (Nat × Nat)} {N : Nat} : Fn1 Tryz.prog 17 [amP K P C X N] [] (.lit (.int .i64 (N : Int))) [] := by
  refine fn1N_of pl17 (by kernel_rfl) Tryz.call17 Tryz.func17 rfl (by kernel_rfl) rfl [.tmp 2] (by kernel_rfl) fun Q hQ => ?_
  refine runW ?_
  exact endW [] hQ
theorem aparam_fn {K P C : Int} {X : List (Nat × Nat)} {N : Nat} : Fn1 Tryz.prog 12 [amP K P C X N] [] (.agg [.lit (.int .i64 K), .lit (.int .i64 P), .lit (.int .i64 C)]) [] := by
  refine fn1N_of pl12 (by kernel_rfl) Tryz.call12 Tryz.func12 rfl (by kernel_rfl) rfl [.cell 2 34] (by kernel_rfl) fun Q hQ => ?_
  refine runW ?_
  exact endW [] hQ
theorem asamp_fn {K P C : Int} {X : List (Nat × Nat)} {N i : Nat} {x : Nat × Nat} (hi : X[i]? = some x) (hX : X.length ≤ 1000000) : Fn1 Tryz.prog 16 [amP K P C X N, .lit (.int .i64 (i : Int))] []
    (.tup [.agg [.lit (.int .u64 (x.1 : Int)), .lit (.int .i64 (x.2 : Int))], .lit (.int .i64 0)]) [] := by
  obtain ⟨hl, hx⟩ := List.getElem?_eq_some_iff.1 hi
  have e : X.getD i default = x := by rw [List.getD_eq_getElem?_getD, hi]; rfl
  refine fn1N_of pl16 (by kernel_rfl) Tryz.call16 Tryz.func16 rfl (by kernel_rfl) rfl [.cell 4 52, .tmp 5] (by kernel_rfl) fun Q hQ => ?_
  simp (maxSteps := 1000000) (disch := (first | omega | (simp only [lnA, List.length_map, List.length_range, true_and, and_true]; (try omega); done) | fail)) only [go_sem, e, Int.reduceEq, Int.reduceToNat, Nat.reduceAdd, Nat.reduceMul, Nat.reduceEqDiff, ↓reduceIte]
  exact endW [] hQ
theorem asampE_fn {K P C i : Int} {X : List (Nat × Nat)} {N : Nat} (hi : i < 0 ∨ (X.length : Int) ≤ i) (hX : X.length ≤ 1000000) : Fn1 Tryz.prog 16 [amP K P C X N, .lit (.int .i64 i)] []
    (.tup [.agg [.lit (.int .u64 0), .lit (.int .i64 0)], .lit (.int .i64 1)]) [] := by
  refine fn1N_of pl16 (by kernel_rfl) Tryz.call16 Tryz.func16 rfl (by kernel_rfl) rfl [.cell 4 52, .tmp 5] (by kernel_rfl) fun Q hQ => ?_
  rcases hi with hi | hi
  · refine runW ?_
    exact endW [] hQ
  · by_cases h0 : i < 0
    · refine runW ?_
      exact endW [] hQ
    · refine runW ?_
      exact endW [] hQ
def dG (K : Int) (P R : Nat) : Rat := (((gN K P R : Nat) : Int) : Rat) - (((gN K P (R - 1) : Nat) : Int) : Rat)
def dGe (K : Int) (P R : Nat) : Rat := if K = 2 then dG K P R / ((268435456 : Int) : Rat) else dG K P R
theorem dG_RS {K : Int} {P R : Nat} (hP : P ≤ 8) (hR : R ≤ 1048576) : RS 7 (dG K P R) :=
  RS_sub (k := 3) (l := 3) (RS_int (by rw [Int.natAbs_natCast]; exact gN_wg hP hR) (by decide)) (RS_int (by rw [Int.natAbs_natCast]; exact gN_wg hP (by omega)) (by decide))
theorem dGe_RS {K : Int} {P R : Nat} (hP : P ≤ 8) (hR : R ≤ 1048576) : RS 8 (dGe K P R) := by
  unfold dGe
  split
  · exact RS_div (by decide) (dG_RS hP hR) (RS_one (by decide) (by decide))
  · exact (dG_RS hP hR).mono (by decide)
theorem aestE_fn {K P C i : Int} {X : List (Nat × Nat)} {N : Nat} (hi : i < 0 ∨ (X.length : Int) ≤ i) (hX : X.length ≤ 1000000) :
    Fn1 Tryz.prog 40 [amP K P C X N, .lit (.int .i64 i)] [] (.tup [RV 0, .lit (.int .i64 1)]) [] := by
  have hs := asampE_fn (K := K) (P := P) (C := C) (N := N) hi hX
  rw [RV_zero]
  refine fn1N_of pl40 (by kernel_rfl) Tryz.call40 Tryz.func40 rfl (by kernel_rfl) rfl [.cell 4 91, .tmp 5] (by kernel_rfl) fun Q hQ => ?_
  refine runW ?_
  refine callT (hs) ?_
  refine runW ?_
  exact endW [] hQ
end Go.Proofs.YtpkfddfkacijoaaGreatDoor
