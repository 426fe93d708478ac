import Derived.Test.YtpkfddfkacijoaaSh
import Derived.Test.YtpkfddfkacijoaaSk
namespace Go.Proofs.Ytpkfddfkacijoaa
open Go.Eng Go.Vx
set_option linter.unusedSimpArgs false
set_option linter.unusedVariables false
set_option maxRecDepth 100000
def SPof (M D S : Nat) : SP := ⟨2 ^ M - 1, 2 ^ D - 1, S⟩
structure WB (M D S : Nat) : Prop where
  m1 : 1 ≤ M
  m8 : M ≤ 8
  d1 : 1 ≤ D
  d2 : D ≤ 2
  s1 : 1 ≤ S
  s4 : S ≤ 4
theorem WB.pw {M D S : Nat} (h : WB M D S) : PW (SPof M D S) := by
  have a1 : 2 ^ 1 ≤ 2 ^ M := Nat.pow_le_pow_right (by decide) h.m1
  have a2 : 2 ^ M ≤ 2 ^ 8 := Nat.pow_le_pow_right (by decide) h.m8
  have b1 : 2 ^ 1 ≤ 2 ^ D := Nat.pow_le_pow_right (by decide) h.d1
  have b2 : 2 ^ D ≤ 2 ^ 2 := Nat.pow_le_pow_right (by decide) h.d2
  have := h.s1
  have := h.s4
  exact { m1 := by show 1 ≤ 2 ^ M - 1; omega, m2 := by show 2 ^ M - 1 ≤ 65535; omega, d1 := by show 1 ≤ 2 ^ D - 1; omega, d2 := by show 2 ^ D - 1 ≤ 15; omega, s1 := h.s1, s2 := by show S ≤ 8; omega, m255 := by show 2 ^ M - 1 ≤ 255; omega, d3 := by show 2 ^ D - 1 ≤ 3; omega, s4 := h.s4 }
theorem sscaled_fn {M D S n s sc v p : Nat} {cs : List Cell} {f d : Bool} {L : List Bool} (hw : WB M D S) (hL : L.length ≤ 1048576) (hp : p ≤ L.length) (hd : d = true → p = L.length) (hv : v ≤ 1099511627776) (hsc : sc ≤ 5) :
    Fn1 Try.prog 91 [.ref 0 0 0 0, .ref 1 0 0 0, NV v, .lit (.int .i64 (sc : Int))] (W3 M D S n cs s f L p d)
    (.tup [cA ((outN L d v (sc * modeOf (SPof M D S) v sc (SPof M D S).d 0) p).1, modeOf (SPof M D S) v sc (SPof M D S).d 0), .lit (.int .i64 (outN L d v (sc * modeOf (SPof M D S) v sc (SPof M D S).d 0) p).2.1)])
    (W3 M D S n cs s f L (outN L d v (sc * modeOf (SPof M D S) v sc (SPof M D S).d 0) p).2.2.1 (outN L d v (sc * modeOf (SPof M D S) v sc (SPof M D S).d 0) p).2.2.2) := by
  have ht := stops_fn (M := M) (D := D) (S := S) (by have := hw.m8; omega) (by have := hw.d2; omega)
  have hpw := hw.pw
  have hd3 := hpw.d3
  have hm255 := hpw.m255
  have hml := mode_le (P := SPof M D S) (v := v) (s := sc)
  rw [show 2 ^ M - 1 = (SPof M D S).m from rfl, show 2 ^ D - 1 = (SPof M D S).d from rfl] at ht
  have hsm : sc * modeOf (SPof M D S) v sc (SPof M D S).d 0 ≤ 5 * 3 := Nat.mul_le_mul hsc (by omega)
  have hr := sround_fn (L := L) (n := v) (k := sc * modeOf (SPof M D S) v sc (SPof M D S).d 0) (p := p) (d := d) hL hp hd hv (by omega)
  generalize hP : SPof M D S = P at *
  generalize hmm : modeOf P v sc P.d 0 = mm at *
  have hvw : (wg v).length ≤ 1 := wg_one (by omega)
  refine fn1N_of pl91 (by kernel_rfl) Try.call91 Try.func91 rfl (by kernel_rfl) rfl [.cell 8 103, .tmp 9] (by kernel_rfl) fun Q hQ => ?_
  refine runW ?_
  refine callV0 (ht) rfl rfl ?_
  refine runW ?_
  refine loopW (X := Nat) (st := fun m => ([(0, .ref 0 0 0 0), (1, .ref 1 0 0 0), (3, .lit (.int .i64 (sc : Int))), (6, .ref 3 0 0 0), (8, .ref 4 0 0 0), (10, .lit (.int .i64 (P.m : Int))), (11, .lit (.int .i64 (P.d : Int))), (12, .lit (.int .i64 (m : Int)))], W3 M D S n cs s f L p d ++ [some (.cells [.row 1 ((nl (wg v)).map (ie .u64))]), some (.cells [.lit (.int .i64 0), .lit (.int .i64 0)])]))
    (inv := fun m => m ≤ P.d ∧ modeOf P v sc (P.d - m) m = mm) (m := fun m => P.d - m) 0 [some 0, some 1, some 2, some 3, some 4] ⟨Nat.zero_le _, hmm⟩ ?_
  rintro m ⟨hm, hmo⟩
  by_cases h1 : m < P.d
  · obtain ⟨g, hg⟩ : ∃ g, P.d - m = g + 1 := ⟨P.d - m - 1, by omega⟩
    have hsm2 : sc * m ≤ 5 * 3 := Nat.mul_le_mul hsc (by omega)
    have e : (sc : Int) * (m : Int) = ((sc * m : Nat) : Int) := by simp
    have sh := shr_fn (v := v) (N := sc * m) (n := ((sc * m : Nat) : Int)) (by omega) (by omega) (by omega)
    have o := of1_fn (x := P.m) (by omega)
    have c := ncmp_fn (a := v / 2 ^ (sc * m)) (b := P.m) (Nat.le_trans (wg_one (Nat.lt_of_le_of_lt (Nat.div_le_self _ _) (by omega))) (by decide)) (Nat.le_trans (wg_one (by omega)) (by decide))
    rw [hg] at hmo
    unfold modeOf at hmo
    by_cases h2 : P.m < v / 2 ^ (sc * m)
    · rw [if_pos ⟨h1, h2⟩] at hmo
      rw [cmpI_gt h2] at c
      generalize v / 2 ^ (sc * m) = u at *
      generalize sc * m = k at *
      simp (maxSteps := 1000000) (disch := (first | omega | (simp only [lnA, List.length_map, List.length_range, true_and, and_true]; (try omega); done) | fail)) only [go_sem, e, Int.reduceEq, Int.reduceToNat, Nat.reduceAdd, Nat.reduceMul, Nat.reduceEqDiff, ↓reduceIte]
      refine callV0 (sh) rfl rfl ?_
      refine runW ?_
      refine callW [] [5] (o) ?_
      refine runW ?_
      refine callV0 (c) rfl rfl ?_
      refine runW ?_
      refine nextW (m + 1) [some 0, some 1, some 2, some 3, some 4] ⟨by omega, by rw [← hmo]; congr 1; omega⟩ (by omega)
    · rw [if_neg (fun h => h2 h.2)] at hmo
      subst hmo
      have hc : cmpI (v / 2 ^ (sc * m)) P.m ≤ 0 := by unfold cmpI; split <;> (try split) <;> omega
      have hc2 := decide_eq_false (show ¬ cmpI (v / 2 ^ (sc * m)) P.m > 0 by omega)
      generalize cmpI (v / 2 ^ (sc * m)) P.m = ci at *
      generalize v / 2 ^ (sc * m) = u at *
      generalize outN L d v (sc * m) p = x at *
      generalize sc * m = k at *
      simp (maxSteps := 1000000) (disch := (first | omega | (simp only [lnA, List.length_map, List.length_range, true_and, and_true]; (try omega); done) | fail)) only [go_sem, e, Int.reduceEq, Int.reduceToNat, Nat.reduceAdd, Nat.reduceMul, Nat.reduceEqDiff, ↓reduceIte]
      refine callV0 (sh) rfl rfl ?_
      refine runW ?_
      refine callW [] [5] (o) ?_
      refine runW ?_
      refine callV0 (c) rfl rfl ?_
      simp (maxSteps := 1000000) (disch := (first | omega | (simp only [lnA, List.length_map, List.length_range, true_and, and_true]; (try omega); done) | fail)) only [go_sem, e, Int.reduceEq, Int.reduceToNat, Nat.reduceAdd, Nat.reduceMul, Nat.reduceEqDiff, ↓reduceIte]
      refine callW [some 1] [] (hr) ?_
      refine runW ?_
      exact endW [some 0, some 1, some 2] hQ
  · obtain rfl : m = P.d := by omega
    rw [Nat.sub_self] at hmo
    unfold modeOf at hmo
    subst hmo
    have e : (sc : Int) * (P.d : Int) = ((sc * P.d : Nat) : Int) := by simp
    generalize outN L d v (sc * P.d) p = x at *
    generalize sc * P.d = k at *
    simp (maxSteps := 1000000) (disch := (first | omega | (simp only [lnA, List.length_map, List.length_range, true_and, and_true]; (try omega); done) | fail)) only [go_sem, e, Int.reduceEq, Int.reduceToNat, Nat.reduceAdd, Nat.reduceMul, Nat.reduceEqDiff, ↓reduceIte]
    refine callW [some 1] [] (hr) ?_
    refine runW ?_
    exact endW [some 0, some 1, some 2] hQ
end Go.Proofs.Ytpkfddfkacijoaa
