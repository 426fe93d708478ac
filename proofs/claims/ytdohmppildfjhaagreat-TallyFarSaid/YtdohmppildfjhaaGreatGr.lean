import Derived.Test.YtdohmppildfjhaaGreatGn
import Derived.Test.YtdohmppildfjhaaGreatKh
namespace Go.Proofs.YtdohmppildfjhaaGreat
open Go.Eng Go.Vx
set_option linter.unusedSimpArgs false
set_option linter.unusedVariables false
set_option maxRecDepth 100000
theorem rvalue_fn {k a w K : Nat} {F : Bool} (hs : smallG k a w) (hK : K ≤ 2 ^ w - 1) (hF : F = true → K = 2 ^ w - 1) : Fn1 Tryz.prog 7 [pR k a w, kyS ((K : Int), 0, F)] [] (.tup [RV (vlX k a K), .lit (.int .i64 0)]) [] := by
 obtain ⟨hg, h4⟩ := smallG_good hs
 have hk4 : ¬ (k : Int) = 4 := by omega
 have wr : Fn1 Tryz.prog 21 [pR k a w, .row 3 [[.lit (.int .i64 (K : Int)), .lit (.int .i64 0), .lit (.bool F)]]] [] (.lit (.int .i64 0)) [] := rWrong_fn (s := (K, 0, F)) hg (by unfold wellN; rw [if_neg h4]; exact ⟨rfl, hK, hF⟩)
 have ch := rchain_fn (k := (k : Int)) (a := (a : Int)) (b := (w : Int))
 have vl := cvalue_fn hs hK
 generalize vlX k a K = v at *
 refine fn1N_of pl7 (by kernel_rfl) Tryz.call7 Tryz.func7 rfl (by kernel_rfl) rfl [.cell 4 41, .tmp 5] (by kernel_rfl) fun Q hQ => ?_
 refine runW ?_
 refine callW [] [3] (wr) ?_
 refine runW ?_
 repeat (first | (refine callV0 (ch) rfl rfl ?_) | (refine callV0 (vl) rfl rfl ?_) | (refine runW ?_))
 exact endW [] hQ
theorem ttruth1_fn : Fn1 Tryz.prog 39 [.lit (.bool true)] [] (RV 1) [] := by
 have o := rofI_fn
 generalize (1 : Rat) = one at *
 refine fn1N_of pl39 (by kernel_rfl) Tryz.call39 Tryz.func39 rfl (by kernel_rfl) rfl [.cell 2 41] (by kernel_rfl) fun Q hQ => ?_
 repeat (first | (refine callV0 (o) rfl rfl ?_) | (refine runW ?_))
 exact endW [] hQ
theorem ttruth0_fn : Fn1 Tryz.prog 39 [.lit (.bool false)] [] (RV 0) [] := by
 rw [RV0n]
 refine fn1N_of pl39 (by kernel_rfl) Tryz.call39 Tryz.func39 rfl (by kernel_rfl) rfl [.cell 2 41] (by kernel_rfl) fun Q hQ => ?_
 refine runW ?_
 exact endW [] hQ
def cyP (y : Rat) : V := .rref 3 [enP y] 0 0
attribute [go_sem] cyP enP
def indX (y v : Rat) : Rat := if y ≤ v then 1 else 0
theorem ttail1_fn {s : Ky} {v y : Rat} (hv : RS 400000 v) (hy : RS 400000 y) : Fn1 Tryz.prog 38 [kyS s, RV v, cyP y] [] (RV (indX y v)) [] := by
 obtain ⟨K, T, F⟩ := s
 unfold indX
 by_cases h : y ≤ v
 ·
  rw [if_pos h]
  obtain ⟨c, hc, cm⟩ := rcmp_ge hv hy h
  have t := ttruth1_fn
  have hd : decide (0 ≤ c) = true := decide_eq_true hc
  generalize (1 : Rat) = one at *
  refine fn1N_of pl38 (by kernel_rfl) Tryz.call38 Tryz.func38 rfl (by kernel_rfl) rfl [.cell 5 41] (by kernel_rfl) fun Q hQ => ?_
  repeat (first | (refine callV0 (cm) rfl rfl ?_) | (refine callV0 (t) rfl rfl ?_) | (simp (maxSteps := 1000000) (disch := (first | omega | (simp only [lnA, List.length_map, List.length_range, true_and, and_true]; (try omega); done) | fail)) only [go_sem, hd, Int.reduceEq, Int.reduceToNat, Nat.reduceAdd, Nat.reduceMul, Nat.reduceEqDiff, ↓reduceIte]))
  exact endW [] hQ
 ·
  rw [if_neg h]
  obtain ⟨c, hc, cm⟩ := rcmp_lt hv hy (Rat.not_le.1 h)
  have t := ttruth0_fn
  have hd : decide (0 ≤ c) = false := decide_eq_false (by omega)
  generalize (0 : Rat) = zer at *
  refine fn1N_of pl38 (by kernel_rfl) Tryz.call38 Tryz.func38 rfl (by kernel_rfl) rfl [.cell 5 41] (by kernel_rfl) fun Q hQ => ?_
  repeat (first | (refine callV0 (cm) rfl rfl ?_) | (refine callV0 (t) rfl rfl ?_) | (simp (maxSteps := 1000000) (disch := (first | omega | (simp only [lnA, List.length_map, List.length_range, true_and, and_true]; (try omega); done) | fail)) only [go_sem, hd, Int.reduceEq, Int.reduceToNat, Nat.reduceAdd, Nat.reduceMul, Nat.reduceEqDiff, ↓reduceIte]))
  exact endW [] hQ
def tlX (k a : Nat) (y : Rat) (L : Ds) : Rat := L.foldl (fun o e => o + e.2 * indX y (vlX k a e.1.1.toNat)) 0
theorem tlX_snoc (k a : Nat) (y : Rat) (L : Ds) (e : Ky × Rat) : tlX k a y (L ++ [e]) = tlX k a y L + e.2 * indX y (vlX k a e.1.1.toNat) := by simp [tlX]
theorem tlX_EX (k a : Nat) (y : Rat) (L : Ds) : tlX k a y L = EX (fun s => indX y (vlX k a s.1.toNat)) L := by
 have key : ∀ (L : Ds) (o : Rat), L.foldl (fun o e => o + e.2 * indX y (vlX k a e.1.1.toNat)) o = o + EX (fun s => indX y (vlX k a s.1.toNat)) L := by
  intro L
  induction L with
  | nil => intro o; simp only [List.foldl_nil, EX]; grind
  | cons e L ih =>
   intro o
   obtain ⟨s, x⟩ := e
   rw [List.foldl_cons, ih]
   simp only [EX]
   grind
 unfold tlX
 rw [key L 0, Rat.zero_add]
theorem rwC_zero : rwC 0 = .cells [.row 1 [], .lit (.bool false), .row 1 []] := by
 unfold rwC
 rw [show (0 : Rat).num = 0 from rfl, show (0 : Rat).den = 1 from rfl, show (0 : Int).natAbs = 0 from rfl, Nat.sub_self, wg_zero]
 rfl
set_option maxHeartbeats 4000000 in
theorem tsum_fn {k a w : Nat} {y : Rat} {A : Ds} (hs : smallG k a w) (hy : RS 400000 y) (hA : A.length ≤ 100000) (hok : ∀ e ∈ A, okS w e.1 ∧ RS 400000 e.2) (hv : ∀ K, K ≤ 15 → RS 400000 (vlX k a K))
  (hP : ∀ e ∈ A, ∀ K, K ≤ 15 → RS 400000 (e.2 * indX y (vlX k a K))) (hS : ∀ i, RS 400000 (tlX k a y (A.take i))) :
  Fn1 Tryz.prog 37 [pR k a w, .row 6 (A.map enA), .clo 38 [cyP y]] [] (.tup [RV (tlX k a y A), .lit (.int .i64 0)]) [] := by
 obtain ⟨hg, h4⟩ := smallG_good hs
 have hp : 2 ^ w ≤ 2 ^ 4 := Nat.pow_le_pow_right (by decide) hs.2.2
 have rc := rCheck_fn hg
 refine fn1N_of pl37 (by kernel_rfl) Tryz.call37 Tryz.func37 rfl (by kernel_rfl) rfl [.cell 6 41, .tmp 7] (by kernel_rfl) fun Q hQ => ?_
 refine runW ?_
 refine callV0 (rc) rfl rfl ?_
 refine runW ?_
 have h0 : tlX k a y (A.take 0) = 0 := rfl
 refine LoopV_of (X := Nat) (st := fun i => ([(2, .clo 38 [cyP y]), (3, .ref 0 0 0 0), (6, .ref 2 0 0 0), (9, .ref 1 0 0 0), (20, .row 6 (A.map enA)), (21, .lit (.int .i64 (A.length : Int))), (22, .lit (.int .i64 (i : Int)))],
   [some (.cells [.lit (.int .i64 (k : Int)), .lit (.int .i64 (a : Int)), .lit (.int .i64 (w : Int))]), some (rwC (tlX k a y (A.take i))), some (.cells [.lit (.slice none 0 0), .lit (.bool false), .lit (.slice none 0 0)])]))
  (inv := fun i => i ≤ A.length) (m := fun i => A.length - i) 0 [some 0, some 2, some 1] rfl (by simp only [h0, rwC_zero]; (simp (disch := (first | omega | (simp only [lnA, List.length_map, List.length_range, true_and, and_true]; (try omega); done) | fail)) only [go_sem, Int.reduceEq, Int.reduceToNat, Nat.reduceAdd, Nat.reduceMul, Nat.reduceEqDiff, ↓reduceIte, true_and, and_true, and_self, List.drop_zero, List.take_length, Nat.le_refl, V.lit.injEq, Value.int.injEq, Value.bool.injEq]; try (first | omega | (simp; done) | (simp; omega)))) (by simp (disch := (first | omega | (simp only [lnA, List.length_map, List.length_range, true_and, and_true]; (try omega); done) | fail)) only [go_sem, Int.reduceEq, Int.reduceToNat, Nat.reduceAdd, Nat.reduceMul, Nat.reduceEqDiff, ↓reduceIte, true_and, and_true, and_self, List.drop_zero, List.take_length, Nat.le_refl, V.lit.injEq, Value.int.injEq, Value.bool.injEq]; try (first | omega | (simp; done) | (simp; omega))) (Nat.zero_le _) ?_
 intro i hi
 by_cases hlt : i < A.length
 ·
  have ha := getD_mem hlt
  have hsn := takeD_snoc hlt
  have hSi := hS i
  have hSi1 := hS (i + 1)
  generalize hag : A.getD i default = ag at *
  obtain ⟨⟨sK, sT, sF⟩, q⟩ := ag
  obtain ⟨⟨K, e1, e2, e3, e4⟩, hq⟩ := hok _ ha
  dsimp only at e1 e2 e3 e4 hq
  subst e1 e3
  have vl := rvalue_fn (F := sF) hs e2 e4
  have tl := ttail1_fn (s := ((K : Int), 0, sF)) (v := vlX k a K) (y := y) (hv K (by omega)) hy
  have hPm := hP _ ha K (by omega)
  dsimp only at hPm
  have hnx : tlX k a y (A.take (i + 1)) = tlX k a y (A.take i) + q * indX y (vlX k a K) := by rw [hsn, tlX_snoc]; dsimp only; rw [Int.toNat_natCast]
  have hi2 : RS 400000 (indX y (vlX k a K)) := by
   unfold indX
   split
   ·
    exact (RS_small (z := 1) (by decide)).mono (by decide)
   ·
    exact (RS_small (z := 0) (by decide)).mono (by decide)
  have mu := rmul_fn hq hi2
  have ad := radd_fn hSi hPm
  rw [← hnx] at ad
  have ei : (i : Int) + 1 = ((i + 1 : Nat) : Int) := by omega
  clear hPm hi2 hS hP hSi hSi1
  generalize hT1 : tlX k a y (A.take (i + 1)) = t1 at *
  generalize tlX k a y (A.take i) = t0 at *
  generalize q * indX y (vlX k a K) = qm at *
  generalize indX y (vlX k a K) = im at *
  generalize vlX k a K = v at *
  simp (maxSteps := 1000000) (disch := (first | omega | (simp only [lnA, List.length_map, List.length_range, true_and, and_true]; (try omega); done) | fail)) only [go_sem, hag, enA_mk, Int.reduceEq, Int.reduceToNat, Nat.reduceAdd, Nat.reduceMul, Nat.reduceEqDiff, ↓reduceIte]
  repeat (first | (refine callV0 (vl) rfl rfl ?_) | (refine callV0 (tl) rfl rfl ?_) | (refine callV0 (mu) rfl rfl ?_) | (refine callV0 (ad) rfl rfl ?_) | (refine runW ?_))
  refine NextV_of (i + 1) [some 0, some 1, some 2] rfl (by simp only [hT1]; (simp (disch := (first | omega | (simp only [lnA, List.length_map, List.length_range, true_and, and_true]; (try omega); done) | fail)) only [go_sem, Int.reduceEq, Int.reduceToNat, Nat.reduceAdd, Nat.reduceMul, Nat.reduceEqDiff, ↓reduceIte, true_and, and_true, and_self, List.drop_zero, List.take_length, Nat.le_refl, V.lit.injEq, Value.int.injEq, Value.bool.injEq]; try (first | omega | (simp; done) | (simp; omega)))) (by simp (disch := (first | omega | (simp only [lnA, List.length_map, List.length_range, true_and, and_true]; (try omega); done) | fail)) only [go_sem, Int.reduceEq, Int.reduceToNat, Nat.reduceAdd, Nat.reduceMul, Nat.reduceEqDiff, ↓reduceIte, true_and, and_true, and_self, List.drop_zero, List.take_length, Nat.le_refl, V.lit.injEq, Value.int.injEq, Value.bool.injEq]; try (first | omega | (simp; done) | (simp; omega))) (by omega) (by omega)
 ·
  have hiA : i = A.length := by omega
  subst hiA
  simp (maxSteps := 1000000) (disch := (first | omega | (simp only [lnA, List.length_map, List.length_range, true_and, and_true]; (try omega); done) | fail)) only [go_sem, List.take_length, Int.reduceEq, Int.reduceToNat, Nat.reduceAdd, Nat.reduceMul, Nat.reduceEqDiff, ↓reduceIte]
  exact endW [] hQ
theorem ttail_fn {k a w : Nat} {y : Rat} {A : Ds} (hs : smallG k a w) (hy : RS 400000 y) (hA : A.length ≤ 100000) (hok : ∀ e ∈ A, okS w e.1 ∧ RS 400000 e.2) (hv : ∀ K, K ≤ 15 → RS 400000 (vlX k a K))
  (hP : ∀ e ∈ A, ∀ K, K ≤ 15 → RS 400000 (e.2 * indX y (vlX k a K))) (hS : ∀ i, RS 400000 (tlX k a y (A.take i))) :
  Fn1 Tryz.prog 9 [pR k a w, .row 6 (A.map enA), RV y] [] (.tup [RV (tlX k a y A), .lit (.int .i64 0)]) [] := by
 have su := tsum_fn hs hy hA hok hv hP hS
 clear hok hv hP hS
 generalize tlX k a y A = t at *
 refine fn1N_of pl9 (by kernel_rfl) Tryz.call9 Tryz.func9 rfl (by kernel_rfl) rfl [.cell 6 41, .tmp 7] (by kernel_rfl) fun Q hQ => ?_
 refine runW ?_
 refine callW [] [1] (su) ?_
 refine runW ?_
 exact endW [] hQ
end Go.Proofs.YtdohmppildfjhaaGreat
