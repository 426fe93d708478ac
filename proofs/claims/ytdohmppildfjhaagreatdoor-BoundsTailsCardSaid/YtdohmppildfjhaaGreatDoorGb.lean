import Derived.Test.YtdohmppildfjhaaGreatDoorGa
namespace Go.Proofs.YtdohmppildfjhaaGreatDoor
open Go.Eng Go.Vx
set_option linter.unusedSimpArgs false
set_option linter.unusedVariables false
set_option maxRecDepth 100000
@[go_sem ↓] theorem cstV_map {m : Option Nat} {K : V → Prop} : cstV (.map m) K = K (.lit (.map m)) := (rfl)
def kyS (k : Ky) : V := .agg [.lit (.int .i64 k.1), .lit (.int .i64 k.2.1), .lit (.bool k.2.2)]
attribute [go_sem] kyS
theorem RV0n : RV 0 = .agg [.row 1 [], .lit (.bool false), .row 1 []] := by
 unfold RV
 rw [show (0 : Rat).num = 0 from rfl, show (0 : Rat).den = 1 from rfl, show (0 : Int).natAbs = 0 from rfl, Nat.sub_self, wg_zero]
 rfl
set_option maxHeartbeats 1000000 in
theorem padd_fn {l : Ds} {k : Ky} {x : Rat} (hl : ∀ y, look k l = some y → RS 400000 y) (hx : RS 400000 x) :
  Fn1 Tryz.prog 65 [.mref 0, kyS k, RV x] [some (.map (enM l))] (.tup []) [some (.map (enM (addD k x l)))] := by
 obtain ⟨K, T, F⟩ := k
 have hp : ∀ z : Rat, putM (K, T, F) [.row 1 ((nl (wg z.num.natAbs)).map (ie .u64)), .lit (.bool (decide (z.num < 0))), .row 1 ((nl (wg (z.den - 1))).map (ie .u64))] (enM l) = enM (put (K, T, F) z l) := fun z => putM_en _ _ _
 unfold addD
 rcases hlk : look (K, T, F) l with _ | y
 ·
  have ad := radd_fn (x := 0) (y := x) (RS_small (z := 0) (by decide) |>.mono (by decide)) hx
  rw [RV0n] at ad
  have hlM : lookM (K, T, F) (enM l) = none := by rw [lookM_en, hlk]; rfl
  have hz : (none : Option Rat).getD 0 + x = 0 + x := rfl
  rw [hz]
  generalize 0 + x = z at *
  refine fn1N_of pl65 (by kernel_rfl) Tryz.call65 Tryz.func65 rfl (by kernel_rfl) rfl [] (by kernel_rfl) fun Q hQ => ?_
  simp (maxSteps := 1000000) (disch := (first | omega | (simp only [lnA, List.length_map, List.length_range, true_and, and_true]; (try omega); done) | fail)) only [go_sem, hlM, Option.getD_none, Int.reduceEq, Int.reduceToNat, Nat.reduceAdd, Nat.reduceMul, Nat.reduceEqDiff, ↓reduceIte]
  refine callW [] [] (ad) ?_
  simp (maxSteps := 1000000) (disch := (first | omega | (simp only [lnA, List.length_map, List.length_range, true_and, and_true]; (try omega); done) | fail)) only [go_sem, hp, Int.reduceEq, Int.reduceToNat, Nat.reduceAdd, Nat.reduceMul, Nat.reduceEqDiff, ↓reduceIte]
  exact endW [some 0] hQ
 ·
  have ad := radd_fn (x := y) (y := x) (hl y hlk) hx
  have hlM : lookM (K, T, F) (enM l) = some [.row 1 ((nl (wg y.num.natAbs)).map (ie .u64)), .lit (.bool (decide (y.num < 0))), .row 1 ((nl (wg (y.den - 1))).map (ie .u64))] := by rw [lookM_en, hlk]; rfl
  have hz : (some y : Option Rat).getD 0 + x = y + x := rfl
  rw [hz]
  generalize y + x = z at *
  refine fn1N_of pl65 (by kernel_rfl) Tryz.call65 Tryz.func65 rfl (by kernel_rfl) rfl [] (by kernel_rfl) fun Q hQ => ?_
  simp (maxSteps := 1000000) (disch := (first | omega | (simp only [lnA, List.length_map, List.length_range, true_and, and_true]; (try omega); done) | fail)) only [go_sem, hlM, Option.getD_some, Int.reduceEq, Int.reduceToNat, Nat.reduceAdd, Nat.reduceMul, Nat.reduceEqDiff, ↓reduceIte]
  refine callV0 (ad) rfl rfl ?_
  simp (maxSteps := 1000000) (disch := (first | omega | (simp only [lnA, List.length_map, List.length_range, true_and, and_true]; (try omega); done) | fail)) only [go_sem, hp, Int.reduceEq, Int.reduceToNat, Nat.reduceAdd, Nat.reduceMul, Nat.reduceEqDiff, ↓reduceIte]
  exact endW [some 0] hQ
theorem rofI_fn : Fn1 Tryz.prog 12 [.lit (.int .i64 1)] [] (RV 1) [] := rof_fn (n := 1) (by decide) (by decide)
set_option maxHeartbeats 1000000 in
theorem psure_fn {k : Ky} : Fn1 Tryz.prog 31 [kyS k] [] (.mref 0) [some (.map (enM [(k, 1)]))] := by
 obtain ⟨K, T, F⟩ := k
 have hp : ∀ z : Rat, putM (K, T, F) [.row 1 ((nl (wg z.num.natAbs)).map (ie .u64)), .lit (.bool (decide (z.num < 0))), .row 1 ((nl (wg (z.den - 1))).map (ie .u64))] [] = enM [((K, T, F), z)] := fun z => rfl
 have o := rofI_fn
 generalize (1 : Rat) = one at *
 refine fn1N_of pl31 (by kernel_rfl) Tryz.call31 Tryz.func31 rfl (by kernel_rfl) rfl [.tmp 2] (by kernel_rfl) fun Q hQ => ?_
 simp (maxSteps := 1000000) (disch := (first | omega | (simp only [lnA, List.length_map, List.length_range, true_and, and_true]; (try omega); done) | fail)) only [go_sem, and_self, and_true, Int.reduceEq, Int.reduceToNat, Nat.reduceAdd, Nat.reduceMul, Nat.reduceEqDiff, ↓reduceIte]
 refine ⟨?_, ?_⟩
 ·
  refine callV0 (o) rfl rfl ?_
  simp (maxSteps := 1000000) (disch := (first | omega | (simp only [lnA, List.length_map, List.length_range, true_and, and_true]; (try omega); done) | fail)) only [go_sem, and_self, and_true, hp, Int.reduceEq, Int.reduceToNat, Nat.reduceAdd, Nat.reduceMul, Nat.reduceEqDiff, ↓reduceIte]
  exact endW [some 1] hQ
 ·
  refine callV0 (o) rfl rfl ?_
  simp (maxSteps := 1000000) (disch := (first | omega | (simp only [lnA, List.length_map, List.length_range, true_and, and_true]; (try omega); done) | fail)) only [go_sem, and_self, and_true, hp, Int.reduceEq, Int.reduceToNat, Nat.reduceAdd, Nat.reduceMul, Nat.reduceEqDiff, ↓reduceIte]
  exact endW [some 1] hQ
def eitD (x : Rat) (s o : Ky) : Ds := addD o (1 - x) (addD s x [])
set_option maxHeartbeats 1000000 in
theorem peither_fn {x : Rat} {s o : Ky} (hx : RS 300000 x) : Fn1 Tryz.prog 66 [RV x, kyS s, kyS o] [] (.mref 0) [some (.map (enM (eitD x s o)))] := by
 have one := rofI_fn
 have su := rsub_fn (x := 1) (y := x) ((RS_small (z := 1) (by decide)).mono (by decide)) (hx.mono (by decide))
 have s2 : RS 400000 (1 - x) := (RS_sub (RS_small (z := 1) (by decide)) hx).mono (by decide)
 have a1 := padd_fn (l := []) (k := s) (x := x) (fun y h => by simp [look] at h) (hx.mono (by decide))
 rw [show enM [] = [] from rfl] at a1
 have a2 := padd_fn (l := addD s x []) (k := o) (x := 1 - x) (fun y h => by
  simp only [addD, put, look, Option.getD_none] at h
  split at h
  ·
   cases h; rw [Rat.zero_add]; exact hx.mono (by decide)
  ·
   cases h) s2
 unfold eitD
 generalize addD o (1 - x) (addD s x []) = l2 at *
 generalize addD s x [] = l1 at *
 generalize 1 - x = y at *
 generalize (1 : Rat) = on at *
 obtain ⟨K, T, F⟩ := s
 obtain ⟨K2, T2, F2⟩ := o
 refine fn1N_of pl66 (by kernel_rfl) Tryz.call66 Tryz.func66 rfl (by kernel_rfl) rfl [.tmp 6] (by kernel_rfl) fun Q hQ => ?_
 refine runW ?_
 refine callW [some 3] [] (a1) ?_
 refine runW ?_
 refine callV0 (one) rfl rfl ?_
 refine runW ?_
 refine callV0 (su) rfl rfl ?_
 refine runW ?_
 refine callW [some 3] [] (a2) ?_
 refine runW ?_
 exact endW [some 3] hQ
def cmp3 (a b : Int) : Int := if a < b then -1 else if b < a then 1 else 0
theorem cisnan_fn {a : Int} : Fn1 Tryz.prog 130 [.lit (.int .i64 a)] [] (.lit (.bool false)) [] := by
 refine fn1N_of pl130 (by kernel_rfl) Tryz.call130 Tryz.func130 rfl (by kernel_rfl) rfl [.tmp 2] (by kernel_rfl) fun Q hQ => ?_
 simp (maxSteps := 1000000) (disch := (first | omega | (simp only [lnA, List.length_map, List.length_range, true_and, and_true]; (try omega); done) | fail)) only [go_sem, decide_true, Bool.not_true, Int.reduceEq, Int.reduceToNat, Nat.reduceAdd, Nat.reduceMul, Nat.reduceEqDiff, ↓reduceIte]
 exact endW [] hQ
theorem ccmp_fn {a b : Int} : Fn1 Tryz.prog 107 [.lit (.int .i64 a), .lit (.int .i64 b)] [] (.lit (.int .i64 (cmp3 a b))) [] := by
 have n1 := cisnan_fn (a := a)
 have n2 := cisnan_fn (a := b)
 unfold cmp3
 by_cases h1 : a < b
 ·
  rw [if_pos h1]
  refine fn1N_of pl107 (by kernel_rfl) Tryz.call107 Tryz.func107 rfl (by kernel_rfl) rfl [.tmp 4] (by kernel_rfl) fun Q hQ => ?_
  refine runW ?_
  refine callV0 (n1) rfl rfl ?_
  refine runW ?_
  refine callV0 (n2) rfl rfl ?_
  refine runW ?_
  exact endW [] hQ
 ·
  rw [if_neg h1]
  by_cases h2 : b < a
  ·
   rw [if_pos h2]
   refine fn1N_of pl107 (by kernel_rfl) Tryz.call107 Tryz.func107 rfl (by kernel_rfl) rfl [.tmp 4] (by kernel_rfl) fun Q hQ => ?_
   refine runW ?_
   refine callV0 (n1) rfl rfl ?_
   refine runW ?_
   refine callV0 (n2) rfl rfl ?_
   refine runW ?_
   exact endW [] hQ
  ·
   rw [if_neg h2]
   refine fn1N_of pl107 (by kernel_rfl) Tryz.call107 Tryz.func107 rfl (by kernel_rfl) rfl [.tmp 4] (by kernel_rfl) fun Q hQ => ?_
   refine runW ?_
   refine callV0 (n1) rfl rfl ?_
   refine runW ?_
   refine callV0 (n2) rfl rfl ?_
   refine runW ?_
   exact endW [] hQ
def b2i (b : Bool) : Int := if b = true then 1 else 0
theorem ptruth_fn {b : Bool} : Fn1 Tryz.prog 108 [.lit (.bool b)] [] (.lit (.int .i64 (b2i b))) [] := by
 cases b with
 | true =>
  rw [show b2i true = 1 from rfl]
  refine fn1N_of pl108 (by kernel_rfl) Tryz.call108 Tryz.func108 rfl (by kernel_rfl) rfl [.tmp 2] (by kernel_rfl) fun Q hQ => ?_
  refine runW ?_
  exact endW [] hQ
 | false =>
  rw [show b2i false = 0 from rfl]
  refine fn1N_of pl108 (by kernel_rfl) Tryz.call108 Tryz.func108 rfl (by kernel_rfl) rfl [.tmp 2] (by kernel_rfl) fun Q hQ => ?_
  refine runW ?_
  exact endW [] hQ
def or3 : List Int → Int
 | [] => 0
 | a :: l => if a ≠ 0 then a else or3 l
set_option maxHeartbeats 1000000 in
theorem cor_fn {L : List Int} (hL : L.length ≤ 1000) : Fn1 Tryz.prog 106 [.row 1 (L.map (ie .i64))] [] (.lit (.int .i64 (or3 L))) [] := by
 generalize hres : or3 L = res
 refine fn1N_of pl106 (by kernel_rfl) Tryz.call106 Tryz.func106 rfl (by kernel_rfl) rfl [.tmp 2] (by kernel_rfl) fun Q hQ => ?_
 refine runW ?_
 refine loopW (X := Nat) (st := fun i => ([(3, .lit (.int .i64 0)), (6, .row 1 (L.map (ie .i64))), (7, .lit (.int .i64 (L.length : Int))), (8, .lit (.int .i64 (i : Int)))], []))
  (inv := fun i => i ≤ L.length ∧ res = or3 (L.drop i)) (m := fun i => L.length - i) 0 [] ⟨Nat.zero_le _, hres.symm⟩ ?_
 rintro i ⟨hi, hr⟩
 by_cases hlt : i < L.length
 ·
  have hg : L.getD i 0 = L[i] := by simp [List.getD, List.getElem?_eq_getElem hlt]
  rw [List.drop_eq_getElem_cons hlt] at hr
  unfold or3 at hr
  by_cases h0 : L[i] = 0
  ·
   rw [if_neg (by simp [h0])] at hr
   have e1 : (i : Int) + 1 = ((i + 1 : Nat) : Int) := by omega
   simp (maxSteps := 1000000) (disch := (first | omega | (simp only [lnA, List.length_map, List.length_range, true_and, and_true]; (try omega); done) | fail)) only [go_sem, hg, h0, decide_true, Bool.not_true, Int.reduceEq, Int.reduceToNat, Nat.reduceAdd, Nat.reduceMul, Nat.reduceEqDiff, ↓reduceIte]
   refine nextW (i + 1) [] ⟨by omega, hr⟩ (by omega)
  ·
   rw [if_pos h0] at hr
   subst hr
   simp (maxSteps := 1000000) (disch := (first | omega | (simp only [lnA, List.length_map, List.length_range, true_and, and_true]; (try omega); done) | fail)) only [go_sem, hg, Int.reduceEq, Int.reduceToNat, Nat.reduceAdd, Nat.reduceMul, Nat.reduceEqDiff, ↓reduceIte]
   exact endW [] hQ
 ·
  have : i = L.length := by omega
  subst this
  simp only [List.drop_length, or3] at hr
  subst hr
  refine runW ?_
  exact endW [] hQ
def ordK (k k' : Ky) : Int := or3 [cmp3 k.1 k'.1, cmp3 k.2.1 k'.2.1, cmp3 (b2i k.2.2) (b2i k'.2.2)]
set_option maxHeartbeats 2000000 in
theorem porder_fn {k k' : Ky} {v1 v2 v3 u1 u2 u3 : V} : Fn1 Tryz.prog 73 [.agg [.lit (.int .i64 k.1), .lit (.int .i64 k.2.1), .lit (.bool k.2.2), v1, v2, v3], .agg [.lit (.int .i64 k'.1), .lit (.int .i64 k'.2.1), .lit (.bool k'.2.2), u1, u2, u3]] [] (.lit (.int .i64 (ordK k k'))) [] := by
 obtain ⟨K, T, F⟩ := k
 obtain ⟨K', T', F'⟩ := k'
 have c1 := ccmp_fn (a := K) (b := K')
 have c2 := ccmp_fn (a := T) (b := T')
 have t1 := ptruth_fn (b := F)
 have t2 := ptruth_fn (b := F')
 have c3 := ccmp_fn (a := b2i F) (b := b2i F')
 have co := cor_fn (L := [cmp3 K K', cmp3 T T', cmp3 (b2i F) (b2i F')]) (by simp)
 unfold ordK
 dsimp only
 generalize or3 [cmp3 K K', cmp3 T T', cmp3 (b2i F) (b2i F')] = res at *
 generalize cmp3 K K' = x1 at *
 generalize cmp3 T T' = x2 at *
 generalize b2i F = f1 at *
 generalize b2i F' = f2 at *
 generalize cmp3 f1 f2 = x3 at *
 refine fn1N_of pl73 (by kernel_rfl) Tryz.call73 Tryz.func73 rfl (by kernel_rfl) rfl [.tmp 4] (by kernel_rfl) fun Q hQ => ?_
 repeat (first | (refine callV0 (c1) rfl rfl ?_) | (refine callV0 (c2) rfl rfl ?_) | (refine callV0 (t1) rfl rfl ?_) | (refine callV0 (t2) rfl rfl ?_) | (refine callV0 (c3) rfl rfl ?_) | (refine callT (co) ?_) | (refine runW ?_))
 exact endW [] hQ
end Go.Proofs.YtdohmppildfjhaaGreatDoor
