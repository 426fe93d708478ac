import Derived.Test.YtpkfddfkacijoaaGreatDoorAu
import Derived.Test.YtpkfddfkacijoaaGreatDoorAc
namespace Go.Proofs.YtpkfddfkacijoaaGreatDoor
open Go.Eng Go.Vx
set_option linter.unusedSimpArgs false
set_option linter.unusedVariables false
set_option maxRecDepth 100000
theorem own22_fn {a b c : Int} : ∃ (K P : Int) (C : Nat), goodA K P C ∧ ownA K P.toNat ∧ P = (P.toNat : Int) ∧ C ≤ 16 ∧ (1 + a % 2 = K) ∧ Fn1 Tryz.prog 7 [.agg [.lit (.int .i64 a), .lit (.int .i64 b), .lit (.int .i64 c)]] [] (.agg [.lit (.int .i64 K), .lit (.int .i64 P), .lit (.int .i64 (C : Int))]) [] := by
  obtain ⟨C, hC⟩ : ∃ m : Nat, 1 + c % 16 = (m : Int) := ⟨(1 + c % 16).toNat, by omega⟩
  have m1 : bitK .and .i64 a 1 = a % 2 := bitK_mask (k := .i64) (j := 1) (a := a) (by decide)
  have m2 : bitK .and .i64 b 3 = b % 4 := bitK_mask (k := .i64) (j := 2) (a := b) (by decide)
  have m3 : bitK .and .i64 c 15 = c % 16 := bitK_mask (k := .i64) (j := 4) (a := c) (by decide)
  by_cases h : 1 + a % 2 = 2
  · refine ⟨2, 0, C, ⟨.inr ⟨rfl, rfl⟩, by omega, by omega⟩, .inl ⟨rfl, rfl⟩, rfl, by omega, h, ?_⟩
    refine fn1N_of pl7 (by kernel_rfl) Tryz.call7 Tryz.func7 rfl (by kernel_rfl) rfl [.cell 2 34] (by kernel_rfl) fun Q hQ => ?_
    simp (maxSteps := 1000000) (disch := (first | omega | (simp only [lnA, List.length_map, List.length_range, true_and, and_true]; (try omega); done) | fail)) only [go_sem, m1, m2, m3, hC, h, Int.reduceEq, Int.reduceToNat, Nat.reduceAdd, Nat.reduceMul, Nat.reduceEqDiff, ↓reduceIte]
    exact endW [] hQ
  · obtain ⟨p, hp⟩ : ∃ m : Nat, 1 + b % 4 = (m : Int) := ⟨(1 + b % 4).toNat, by omega⟩
    have h1 : 1 + a % 2 = 1 := by omega
    refine ⟨1, p, C, ⟨.inl ⟨rfl, by omega, by omega⟩, by omega, by omega⟩, .inr ⟨rfl, by omega, by omega⟩, rfl, by omega, h1, ?_⟩
    refine fn1N_of pl7 (by kernel_rfl) Tryz.call7 Tryz.func7 rfl (by kernel_rfl) rfl [.cell 2 34] (by kernel_rfl) fun Q hQ => ?_
    simp (maxSteps := 1000000) (disch := (first | omega | (simp only [lnA, List.length_map, List.length_range, true_and, and_true]; (try omega); done) | fail)) only [go_sem, m1, m2, m3, hC, h1, hp, Int.reduceEq, Int.reduceToNat, Nat.reduceAdd, Nat.reduceMul, Nat.reduceEqDiff, ↓reduceIte]
    exact endW [] hQ
set_option maxHeartbeats 4000000 in
theorem awake22_fn : Fn1 Tryz.prog 5 [] [] (.lit (.bool true)) [] := by
  have hg : goodA 1 2 1 := ⟨.inl ⟨rfl, by decide, by decide⟩, by decide, by decide⟩
  have hn := anew_fn (K := 1) (P := 2) (C := 1) hg
  rw [show List.replicate 1 ((0 : Nat), (0 : Nat)) = [(0, 0)] from rfl] at hn
  have a1 := aupd_fn (K := 1) (P := 2) (C := 1) (X := [(0, 0)]) (N := 0) (key := 7) (p := 0) (L := []) (by decide) (by decide) (by decide) (by decide) (by decide) (by decide) (by decide)
  rw [show updL [] (0 + 1) 7 [(0, 0)] 0 = some ([(7, 1)], 0) by decide +kernel] at a1
  have a2 := aupd_fn (K := 1) (P := 2) (C := 1) (X := [(7, 1)]) (N := 1) (key := 7) (p := 0) (L := [true]) (by decide) (by decide) (by decide) (by decide) (by decide) (by decide) (by decide)
  rw [show updL [true] (1 + 1) 7 [(7, 1)] 0 = some ([(7, 2)], 1) by decide +kernel] at a2
  have t1 := newT_fn (L := []) (by decide)
  have t2 := newT_fn (L := [true]) (by decide)
  have g := asamp_fn (K := 1) (P := 2) (C := 1) (X := [(7, 2)]) (N := 2) (i := 0) (x := (7, 2)) rfl (by decide)
  have v := aestL_fn (K := 1) (P := 2) (C := 1) (X := [(7, 2)]) (N := 2) (i := 0) (x := (7, 2)) hg rfl (by decide) (by decide) (by decide) (by decide)
  rw [show (((2 : Nat) : Int) : Rat) * dGe 1 2 ((7, 2) : Nat × Nat).2 = ((6 : Int) : Rat) by decide +kernel] at v
  have tx := rtxt_fn (x := ((6 : Int) : Rat)) ((RS_one (by decide) (by decide)).mono (by decide))
  rw [show qS ((6 : Int) : Rat) = [54] by
    unfold qS zS
    rw [show (((6 : Int) : Rat)).num = 6 by decide +kernel, show (((6 : Int) : Rat)).den = 1 by decide +kernel, if_pos rfl, if_neg (by decide), show (6 : Int).natAbs = 6 from rfl, decS_small (by decide)]
    decide] at tx
  generalize ((6 : Int) : Rat) = six at *
  simp only [amC, amP, tpC, List.map_cons, List.map_nil, sV_eq, Int.cast_ofNat_Int, List.length_nil] at hn a1 a2 t1 t2 g v
  refine fn1N_of pl5 (by kernel_rfl) Tryz.call5 Tryz.func5 rfl (by kernel_rfl) rfl [.tmp 0] (by kernel_rfl) fun Q hQ => ?_
  refine runW ?_
  refine callW [] [] (hn) ?_
  refine runW ?_
  refine callW [] [] (t1) ?_
  refine runW ?_
  refine callW [some 0, some 1] [] (a1) ?_
  refine runW ?_
  refine callW [] [2] (t2) ?_
  refine runW ?_
  refine callW [some 0, some 3] [] (a2) ?_
  refine runW ?_
  refine callT (g) ?_
  refine runW ?_
  refine callW [some 0] [] (v) ?_
  refine runW ?_
  refine callV0 (tx) rfl rfl ?_
  refine runW ?_
  exact endW [] hQ
theorem is22_fn {K P C : Int} {X : List (Nat × Nat)} {N p : Nat} {L : List Bool} {e : Int} (hX : X.length ≤ 1000000) : Fn1 Tryz.prog 45 [amP K P C X N, rfV X N L p e] [] (.lit (.bool true)) [] := by
  have t := atotal_fn (K := K) (P := P) (C := C) (X := X) (N := N)
  have s1 := asampE_fn (K := K) (P := P) (C := C) (X := X) (N := N) (i := (X.length : Int)) (.inr (by omega)) hX
  have s2 := aestE_fn (K := K) (P := P) (C := C) (X := X) (N := N) (i := -1) (.inl (by omega)) hX
  rw [RV_zero] at s2
  refine fn1N_of pl45 (by kernel_rfl) Tryz.call45 Tryz.func45 rfl (by kernel_rfl) rfl [.tmp 4] (by kernel_rfl) fun Q hQ => ?_
  refine runW ?_
  refine loopW (X := Nat) (st := fun i => ([(0, amP K P C X N), (3, .ref 0 0 0 0), (14, .row 2 (X.map sV)), (15, .lit (.int .i64 (X.length : Int))), (16, .lit (.int .i64 (i : Int)))], [some (.cells (rfC X N L p e))]))
    (inv := fun i => i ≤ X.length) (m := fun i => X.length - i) 0 [some 0] (Nat.zero_le _) ?_
  intro i hi
  by_cases h : i < X.length
  · obtain ⟨⟨x1, x2⟩, hx⟩ : ∃ x, X[i]? = some x := ⟨_, List.getElem?_eq_getElem h⟩
    have hg : X.getD i default = (x1, x2) := by rw [List.getD_eq_getElem?_getD, hx]; rfl
    have s := asamp_fn (K := K) (P := P) (C := C) (N := N) hx hX
    simp (maxSteps := 1000000) (disch := (first | omega | (simp only [lnA, List.length_map, List.length_range, true_and, and_true]; (try omega); done) | fail)) only [go_sem, hg, Int.reduceEq, Int.reduceToNat, Nat.reduceAdd, Nat.reduceMul, Nat.reduceEqDiff, ↓reduceIte]
    refine callV0 (s) rfl rfl ?_
    refine runW ?_
    refine nextW (i + 1) [some 0] (by omega) (by omega)
  · obtain rfl : i = X.length := by omega
    refine runW ?_
    refine callV0 (s1) rfl rfl ?_
    refine runW ?_
    refine callV0 (s2) rfl rfl ?_
    refine runW ?_
    refine callV0 (t) rfl rfl ?_
    refine runW ?_
    exact endW [] hQ
end Go.Proofs.YtpkfddfkacijoaaGreatDoor
