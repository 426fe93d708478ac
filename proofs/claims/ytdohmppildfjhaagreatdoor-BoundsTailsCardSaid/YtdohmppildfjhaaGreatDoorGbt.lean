import Derived.Test.YtdohmppildfjhaaGreatDoorGx
import Derived.Test.YtdohmppildfjhaaGreatDoorGa
namespace Go.Proofs.YtdohmppildfjhaaGreatDoor
open Go.Eng Go.Vx
set_option linter.unusedSimpArgs false
set_option linter.unusedVariables false
set_option maxRecDepth 100000
theorem far_facts {k a w n m : Nat} (hs : smallG k a w) (hn : 1 ≤ n) (hn2 : n ≤ 16) (hm : 1 ≤ m) (hm2 : m ≤ 2 ^ w - 1) :
  Fn1 Tryz.prog 6 [pR k a w, .lit (.int .i64 (n : Int)), .lit (.int .i64 (m : Int))] [] (.tup [RV (mostX (chX k a (m - 1)) (vlX k a m) n), .lit (.int .i64 0)]) [] ∧ RS 10000 (mostX (chX k a (m - 1)) (vlX k a m) n) := by
 have hp : 2 ^ w ≤ 2 ^ 4 := Nat.pow_le_pow_right (by decide) hs.2.2
 obtain ⟨v1, v2, v3, v4⟩ := vl_quo hs (K := m) (by omega) hm hn hn2
 have rv := vl_rs hs (K := m) (by omega)
 have rc := RS_chX hs (K := m - 1) (by omega)
 refine ⟨btail_fn hs hn hn2 hm hm2 (rv.mono (by decide)) v1 v2 v3 v4 rc, ?_⟩
 unfold mostX
 generalize chX k a (m - 1) * vlX k a m * ((((n : Nat) : Int) : Rat) / vlX k a m - 1 - lnHi ((((n : Nat) : Int) : Rat) / vlX k a m)) = x
 have hdn := RS_down (x := x)
 generalize dn x 64 = l at *
 unfold most2
 split
 ·
  exact RS_one.mono (by decide)
 ·
  rename_i h0
  have key : ∀ y, RS 80 y → 0 < y → y ≤ 64 → RS 10000 (most3 (exHi y)) := fun y h1 h2 h3 => by
   obtain ⟨sh, -⟩ := exG_fn h1 h2 h3
   unfold most3
   split
   ·
    exact RS_one.mono (by decide)
   ·
    exact sh.mono (by decide)
  split
  ·
   exact key 64 ((RS_small (z := 64) (by decide)).mono (by decide)) (by decide +kernel) Rat.le_refl
  ·
   rename_i h1
   exact key l ((hdn (Rat.not_le.1 h0) (Rat.not_lt.1 h1)).mono (by decide)) (Rat.not_le.1 h0) (Rat.not_lt.1 h1)
set_option maxHeartbeats 16000000 in
theorem boundsTails_fn {kk aa bb nn mm : Int} : Fn1 Tryz.prog 3 [.agg [.lit (.int .i64 kk), .lit (.int .i64 aa), .lit (.int .i64 bb)], .lit (.int .i64 nn), .lit (.int .i64 mm)] [] (.lit (.bool true)) [] := by
 obtain ⟨k, a, w, hsm, small⟩ := small17_fn (kk := kk) (aa := aa) (bb := bb)
 have sm := small (0, 0, false)
 clear small
 dsimp only at sm
 generalize hwi : wi k a w (0, 0, false) = wst at *
 obtain ⟨ws1, ws2, ws3⟩ := wst
 have aw := awake28_fn
 have own := own17_fn (k := k) (a := a) (b := w)
 by_cases h4 : k = 4
 ·
  subst h4
  have tp := btailP_fn (a := a) (w := w) (n := 1) (m := 1)
  refine fn1N_of pl3 (by kernel_rfl) Tryz.call3 Tryz.func3 rfl (by kernel_rfl) rfl [.tmp 6] (by kernel_rfl) fun Q hQ => ?_
  repeat (first | (refine callV0 (aw) rfl rfl ?_) | (refine callV0 (sm) rfl rfl ?_) | (refine callV0 (own) rfl rfl ?_) | (refine callV0 (tp) rfl rfl ?_) | (refine runW ?_))
  exact endW [] hQ
 ·
  have hs : smallG k a w := by
   rcases hsm with ⟨h, h1, h2, h3, h5⟩ | ⟨h, h1, h2, h3⟩ | ⟨h, h1, h2, h3, h5⟩ | ⟨h, h1, h2, h3⟩
   ·
    exact ⟨by omega, by omega, by omega⟩
   ·
    exact ⟨by omega, by omega, by omega⟩
   ·
    exact ⟨by omega, by omega, by omega⟩
   ·
    exact absurd h h4
  obtain ⟨hg, -⟩ := smallG_good hs
  have hk4 : ¬ (k : Int) = 4 := by omega
  have ct := cTop_fn hg h4
  have hp : 2 ^ w ≤ 2 ^ 4 := Nat.pow_le_pow_right (by decide) hs.2.2
  have hp2 : 2 ≤ 2 ^ w := by
   have : 2 ^ 1 ≤ 2 ^ w := Nat.pow_le_pow_right (by decide) hs.2.1
   omega
  obtain ⟨N, hN, hN1, hN2⟩ : ∃ N : Nat, 1 + nn % 16 = (N : Int) ∧ 1 ≤ N ∧ N ≤ 16 := ⟨(1 + nn % 16).toNat, by omega, by omega, by omega⟩
  obtain ⟨M, hM, hM1, hM2⟩ : ∃ M : Nat, 1 + mm % 256 % ((2 ^ w - 1 : Nat) : Int) = (M : Int) ∧ 1 ≤ M ∧ M ≤ 2 ^ w - 1 := by
   have h1 := Int.emod_nonneg (mm % 256) (b := ((2 ^ w - 1 : Nat) : Int)) (by omega)
   have h2 := Int.emod_lt_of_pos (mm % 256) (b := ((2 ^ w - 1 : Nat) : Int)) (by omega)
   exact ⟨(1 + (mm % 256) % ((2 ^ w - 1 : Nat) : Int)).toNat, by omega, by omega, by omega⟩
  have hmm0 : 0 ≤ mm % 256 := by omega
  have pof := pof_fn (n := N) hs hN2
  have val := cvalue_fn hs hM2
  obtain ⟨bt, sbt⟩ := far_facts hs hN1 hN2 hM1 hM2
  have bt0 := btail0_fn (m := (M : Int)) hs
  have btT := btailT_fn (n := N) (m := ((2 ^ w - 1 : Nat) : Int) + 1) hs hN1 hN2 (by omega)
  obtain ⟨ck, ck0⟩ := chk_all hs hM1 (by omega) hN1 hN2
  have ck1 := most_le (chX k a (M - 1)) (vlX k a M) N
  have sall := fun b => sd_all (n := N) hs hM1 hM2 b
  have srs := fun b i => sd_rs (m := M) hs hN2 b i
  have ars := at_rs (n := N) hs hN2
  have rv := vl_rs hs (K := M) (by omega)
  have sn : RS 1 (((N : Nat) : Int) : Rat) := RS_small (by omega)
  have hlen2 : (atD (itD k a w N)).length ≤ 100000 := by
   have h1 := (it_ok hs N).len
   have h2 := at_len (itD k a w N)
   have h3 : 2 ^ N ≤ 2 ^ 16 := Nat.pow_le_pow_right (by decide) hN2
   omega
  have oN := rof_fn (n := (N : Int)) (by omega) (by omega)
  have o1 := rofI_fn
  obtain ⟨zz, hz, o0⟩ : ∃ z : Rat, z = 0 ∧ Fn1 Tryz.prog 12 [.lit (.int .i64 0)] [] (RV z) [] := ⟨_, rfl, rof_fn (n := 0) (by decide) (by decide)⟩
  have sz : RS 400000 zz := by rw [hz]; exact (RS_small (z := 0) (by decide)).mono (by decide)
  obtain ⟨bl, c1, cm1, hbl, hle⟩ : ∃ (bl : Bool) (c1 : Int), Fn1 Tryz.prog 11 [RV (((N : Nat) : Int) : Rat), RV (vlX k a M)] [] (.lit (.int .i64 c1)) [] ∧ decide (0 < c1) = bl ∧ sdX bl M (atD (itD k a w N)) ≤ mostX (chX k a (M - 1)) (vlX k a M) N := by
   by_cases hv : vlX k a M < (((N : Nat) : Int) : Rat)
   ·
    rw [if_pos hv] at ck
    obtain ⟨c1, hc1, cm1⟩ := rcmp_gt (sn.mono (show 1 ≤ 400000 by decide)) (rv.mono (show 2 ≤ 400000 by decide)) hv
    exact ⟨true, c1, cm1, decide_eq_true hc1, by rw [sall]; exact ck⟩
   ·
    rw [if_neg hv] at ck
    obtain ⟨c1, hc1, cm1⟩ := rcmp_le (sn.mono (show 1 ≤ 400000 by decide)) (rv.mono (show 2 ≤ 400000 by decide)) (Rat.not_lt.1 hv)
    exact ⟨false, c1, cm1, decide_eq_false (by omega), by rw [sall]; exact ck⟩
  have hfull := srs bl (atD (itD k a w N)).length
  rw [List.take_length] at hfull
  obtain ⟨c2, hc2, cm2⟩ := rcmp_le hfull (sbt.mono (show 10000 ≤ 400000 by decide)) hle
  obtain ⟨c3, hc3, cm3⟩ := rcmp_le (sbt.mono (show 10000 ≤ 400000 by decide)) (RS_one.mono (show 1 ≤ 400000 by decide)) ck1
  obtain ⟨c4, hc4, cm4⟩ := rcmp_gt (sbt.mono (show 10000 ≤ 400000 by decide)) sz (by rw [hz]; exact ck0)
  have srs := srs bl
  clear ck ck0 ck1 sall hle hfull
  generalize atD (itD k a w N) = A at *
  generalize mostX (chX k a (M - 1)) (vlX k a M) N = most at *
  generalize vlX k a M = v at *
  generalize (((N : Nat) : Int) : Rat) = rN at *
  have ht15 : 2 ^ w - 1 ≤ 15 := by omega
  generalize 2 ^ w - 1 = top at *
  have hw4 : w ≤ 4 := hs.2.2
  refine fn1N_of pl3 (by kernel_rfl) Tryz.call3 Tryz.func3 rfl (by kernel_rfl) rfl [.tmp 6] (by kernel_rfl) fun Q hQ => ?_
  repeat (first | (refine callV0 (aw) rfl rfl ?_) | (refine callV0 (sm) rfl rfl ?_) | (refine callV0 (own) rfl rfl ?_) | (refine callV0 (ct) rfl rfl ?_) | (refine callV0 (bt) rfl rfl ?_) | (refine callV0 (val) rfl rfl ?_) | (simp (maxSteps := 1000000) (disch := (first | omega | (simp only [lnA, List.length_map, List.length_range, true_and, and_true]; (try omega); done) | fail)) only [go_sem, hN, hM, hk4, Int.reduceEq, Int.reduceToNat, Nat.reduceAdd, Nat.reduceMul, Nat.reduceEqDiff, ↓reduceIte]))
  refine callW [] [] (pof) ?_
  repeat (first | (refine callV0 (o1) rfl rfl ?_) | (refine callV0 (cm3) rfl rfl ?_) | (refine callV0 (o0) rfl rfl ?_) | (refine callV0 (cm4) rfl rfl ?_) | (refine callV0 (oN) rfl rfl ?_) | (refine callV0 (cm1) rfl rfl ?_) | (refine callV0 (o0) rfl rfl ?_) | (simp (maxSteps := 1000000) (disch := (first | omega | (simp only [lnA, List.length_map, List.length_range, true_and, and_true]; (try omega); done) | fail)) only [go_sem, hN, hM, hk4, hbl, Int.reduceEq, Int.reduceToNat, Nat.reduceAdd, Nat.reduceMul, Nat.reduceEqDiff, ↓reduceIte]))
  have h0 : sdX bl M (A.take 0) = zz := by rw [hz]; rfl
  refine LoopV_of (X := Nat) (st := fun i => ([(1, .lit (.int .i64 (N : Int))), (2, .lit (.int .i64 (M : Int))), (9, .ref 0 0 0 0), (10, .ref 1 0 0 0), (11, .ref 2 0 0 0), (17, .lit (.bool bl)), (18, .ref 4 0 0 0), (110, .sl 3 6 0 A.length), (111, .lit (.int .i64 (A.length : Int))), (112, .lit (.int .i64 (i : Int)))],
    [some (.cells [.lit (.int .i64 (k : Int)), .lit (.int .i64 (a : Int)), .lit (.int .i64 (w : Int))]), some (.cells [.lit (.int .i64 (k : Int)), .lit (.int .i64 (a : Int)), .lit (.int .i64 (w : Int))]), some (rwC most), some (.row 6 (A.map enA)), some (rwC (sdX bl M (A.take i)))]))
   (inv := fun i => i ≤ A.length) (m := fun i => A.length - i) 0 [some 1, some 2, some 3, some 5, some 6] rfl (by simp only [h0]; (simp (disch := (first | omega | (simp only [lnA, List.length_map, List.length_range, true_and, and_true]; (try omega); done) | fail)) only [go_sem, Int.reduceEq, Int.reduceToNat, Nat.reduceAdd, Nat.reduceMul, Nat.reduceEqDiff, ↓reduceIte, true_and, and_true, and_self, List.drop_zero, List.take_length, Nat.le_refl, V.lit.injEq, Value.int.injEq, Value.bool.injEq]; try (first | omega | (simp; done) | (simp; omega)))) (by simp (disch := (first | omega | (simp only [lnA, List.length_map, List.length_range, true_and, and_true]; (try omega); done) | fail)) only [go_sem, Int.reduceEq, Int.reduceToNat, Nat.reduceAdd, Nat.reduceMul, Nat.reduceEqDiff, ↓reduceIte, true_and, and_true, and_self, List.drop_zero, List.take_length, Nat.le_refl, V.lit.injEq, Value.int.injEq, Value.bool.injEq]; try (first | omega | (simp; done) | (simp; omega))) (Nat.zero_le _) ?_
  intro i hi
  by_cases hlt : i < A.length
  ·
   have ha := getD_mem hlt
   have hsn := takeD_snoc hlt
   have hSi := srs i
   have hSi1 := srs (i + 1)
   have haq := ars _ ha
   have ei : (i : Int) + 1 = ((i + 1 : Nat) : Int) := by omega
   generalize hag : A.getD i default = ag at *
   obtain ⟨⟨sK, sT, sF⟩, q⟩ := ag
   dsimp only at haq
   have hbe : decide (decide (sK < (M : Int)) = bl) = (decide (sK < (M : Int)) == bl) := by cases bl <;> cases decide (sK < (M : Int)) <;> rfl
   have hnx : sdX bl M (A.take (i + 1)) = if (decide (sK < (M : Int)) == bl) = true then sdX bl M (A.take i) + q else sdX bl M (A.take i) := by rw [hsn, sdX_snoc, hbe]
   have ad := radd_fn hSi haq
   clear srs ars hSi hSi1 ha haq
   cases hb : (decide (sK < (M : Int)) == bl)
   ·
    rw [hb, if_neg (by decide)] at hnx
    generalize sdX bl M (A.take i) = t0 at *
    simp (maxSteps := 1000000) (disch := (first | omega | (simp only [lnA, List.length_map, List.length_range, true_and, and_true]; (try omega); done) | fail)) only [go_sem, hag, enA_mk, hb, Int.reduceEq, Int.reduceToNat, Nat.reduceAdd, Nat.reduceMul, Nat.reduceEqDiff, ↓reduceIte]
    refine NextV_of (i + 1) [some 0, some 1, some 2, some 3, some 4] rfl (by simp only [hnx]; (simp (disch := (first | omega | (simp only [lnA, List.length_map, List.length_range, true_and, and_true]; (try omega); done) | fail)) only [go_sem, Int.reduceEq, Int.reduceToNat, Nat.reduceAdd, Nat.reduceMul, Nat.reduceEqDiff, ↓reduceIte, true_and, and_true, and_self, List.drop_zero, List.take_length, Nat.le_refl, V.lit.injEq, Value.int.injEq, Value.bool.injEq]; try (first | omega | (simp; done) | (simp; omega)))) (by simp (disch := (first | omega | (simp only [lnA, List.length_map, List.length_range, true_and, and_true]; (try omega); done) | fail)) only [go_sem, Int.reduceEq, Int.reduceToNat, Nat.reduceAdd, Nat.reduceMul, Nat.reduceEqDiff, ↓reduceIte, true_and, and_true, and_self, List.drop_zero, List.take_length, Nat.le_refl, V.lit.injEq, Value.int.injEq, Value.bool.injEq]; try (first | omega | (simp; done) | (simp; omega))) (by omega) (by omega)
   ·
    rw [hb, if_pos rfl] at hnx
    generalize hT1 : sdX bl M (A.take (i + 1)) = t1 at *
    generalize sdX bl M (A.take i) = t0 at *
    rw [← hnx] at ad
    simp (maxSteps := 1000000) (disch := (first | omega | (simp only [lnA, List.length_map, List.length_range, true_and, and_true]; (try omega); done) | fail)) only [go_sem, hag, enA_mk, hb, Int.reduceEq, Int.reduceToNat, Nat.reduceAdd, Nat.reduceMul, Nat.reduceEqDiff, ↓reduceIte]
    repeat (first | (refine callV0 (ad) rfl rfl ?_) | (refine runW ?_))
    refine NextV_of (i + 1) [some 0, some 1, some 2, some 3, some 4] rfl (by simp only [hT1]; (simp (disch := (first | omega | (simp only [lnA, List.length_map, List.length_range, true_and, and_true]; (try omega); done) | fail)) only [go_sem, Int.reduceEq, Int.reduceToNat, Nat.reduceAdd, Nat.reduceMul, Nat.reduceEqDiff, ↓reduceIte, true_and, and_true, and_self, List.drop_zero, List.take_length, Nat.le_refl, V.lit.injEq, Value.int.injEq, Value.bool.injEq]; try (first | omega | (simp; done) | (simp; omega)))) (by simp (disch := (first | omega | (simp only [lnA, List.length_map, List.length_range, true_and, and_true]; (try omega); done) | fail)) only [go_sem, Int.reduceEq, Int.reduceToNat, Nat.reduceAdd, Nat.reduceMul, Nat.reduceEqDiff, ↓reduceIte, true_and, and_true, and_self, List.drop_zero, List.take_length, Nat.le_refl, V.lit.injEq, Value.int.injEq, Value.bool.injEq]; try (first | omega | (simp; done) | (simp; omega))) (by omega) (by omega)
  ·
   have hiA : i = A.length := by omega
   subst hiA
   simp (maxSteps := 1000000) (disch := (first | omega | (simp only [lnA, List.length_map, List.length_range, true_and, and_true]; (try omega); done) | fail)) only [go_sem, List.take_length, Int.reduceEq, Int.reduceToNat, Nat.reduceAdd, Nat.reduceMul, Nat.reduceEqDiff, ↓reduceIte]
   repeat (first | (refine callV0 (bt0) rfl rfl ?_) | (refine callV0 (ct) rfl rfl ?_) | (refine callV0 (btT) rfl rfl ?_) | (refine callV0 (cm2) rfl rfl ?_) | (simp (maxSteps := 1000000) (disch := (first | omega | (simp only [lnA, List.length_map, List.length_range, true_and, and_true]; (try omega); done) | fail)) only [go_sem, List.take_length, Int.reduceEq, Int.reduceToNat, Nat.reduceAdd, Nat.reduceMul, Nat.reduceEqDiff, ↓reduceIte]))
   exact endW [] hQ
end Go.Proofs.YtdohmppildfjhaaGreatDoor
