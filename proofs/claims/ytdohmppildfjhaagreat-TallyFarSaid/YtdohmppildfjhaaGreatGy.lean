import Derived.Test.YtdohmppildfjhaaGreatGx
namespace Go.Proofs.YtdohmppildfjhaaGreat
open Go.Eng Go.Vx
set_option linter.unusedSimpArgs false
set_option linter.unusedVariables false
set_option maxRecDepth 100000
theorem far_facts {k a w n m : Nat} (hs : smallG k a w) (hn : 1 ≤ n) (hn2 : n ≤ 16) (hm : 1 ≤ m) (hm2 : m ≤ 2 ^ w - 1) :
  Fn1 Tryz.prog 8 [pR k a w, .lit (.int .i64 (n : Int)), .lit (.int .i64 (m : Int))] [] (.tup [RV (mostX (chX k a (m - 1)) (vlX k a m) n), .lit (.int .i64 0)]) [] ∧ RS 10000 (mostX (chX k a (m - 1)) (vlX k a m) n) := by
 have hp : 2 ^ w ≤ 2 ^ 4 := Nat.pow_le_pow_right (by decide) hs.2.2
 obtain ⟨v1, v2, v3, v4⟩ := vl_quo hs (K := m) (by omega) hm hn hn2
 have rv := vl_rs hs (K := m) (by omega)
 have rc := RS_chX hs (K := m - 1) (by omega)
 refine ⟨btail_fn hs hn hn2 hm hm2 (rv.mono (by decide)) v1 v2 v3 v4 rc, ?_⟩
 unfold mostX
 generalize chX k a (m - 1) * vlX k a m * ((((n : Nat) : Int) : Rat) / vlX k a m - 1 - lnHi ((((n : Nat) : Int) : Rat) / vlX k a m)) = x
 have hdn := RS_down (x := x)
 generalize dn x 64 = l at *
 unfold most2
 split
 ·
  exact RS_one.mono (by decide)
 ·
  rename_i h0
  have key : ∀ y, RS 80 y → 0 < y → y ≤ 64 → RS 10000 (most3 (exHi y)) := fun y h1 h2 h3 => by
   obtain ⟨sh, -⟩ := exG_fn h1 h2 h3
   unfold most3
   split
   ·
    exact RS_one.mono (by decide)
   ·
    exact sh.mono (by decide)
  split
  ·
   exact key 64 ((RS_small (z := 64) (by decide)).mono (by decide)) (by decide +kernel) Rat.le_refl
  ·
   rename_i h1
   exact key l ((hdn (Rat.not_le.1 h0) (Rat.not_lt.1 h1)).mono (by decide)) (Rat.not_le.1 h0) (Rat.not_lt.1 h1)
theorem at_pos {k a w n : Nat} (hs : smallG k a w) : 0 < (atD (itD k a w n)).length := by
 have h := (it_ok hs n).ne
 unfold atD
 rw [(srtD_perm _).length_eq]
 exact List.length_pos_iff.2 h
set_option maxHeartbeats 16000000 in
theorem tallyFar_fn {kk aa bb nn mm : Int} : Fn1 Tryz.prog 3 [.agg [.lit (.int .i64 kk), .lit (.int .i64 aa), .lit (.int .i64 bb)], .lit (.int .i64 nn), .lit (.int .i64 mm)] [] (.lit (.bool true)) [] := by
 obtain ⟨k, a, w, hsm, small⟩ := small17_fn (kk := kk) (aa := aa) (bb := bb)
 have sm := small (0, 0, false)
 clear small
 dsimp only at sm
 generalize hwi : wi k a w (0, 0, false) = wst at *
 obtain ⟨ws1, ws2, ws3⟩ := wst
 obtain ⟨N, hN, hN1, hN2⟩ : ∃ N : Nat, 1 + nn % 16 = (N : Int) ∧ 1 ≤ N ∧ N ≤ 16 := ⟨(1 + nn % 16).toNat, by omega, by omega, by omega⟩
 have hmm0 : 0 ≤ mm % 16 := by omega
 have oN := rof_fn (n := (N : Int)) (by omega) (by omega)
 have o1 := rofI_fn
 by_cases h4 : k = 4
 ·
  subst h4
  have hs : smallG 3 1 4 := ⟨by omega, by omega, by omega⟩
  have own := own17_fn (k := 3) (a := 1) (b := 4)
  have hsw : IntKind.i64.wrap (1 * 2 ^ 4) = ((2 ^ 4 : Nat) : Int) := shW (by decide)
  have hp : 2 ^ 4 ≤ 2 ^ 4 := Nat.pow_le_pow_right (by decide) hs.2.2
  have hp2 : 2 ≤ 2 ^ 4 := by
   have : 2 ^ 1 ≤ 2 ^ 4 := Nat.pow_le_pow_right (by decide) hs.2.1
   omega
  have he : ((2 ^ 4 : Nat) : Int) - 1 = ((2 ^ 4 - 1 : Nat) : Int) := by omega
  obtain ⟨M, hM, hM1, hM2⟩ : ∃ M : Nat, 1 + mm % 16 % ((2 ^ 4 - 1 : Nat) : Int) = (M : Int) ∧ 1 ≤ M ∧ M ≤ 2 ^ 4 - 1 := by
   have h1 := Int.emod_nonneg (mm % 16) (b := ((2 ^ 4 - 1 : Nat) : Int)) (by omega)
   have h2 := Int.emod_lt_of_pos (mm % 16) (b := ((2 ^ 4 - 1 : Nat) : Int)) (by omega)
   exact ⟨(1 + (mm % 16) % ((2 ^ 4 - 1 : Nat) : Int)).toNat, by omega, by omega, by omega⟩
  have pof := pof_fn (n := N) hs hN2
  have val := rvalue_fn (K := M) (F := false) hs hM2 (by simp)
  obtain ⟨bt, sbt⟩ := far_facts hs hN1 hN2 hM1 hM2
  obtain ⟨tl, stl, ssu⟩ := tails_fn (n := N) hs hM1 hM2 hN2
  obtain ⟨ck, -⟩ := chk_all hs hM1 (by omega) hN1 hN2
  have rv := vl_rs hs (K := M) (by omega)
  have sn : RS 1 (((N : Nat) : Int) : Rat) := RS_small (by omega)
  have hlen := at_pos (n := N) hs
  have hlen2 : (atD (itD 3 1 4 N)).length ≤ 100000 := by
   have h1 := (it_ok hs N).len
   have h2 := at_len (itD 3 1 4 N)
   have h3 : 2 ^ N ≤ 2 ^ 16 := Nat.pow_le_pow_right (by decide) hN2
   omega
  have su := rsub_fn (RS_one.mono (show 1 ≤ 400000 by decide)) stl
  generalize atD (itD 3 1 4 N) = A at *
  generalize mostX (chX 3 1 (M - 1)) (vlX 3 1 M) N = most at *
  generalize allW 3 1 M N = all at *
  generalize vlX 3 1 M = v at *
  generalize (((N : Nat) : Int) : Rat) = rN at *
  generalize hmt : 2 ^ 4 - 1 = top at *
  have ht15 : top ≤ 15 := by omega
  have hw4 : 4 ≤ 4 := hs.2.2
  have hl0 : decide ((A.length : Int) = 0) = false := decide_eq_false (by omega)
  refine fn1N_of pl3 (by kernel_rfl) Tryz.call3 Tryz.func3 rfl (by kernel_rfl) rfl [.tmp 6] (by kernel_rfl) fun Q hQ => ?_
  repeat (first | (refine callV0 (sm) rfl rfl ?_) | (refine callV0 (own) rfl rfl ?_) | (simp (maxSteps := 1000000) (disch := (first | omega | (simp only [lnA, List.length_map, List.length_range, true_and, and_true]; (try omega); done) | fail)) only [go_sem, hsw, he, hN, hM, Int.reduceEq, Int.reduceToNat, Nat.reduceAdd, Nat.reduceMul, Nat.reduceEqDiff, ↓reduceIte]))
  refine callW [] [] (pof) ?_
  repeat (first | (refine callV0 (val) rfl rfl ?_) | (refine callV0 (bt) rfl rfl ?_) | (simp (maxSteps := 1000000) (disch := (first | omega | (simp only [lnA, List.length_map, List.length_range, true_and, and_true]; (try omega); done) | fail)) only [go_sem, hsw, he, hN, hM, Int.reduceEq, Int.reduceToNat, Nat.reduceAdd, Nat.reduceMul, Nat.reduceEqDiff, ↓reduceIte]))
  by_cases hv : v < rN
  ·
   rw [if_pos hv] at ck
   obtain ⟨c1, hc1, cm1⟩ := rcmp_gt (sn.mono (show 1 ≤ 400000 by decide)) (rv.mono (show 2 ≤ 400000 by decide)) hv
   obtain ⟨c2, hc2, cm2⟩ := rcmp_le ssu (sbt.mono (show 10000 ≤ 400000 by decide)) ck
   generalize 1 - all = al1 at *
   refine callW [] [4] (tl) ?_
   repeat (first | (refine callV0 (oN) rfl rfl ?_) | (refine callV0 (cm1) rfl rfl ?_) | (refine callV0 (o1) rfl rfl ?_) | (refine callV0 (su) rfl rfl ?_) | (refine callV0 (cm2) rfl rfl ?_) | (simp (maxSteps := 1000000) (disch := (first | omega | (simp only [lnA, List.length_map, List.length_range, true_and, and_true]; (try omega); done) | fail)) only [go_sem, hsw, he, hN, hM, hl0, Int.reduceEq, Int.reduceToNat, Nat.reduceAdd, Nat.reduceMul, Nat.reduceEqDiff, ↓reduceIte]))
   exact endW [] hQ
  ·
   rw [if_neg hv] at ck
   obtain ⟨c1, hc1, cm1⟩ := rcmp_le (sn.mono (show 1 ≤ 400000 by decide)) (rv.mono (show 2 ≤ 400000 by decide)) (Rat.not_lt.1 hv)
   obtain ⟨c2, hc2, cm2⟩ := rcmp_le stl (sbt.mono (show 10000 ≤ 400000 by decide)) ck
   refine callW [] [4] (tl) ?_
   repeat (first | (refine callV0 (oN) rfl rfl ?_) | (refine callV0 (cm1) rfl rfl ?_) | (refine callV0 (cm2) rfl rfl ?_) | (simp (maxSteps := 1000000) (disch := (first | omega | (simp only [lnA, List.length_map, List.length_range, true_and, and_true]; (try omega); done) | fail)) only [go_sem, hsw, he, hN, hM, hl0, Int.reduceEq, Int.reduceToNat, Nat.reduceAdd, Nat.reduceMul, Nat.reduceEqDiff, ↓reduceIte]))
   exact endW [] hQ
 ·
  have hs : smallG k a w := by
   rcases hsm with ⟨h, h1, h2, h3, h5⟩ | ⟨h, h1, h2, h3⟩ | ⟨h, h1, h2, h3, h5⟩ | ⟨h, h1, h2, h3⟩
   ·
    exact ⟨by omega, by omega, by omega⟩
   ·
    exact ⟨by omega, by omega, by omega⟩
   ·
    exact ⟨by omega, by omega, by omega⟩
   ·
    exact absurd h h4
  have hk4 : ¬ (k : Int) = 4 := by omega
  have own := own17_fn (k := k) (a := a) (b := w)
  have hsw : IntKind.i64.wrap (1 * 2 ^ w) = ((2 ^ w : Nat) : Int) := shW (by have := hs.2.2; omega)
  have hp : 2 ^ w ≤ 2 ^ 4 := Nat.pow_le_pow_right (by decide) hs.2.2
  have hp2 : 2 ≤ 2 ^ w := by
   have : 2 ^ 1 ≤ 2 ^ w := Nat.pow_le_pow_right (by decide) hs.2.1
   omega
  have he : ((2 ^ w : Nat) : Int) - 1 = ((2 ^ w - 1 : Nat) : Int) := by omega
  obtain ⟨M, hM, hM1, hM2⟩ : ∃ M : Nat, 1 + mm % 16 % ((2 ^ w - 1 : Nat) : Int) = (M : Int) ∧ 1 ≤ M ∧ M ≤ 2 ^ w - 1 := by
   have h1 := Int.emod_nonneg (mm % 16) (b := ((2 ^ w - 1 : Nat) : Int)) (by omega)
   have h2 := Int.emod_lt_of_pos (mm % 16) (b := ((2 ^ w - 1 : Nat) : Int)) (by omega)
   exact ⟨(1 + (mm % 16) % ((2 ^ w - 1 : Nat) : Int)).toNat, by omega, by omega, by omega⟩
  have pof := pof_fn (n := N) hs hN2
  have val := rvalue_fn (K := M) (F := false) hs hM2 (by simp)
  obtain ⟨bt, sbt⟩ := far_facts hs hN1 hN2 hM1 hM2
  obtain ⟨tl, stl, ssu⟩ := tails_fn (n := N) hs hM1 hM2 hN2
  obtain ⟨ck, -⟩ := chk_all hs hM1 (by omega) hN1 hN2
  have rv := vl_rs hs (K := M) (by omega)
  have sn : RS 1 (((N : Nat) : Int) : Rat) := RS_small (by omega)
  have hlen := at_pos (n := N) hs
  have hlen2 : (atD (itD k a w N)).length ≤ 100000 := by
   have h1 := (it_ok hs N).len
   have h2 := at_len (itD k a w N)
   have h3 : 2 ^ N ≤ 2 ^ 16 := Nat.pow_le_pow_right (by decide) hN2
   omega
  have su := rsub_fn (RS_one.mono (show 1 ≤ 400000 by decide)) stl
  generalize atD (itD k a w N) = A at *
  generalize mostX (chX k a (M - 1)) (vlX k a M) N = most at *
  generalize allW k a M N = all at *
  generalize vlX k a M = v at *
  generalize (((N : Nat) : Int) : Rat) = rN at *
  generalize hmt : 2 ^ w - 1 = top at *
  have ht15 : top ≤ 15 := by omega
  have hw4 : w ≤ 4 := hs.2.2
  have hl0 : decide ((A.length : Int) = 0) = false := decide_eq_false (by omega)
  refine fn1N_of pl3 (by kernel_rfl) Tryz.call3 Tryz.func3 rfl (by kernel_rfl) rfl [.tmp 6] (by kernel_rfl) fun Q hQ => ?_
  repeat (first | (refine callV0 (sm) rfl rfl ?_) | (refine callV0 (own) rfl rfl ?_) | (simp (maxSteps := 1000000) (disch := (first | omega | (simp only [lnA, List.length_map, List.length_range, true_and, and_true]; (try omega); done) | fail)) only [go_sem, hsw, he, hk4, hN, hM, Int.reduceEq, Int.reduceToNat, Nat.reduceAdd, Nat.reduceMul, Nat.reduceEqDiff, ↓reduceIte]))
  refine callW [] [] (pof) ?_
  repeat (first | (refine callV0 (val) rfl rfl ?_) | (refine callV0 (bt) rfl rfl ?_) | (simp (maxSteps := 1000000) (disch := (first | omega | (simp only [lnA, List.length_map, List.length_range, true_and, and_true]; (try omega); done) | fail)) only [go_sem, hsw, he, hN, hM, Int.reduceEq, Int.reduceToNat, Nat.reduceAdd, Nat.reduceMul, Nat.reduceEqDiff, ↓reduceIte]))
  by_cases hv : v < rN
  ·
   rw [if_pos hv] at ck
   obtain ⟨c1, hc1, cm1⟩ := rcmp_gt (sn.mono (show 1 ≤ 400000 by decide)) (rv.mono (show 2 ≤ 400000 by decide)) hv
   obtain ⟨c2, hc2, cm2⟩ := rcmp_le ssu (sbt.mono (show 10000 ≤ 400000 by decide)) ck
   generalize 1 - all = al1 at *
   refine callW [] [4] (tl) ?_
   repeat (first | (refine callV0 (oN) rfl rfl ?_) | (refine callV0 (cm1) rfl rfl ?_) | (refine callV0 (o1) rfl rfl ?_) | (refine callV0 (su) rfl rfl ?_) | (refine callV0 (cm2) rfl rfl ?_) | (simp (maxSteps := 1000000) (disch := (first | omega | (simp only [lnA, List.length_map, List.length_range, true_and, and_true]; (try omega); done) | fail)) only [go_sem, hsw, he, hN, hM, hl0, Int.reduceEq, Int.reduceToNat, Nat.reduceAdd, Nat.reduceMul, Nat.reduceEqDiff, ↓reduceIte]))
   exact endW [] hQ
  ·
   rw [if_neg hv] at ck
   obtain ⟨c1, hc1, cm1⟩ := rcmp_le (sn.mono (show 1 ≤ 400000 by decide)) (rv.mono (show 2 ≤ 400000 by decide)) (Rat.not_lt.1 hv)
   obtain ⟨c2, hc2, cm2⟩ := rcmp_le stl (sbt.mono (show 10000 ≤ 400000 by decide)) ck
   refine callW [] [4] (tl) ?_
   repeat (first | (refine callV0 (oN) rfl rfl ?_) | (refine callV0 (cm1) rfl rfl ?_) | (refine callV0 (cm2) rfl rfl ?_) | (simp (maxSteps := 1000000) (disch := (first | omega | (simp only [lnA, List.length_map, List.length_range, true_and, and_true]; (try omega); done) | fail)) only [go_sem, hsw, he, hN, hM, hl0, Int.reduceEq, Int.reduceToNat, Nat.reduceAdd, Nat.reduceMul, Nat.reduceEqDiff, ↓reduceIte]))
   exact endW [] hQ
end Go.Proofs.YtdohmppildfjhaaGreat
