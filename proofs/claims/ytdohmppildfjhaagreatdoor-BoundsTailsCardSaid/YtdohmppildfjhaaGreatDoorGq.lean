import Derived.Test.YtdohmppildfjhaaGreatDoorGp
import Derived.Test.YtdohmppildfjhaaGreatDoorGj
namespace Go.Proofs.YtdohmppildfjhaaGreatDoor
open Go.Eng Go.Vx
set_option linter.unusedSimpArgs false
set_option linter.unusedVariables false
set_option maxRecDepth 100000
theorem RS_down {x : Rat} (h0 : 0 < dn x 64) (h1 : dn x 64 ≤ 64) : RS 7 (dn x 64) := by
 have d1 := dn_le x 64
 have d2 := dn_gt x 64
 have h2 : hf 64 ≤ 1 := by decide +kernel
 have h3 : (65 : Rat) ≤ tw 128 := by decide +kernel
 exact RS_dnN (by grind) (Rat.le_trans (by grind) h3) (by decide)
set_option maxHeartbeats 16000000 in
theorem btail_fn {k a w n m : Nat} (hs : smallG k a w) (hn : 1 ≤ n) (hn2 : n ≤ 16) (hm : 1 ≤ m) (hm2 : m ≤ 2 ^ w - 1)
  (hmu : RS 4 (vlX k a m)) (hmu0 : vlX k a m ≠ 0) (hmu1 : vlX k a m ≤ 1099511627776) (hr0 : hf 64 ≤ (((n : Nat) : Int) : Rat) / vlX k a m) (hr1 : (((n : Nat) : Int) : Rat) / vlX k a m ≤ tw 64) (hch : RS 129 (chX k a (m - 1))) :
  Fn1 Tryz.prog 6 [pR k a w, .lit (.int .i64 (n : Int)), .lit (.int .i64 (m : Int))] [] (.tup [RV (mostX (chX k a (m - 1)) (vlX k a m) n), .lit (.int .i64 0)]) [] := by
 obtain ⟨hg, h4⟩ := smallG_good hs
 have hk4 : ¬ (k : Int) = 4 := by omega
 have cc := cCheck_fn hg h4
 have ct := cTop_fn hg h4
 have hp : 2 ^ w ≤ 2 ^ 4 := Nat.pow_le_pow_right (by decide) hs.2.2
 have htop : 2 ^ w - 1 ≤ 15 := by omega
 have vl := cvalue_fn hs hm2
 have ch := cchance_fn hs (K := m - 1) (by omega)
 have e1 : (m : Int) - 1 = ((m - 1 : Nat) : Int) := by omega
 have oMu := rof_fn (n := 1099511627776) (by decide) (by decide)
 obtain ⟨c1, hc1, cm1⟩ := rcmp_le (hmu.mono (show 4 ≤ 400000 by decide)) (RS_c (z := 1099511627776) (by decide)) (by rw [show ((1099511627776 : Int) : Rat) = 1099511627776 by decide +kernel]; exact hmu1)
 have oN := rof_fn (n := (n : Int)) (by omega) (by omega)
 have sn : RS 1 (((n : Nat) : Int) : Rat) := RS_small (by omega)
 have dv := rdiv_fn hmu0 (sn.mono (show 1 ≤ 400000 by decide)) (hmu.mono (show 4 ≤ 400000 by decide))
 have sr : RS 5 ((((n : Nat) : Int) : Rat) / vlX k a m) := RS_div (by decide) sn hmu
 obtain ⟨sl, Lo, ln⟩ := lnG_fn (sr.mono (by decide)) hr0 hr1
 have mu1 := rmul_fn (hch.mono (show 129 ≤ 400000 by decide)) (hmu.mono (show 4 ≤ 400000 by decide))
 have o1' := rof1_fn
 have su1 := rsub_fn (sr.mono (show 5 ≤ 400000 by decide)) (RS_one.mono (show 1 ≤ 400000 by decide))
 have ss1 := RS_sub sr RS_one
 have su2 := rsub_fn (ss1.mono (show _ ≤ 400000 by decide)) (sl.mono (show 80000 ≤ 400000 by decide))
 have ss2 := RS_sub ss1 sl
 have smu := RS_mul hch hmu
 have mu2 := rmul_fn (smu.mono (show _ ≤ 400000 by decide)) (ss2.mono (show _ ≤ 400000 by decide))
 have sl2 := RS_mul smu ss2
 have dw := down_fn (bits := 64) (B := 64) (by decide) (sl2.mono (show _ ≤ 100000 by decide))
 have sdn := RS_dn' (B := 64) (by decide) sl2
 obtain ⟨zz, hz, o0⟩ : ∃ z : Rat, z = 0 ∧ Fn1 Tryz.prog 12 [.lit (.int .i64 0)] [] (RV z) [] := ⟨_, rfl, rof_fn (n := 0) (by decide) (by decide)⟩
 obtain ⟨s64, h64e, o64⟩ : ∃ z : Rat, z = 64 ∧ Fn1 Tryz.prog 12 [.lit (.int .i64 64)] [] (RV z) [] := ⟨_, by decide +kernel, rof_fn (n := 64) (by decide) (by decide)⟩
 have sz : RS 400000 zz := by rw [hz]; exact (RS_small (z := 0) (by decide)).mono (by decide)
 have s64r : RS 1 s64 := by rw [h64e]; exact RS_small (z := 64) (by decide)
 unfold mostX
 have hdn := RS_down (x := chX k a (m - 1) * vlX k a m * ((((n : Nat) : Int) : Rat) / vlX k a m - 1 - lnHi ((((n : Nat) : Int) : Rat) / vlX k a m)))
 generalize dn (chX k a (m - 1) * vlX k a m * ((((n : Nat) : Int) : Rat) / vlX k a m - 1 - lnHi ((((n : Nat) : Int) : Rat) / vlX k a m))) 64 = least at *
 clear hr0 hr1 hch sr sl ss1 ss2 smu sl2 hmu hmu0 hmu1 sn
 generalize chX k a (m - 1) * vlX k a m * ((((n : Nat) : Int) : Rat) / vlX k a m - 1 - lnHi ((((n : Nat) : Int) : Rat) / vlX k a m)) = big at *
 generalize (((n : Nat) : Int) : Rat) / vlX k a m - 1 - lnHi ((((n : Nat) : Int) : Rat) / vlX k a m) = y3 at *
 generalize lnHi ((((n : Nat) : Int) : Rat) / vlX k a m) = Hi at *
 generalize (((n : Nat) : Int) : Rat) / vlX k a m - 1 = y2 at *
 generalize (((n : Nat) : Int) : Rat) / vlX k a m = r at *
 generalize chX k a (m - 1) * vlX k a m = cmu at *
 generalize chX k a (m - 1) = cx at *
 generalize vlX k a m = mu at *
 generalize (((n : Nat) : Int) : Rat) = rn at *
 generalize ((1099511627776 : Int) : Rat) = rMu at *
 generalize 2 ^ w - 1 = top at *
 have sdn2 : RS 400000 least := sdn.mono (by decide)
 have s1 : RS 1 (1 : Rat) := RS_one
 have hone : ∀ {h : Rat}, RS 5000 h → (1 < h → ∃ c : Int, 0 < c ∧ Fn1 Tryz.prog 11 [RV h, RV 1] [] (.lit (.int .i64 c)) []) ∧ (¬ 1 < h → ∃ c : Int, c ≤ 0 ∧ Fn1 Tryz.prog 11 [RV h, RV 1] [] (.lit (.int .i64 c)) []) := fun sh =>
  ⟨fun h1 => rcmp_gt (sh.mono (show 5000 ≤ 400000 by decide)) (s1.mono (show 1 ≤ 400000 by decide)) h1, fun h1 => rcmp_le (sh.mono (show 5000 ≤ 400000 by decide)) (s1.mono (show 1 ≤ 400000 by decide)) (Rat.not_lt.1 h1)⟩
 have hex : ∀ l : Rat, RS 80 l → 0 < l → l ≤ 64 → ∃ (h Le : Rat) (c : Int), exHi l = h ∧ Fn1 Tryz.prog 26 [RV l] [] (RV (0 - l)) [] ∧ Fn1 Tryz.prog 15 [RV (0 - l), .lit (.int .i64 24)] [] (.tup [BV Le h, .lit (.int .i64 0)]) [] ∧
   Fn1 Tryz.prog 11 [RV h, RV 1] [] (.lit (.int .i64 c)) [] ∧ ((1 < h ∧ 0 < c) ∨ (¬ 1 < h ∧ c ≤ 0)) := fun l hl h0 h1 => by
  obtain ⟨sh, Le, ex⟩ := exG_fn (y := l) hl h0 h1
  have mi := minusB_fn (hl.mono (show 80 ≤ 400000 by decide))
  by_cases hc : 1 < exHi l
  ·
   obtain ⟨c, h2, h3⟩ := (hone sh).1 hc
   exact ⟨_, Le, c, rfl, mi, ex, h3, .inl ⟨hc, h2⟩⟩
  ·
   obtain ⟨c, h2, h3⟩ := (hone sh).2 hc
   exact ⟨_, Le, c, rfl, mi, ex, h3, .inr ⟨hc, h2⟩⟩
 have hm1 : ∀ h : Rat, 1 < h → most3 h = 1 := fun h e => if_pos e
 have hm2 : ∀ h : Rat, ¬ 1 < h → most3 h = h := fun h e => if_neg e
 have o1 := o1'
 have hm0 : least ≤ 0 → most2 least = 1 := fun e => if_pos e
 have hm3 : ¬ least ≤ 0 → most2 least = most3 (exHi (if 64 < least then 64 else least)) := fun e => if_neg e
 clear o1' hone s1
 generalize hmm : most2 least = mm at *
 generalize (1 : Rat) = one at *
 refine fn1N_of pl6 (by kernel_rfl) Tryz.call6 Tryz.func6 rfl (by kernel_rfl) rfl [.cell 6 35, .tmp 7] (by kernel_rfl) fun Q hQ => ?_
 repeat (first | (refine callV0 (cc) rfl rfl ?_) | (refine callV0 (ct) rfl rfl ?_) | (refine callV0 (vl) rfl rfl ?_) | (refine callV0 (oMu) rfl rfl ?_) | (refine callV0 (cm1) rfl rfl ?_) | (refine callV0 (ch) rfl rfl ?_) | (refine callV0 (oN) rfl rfl ?_) | (refine callV0 (dv) rfl rfl ?_) | (refine callV0 (ln) rfl rfl ?_) | (refine callV0 (mu1) rfl rfl ?_) | (refine callV0 (o1) rfl rfl ?_) | (refine callV0 (su1) rfl rfl ?_) | (refine callV0 (su2) rfl rfl ?_) | (refine callV0 (mu2) rfl rfl ?_) | (refine callV0 (dw) rfl rfl ?_) | (refine callV0 (o0) rfl rfl ?_) | (simp (maxSteps := 1000000) (disch := (first | omega | (simp only [lnA, List.length_map, List.length_range, true_and, and_true]; (try omega); done) | fail)) only [go_sem, e1, Int.reduceEq, Int.reduceToNat, Nat.reduceAdd, Nat.reduceMul, Nat.reduceEqDiff, ↓reduceIte]))
 by_cases hl0 : least ≤ 0
 ·
  obtain ⟨c2, hc2, cm2⟩ := rcmp_le sdn2 sz (by rw [hz]; exact hl0)
  rw [hm0 hl0] at hQ
  repeat (first | (refine callV0 (cm2) rfl rfl ?_) | (refine callV0 (o1) rfl rfl ?_) | (refine runW ?_))
  exact endW [] hQ
 ·
  rw [hm3 hl0] at hQ
  have hl0' : 0 < least := Rat.not_le.1 hl0
  obtain ⟨c2, hc2, cm2⟩ := rcmp_gt sdn2 sz (by rw [hz]; exact hl0')
  repeat (first | (refine callV0 (cm2) rfl rfl ?_) | (refine callV0 (o64) rfl rfl ?_) | (refine runW ?_))
  by_cases h64 : 64 < least
  ·
   obtain ⟨c3, hc3, cm3⟩ := rcmp_gt sdn2 (s64r.mono (show 1 ≤ 400000 by decide)) (by rw [h64e]; exact h64)
   rw [if_pos h64, ← h64e] at hQ
   obtain ⟨h, Le, c4, hh, mi, ex, cm4, hor⟩ := hex s64 (s64r.mono (by decide)) (by rw [h64e]; decide +kernel) (by rw [h64e]; exact Rat.le_refl)
   rw [hh] at hQ
   generalize 0 - s64 = ml at *
   repeat (first | (refine callV0 (cm3) rfl rfl ?_) | (refine callV0 (o64) rfl rfl ?_) | (refine callV0 (mi) rfl rfl ?_) | (refine callV0 (ex) rfl rfl ?_) | (refine callV0 (o1) rfl rfl ?_) | (refine callV0 (cm4) rfl rfl ?_) | (refine runW ?_))
   rcases hor with ⟨g1, g2⟩ | ⟨g1, g2⟩
   ·
    rw [hm1 h g1] at hQ
    repeat (first | (refine callV0 (o1) rfl rfl ?_) | (refine runW ?_))
    exact endW [] hQ
   ·
    rw [hm2 h g1] at hQ
    repeat (first | (refine callV0 (o1) rfl rfl ?_) | (refine runW ?_))
    exact endW [] hQ
  ·
   obtain ⟨c3, hc3, cm3⟩ := rcmp_le sdn2 (s64r.mono (show 1 ≤ 400000 by decide)) (by rw [h64e]; exact Rat.not_lt.1 h64)
   rw [if_neg h64] at hQ
   obtain ⟨h, Le, c4, hh, mi, ex, cm4, hor⟩ := hex least ((hdn hl0' (Rat.not_lt.1 h64)).mono (by decide)) hl0' (Rat.not_lt.1 h64)
   rw [hh] at hQ
   generalize 0 - least = ml at *
   repeat (first | (refine callV0 (cm3) rfl rfl ?_) | (refine callV0 (o64) rfl rfl ?_) | (refine callV0 (mi) rfl rfl ?_) | (refine callV0 (ex) rfl rfl ?_) | (refine callV0 (o1) rfl rfl ?_) | (refine callV0 (cm4) rfl rfl ?_) | (refine runW ?_))
   rcases hor with ⟨g1, g2⟩ | ⟨g1, g2⟩
   ·
    rw [hm1 h g1] at hQ
    repeat (first | (refine callV0 (o1) rfl rfl ?_) | (refine runW ?_))
    exact endW [] hQ
   ·
    rw [hm2 h g1] at hQ
    repeat (first | (refine callV0 (o1) rfl rfl ?_) | (refine runW ?_))
    exact endW [] hQ
end Go.Proofs.YtdohmppildfjhaaGreatDoor
