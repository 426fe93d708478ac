import Derived.Test.YtdohmppildfjhaaGreatKg
namespace Go.Proofs.YtdohmppildfjhaaGreat
open Go.Eng Go.Vx
set_option linter.unusedSimpArgs false
set_option linter.unusedVariables false
set_option maxRecDepth 100000
set_option maxHeartbeats 8000000 in
theorem lnPosT_fn {x : Rat} {N T : Nat} (hx : RS 20 x) (hN : 1 ≤ N) (hN2 : N ≤ 64) (h0 : 1 ≤ x) (h1 : x ≤ tw 64) (hT : T ≤ 64) (hxT : x * hf T < 2) (hmin : ∀ j, j < T → 2 ≤ x * hf j) :
  LnE N (lnX (x * hf T) T N).1 (lnX (x * hf T) T N).2 ∧ RS 70000 (lnX (x * hf T) T N).1 ∧ RS 70000 (lnX (x * hf T) T N).2 ∧ Fn1 Tryz.prog 32 [RV x, .lit (.int .i64 (N : Int))] [] (.tup [BV (lnX (x * hf T) T N).1 (lnX (x * hf T) T N).2, .lit (.int .i64 0)]) [] := by
 have hge := halves2_ge h0 hmin
 have hE := lnX_ok (n := T) (bits := N) hge hxT hT hN hN2
 have o1 := halfB_fn (N := 64) (by decide)
 have o2 := two_fn (N := 64) (by decide)
 rw [show ((64 : Nat) : Int) = 64 from rfl] at o1 o2
 have s1 := (RS_hf (N := 64) (by decide)).mono (show 129 ≤ 400000 by decide)
 have s2 := (RS_tw (N := 64) (by decide)).mono (show 129 ≤ 400000 by decide)
 obtain ⟨c, hc, cm⟩ := rcmp_ge (hx.mono (show 20 ≤ 400000 by decide)) s1 (Rat.le_trans (by decide +kernel) h0)
 obtain ⟨c2, hc2, cm2⟩ := rcmp_le (hx.mono (show 20 ≤ 400000 by decide)) s2 h1
 obtain ⟨c3, hc3, cm3⟩ := rcmp_ge (hx.mono (show 20 ≤ 400000 by decide)) (RS_one.mono (show 1 ≤ 400000 by decide)) h0
 have one := rof1_fn
 have two := rof_fn (n := 2) (by decide) (by decide)
 have sm := RS_mul hx (RS_hf2 (k := 2) (N := T) (by decide) (by omega))
 have tn := rof_fn (n := (T : Int)) (by omega) (by omega)
 have sT : RS 1 (((T : Nat) : Int) : Rat) := RS_small (by omega)
 obtain ⟨q0, q1⟩ := slope_arg hge hxT
 have su := rsub_fn (sm.mono (show _ ≤ 400000 by decide)) (RS_one.mono (show 1 ≤ 400000 by decide))
 have ad := radd_fn (sm.mono (show _ ≤ 400000 by decide)) (RS_one.mono (show 1 ≤ 400000 by decide))
 have ssu := RS_sub sm RS_one
 have sad := RS_add sm RS_one
 have hne : x * hf T + 1 ≠ 0 := by grind
 have dv := rdiv_fn hne (ssu.mono (show _ ≤ 400000 by decide)) (sad.mono (show _ ≤ 400000 by decide))
 have st := (RS_div (by decide) ssu sad).mono (show _ ≤ 200 by decide)
 obtain ⟨sl1, r1, r2⟩ := slope_fn (b := N + 80) st q0 q1 (by omega) (by omega)
 have th := rmake_fn (p := 1) (q := 3) (by decide) (by decide) (by decide) (by decide) (by decide)
 have sth : RS 2 (((1 : Int) : Rat) / ((3 : Int) : Rat)) := RS_div (by decide) (RS_small (by decide)) (RS_small (by decide))
 rw [show ((1 : Int) : Rat) / ((3 : Int) : Rat) = 1 / 3 from rfl] at th sth
 obtain ⟨sl2, r3, r4⟩ := slope_fn (x := 1 / 3) (b := N + 80) (sth.mono (by decide)) (by decide +kernel) (by decide +kernel) (by omega) (by omega)
 have sc := scaled_fn (r3.mono (show 33000 ≤ 100000 by decide)) (r4.mono (show 33000 ≤ 100000 by decide)) (sT.mono (show 1 ≤ 100000 by decide))
 have pl := plus_fn (r1.mono (show 33000 ≤ 100000 by decide)) (r2.mono (show 33000 ≤ 100000 by decide)) ((RS_mul r3 sT).mono (show _ ≤ 100000 by decide)) ((RS_mul r4 sT).mono (show _ ≤ 100000 by decide))
 have so1 := RS_add r1 (RS_mul r3 sT)
 have so2 := RS_add r2 (RS_mul r4 sT)
 have ou := out_fn (bits := (N : Int) + 40) (B := N + 40) (by omega) (so1.mono (show _ ≤ 90000 by decide)) (so2.mono (show _ ≤ 90000 by decide))
 refine ⟨hE, (RS_dn' (by omega) so1).mono (by decide), (RS_up' (by omega) so2).mono (by decide), ?_⟩
 have hb : (N : Int) + 80 = ((N + 80 : Nat) : Int) := by omega
 unfold lnX
 clear hE s1 s2 so1 so2 r1 r2 r3 r4 st ssu sad hne q0 q1 sth hge
 generalize hdv : (x * hf T - 1) / (x * hf T + 1) = tt at *
 generalize (sloX tt (N + 80)).1 = L1 at *
 generalize (sloX tt (N + 80)).2 = H1 at *
 generalize h13 : (1 : Rat) / 3 = t3 at *
 generalize (sloX t3 (N + 80)).1 = L2 at *
 generalize (sloX t3 (N + 80)).2 = H2 at *
 generalize hTr : (((T : Nat) : Int) : Rat) = Tr at *
 generalize dn (L1 + L2 * Tr) (N + 40) = D at *
 generalize up (H1 + H2 * Tr) (N + 40) = U at *
 generalize L1 + L2 * Tr = La at *
 generalize H1 + H2 * Tr = Ha at *
 generalize L2 * Tr = Lb at *
 generalize H2 * Tr = Hb at *
 generalize hf 64 = v1 at *
 generalize tw 64 = v2 at *
 have key : ∀ n, n ≤ T → Fn1 Tryz.prog 67 [.lit (.int .i64 (n : Int))] [] (RV (hf n)) [] ∧ Fn1 Tryz.prog 33 [RV x, RV (hf n)] [] (RV (x * hf n)) [] ∧ ∃ c : Int, (if n < T then 0 ≤ c else c < 0) ∧ Fn1 Tryz.prog 10 [RV (x * hf n), RV ((2 : Int) : Rat)] [] (.lit (.int .i64 c)) [] := by
  intro n hn
  have sn := RS_hf (N := n) (by omega)
  refine ⟨halfB_fn (by omega), rmul_fn (hx.mono (show 20 ≤ 400000 by decide)) (sn.mono (show 129 ≤ 400000 by decide)), ?_⟩
  by_cases hnT : n < T
  ·
   obtain ⟨c, hc, cm⟩ := rcmp_ge ((RS_mul hx sn).mono (show _ ≤ 400000 by decide)) (RS_two.mono (show 1 ≤ 400000 by decide)) (hmin n hnT)
   exact ⟨c, by rw [if_pos hnT]; exact hc, cm⟩
  ·
   obtain rfl : n = T := by omega
   obtain ⟨c, hc, cm⟩ := rcmp_lt ((RS_mul hx sn).mono (show _ ≤ 400000 by decide)) (RS_two.mono (show 1 ≤ 400000 by decide)) hxT
   exact ⟨c, by rw [if_neg hnT]; exact hc, cm⟩
 clear hmin hxT sm
 generalize ((2 : Int) : Rat) = w2 at *
 generalize (1 : Rat) = w1 at *
 refine fn1N_of pl32 (by kernel_rfl) Tryz.call32 Tryz.func32 rfl (by kernel_rfl) rfl [.cell 4 77, .tmp 5] (by kernel_rfl) fun Q hQ => ?_
 repeat (first | (refine callV0 (o1) rfl rfl ?_) | (refine callV0 (cm) rfl rfl ?_) | (refine callV0 (o2) rfl rfl ?_) | (refine callV0 (cm2) rfl rfl ?_) | (refine callV0 (one) rfl rfl ?_) | (refine callV0 (cm3) rfl rfl ?_) | (refine runW ?_))
 refine loopW (X := Nat) (st := fun n => ([(1, .lit (.int .i64 (N : Int))), (2, .ref 0 0 0 0), (4, .ref 1 0 0 0), (10, .lit (.int .i64 ((N + 80 : Nat) : Int))), (11, .lit (.int .i64 (n : Int)))], [some (rwC x), some zbC]))
  (inv := fun n => n ≤ T) (m := fun n => T - n) 0 [some 0, some 1] (Nat.zero_le _) ?_
 intro n hn
 obtain ⟨hh, mu, c4, hc4, cm4⟩ := key n hn
 by_cases hnT : n < T
 ·
  rw [if_pos hnT] at hc4
  have e1 : (n : Int) + 1 = ((n + 1 : Nat) : Int) := by omega
  clear key sl1 sl2 sc pl ou su ad dv
  generalize x * hf n = y at *
  generalize hf n = hn' at *
  repeat (first | (refine callV0 (hh) rfl rfl ?_) | (refine callV0 (mu) rfl rfl ?_) | (refine callV0 (two) rfl rfl ?_) | (refine callV0 (cm4) rfl rfl ?_) | (refine runW ?_))
  refine nextW (n + 1) [some 0, some 1] (by omega) (by omega)
 ·
  rw [if_neg hnT] at hc4
  obtain rfl : n = T := by omega
  clear key
  generalize x * hf n - w1 = y1 at *
  generalize x * hf n + w1 = y2 at *
  generalize x * hf n = y at *
  generalize hf n = hn' at *
  repeat (first | (refine callV0 (hh) rfl rfl ?_) | (refine callV0 (mu) rfl rfl ?_) | (refine callV0 (two) rfl rfl ?_) | (refine callV0 (cm4) rfl rfl ?_) | (refine callV0 (one) rfl rfl ?_) | (refine callV0 (su) rfl rfl ?_) | (refine callV0 (ad) rfl rfl ?_) | (refine callV0 (dv) rfl rfl ?_) | (refine callV0 (th) rfl rfl ?_) | (refine callV0 (sl1) rfl rfl ?_) | (refine callV0 (sl2) rfl rfl ?_) | (refine callV0 (tn) rfl rfl ?_) | (refine callV0 (sc) rfl rfl ?_) | (refine callV0 (pl) rfl rfl ?_) | (refine callV0 (ou) rfl rfl ?_) | (simp (maxSteps := 1000000) (disch := (first | omega | (simp only [lnA, List.length_map, List.length_range, true_and, and_true]; (try omega); done) | fail)) only [go_sem, hb, Int.reduceEq, Int.reduceToNat, Nat.reduceAdd, Nat.reduceMul, Nat.reduceEqDiff, ↓reduceIte]))
  exact endW [] hQ
theorem inv_bounds {x : Rat} (h0 : x < 1) (h1 : hf 64 ≤ x) : 0 < x ∧ 1 ≤ 1 / x ∧ 1 / x ≤ tw 64 := by
 have hp := hf_pos 64
 have hx0 : 0 < x := by grind
 refine ⟨hx0, ?_, ?_⟩
 ·
  have := inv_le hx0 (Rat.le_of_lt h0)
  grind
 ·
  have h := inv_le hp h1
  have e : 1 / hf 64 = tw 64 := by
   have := hf_tw 64
   generalize hf 64 = a at *
   generalize tw 64 = b at *
   grind
  rw [e] at h
  exact h
set_option maxHeartbeats 4000000 in
theorem lnNegG_fn {x L H : Rat} {N : Nat} (hx : RS 15 x) (h0 : x < 1) (h1 : hf 64 ≤ x) (r1 : RS 70000 L) (r2 : RS 70000 H) (ln : Fn1 Tryz.prog 32 [RV (1 / x), .lit (.int .i64 (N : Int))] [] (.tup [BV L H, .lit (.int .i64 0)]) []) (hN : 1 ≤ N) (hN2 : N ≤ 64) :
  Fn1 Tryz.prog 32 [RV x, .lit (.int .i64 (N : Int))] [] (.tup [BV (0 - H) (0 - L), .lit (.int .i64 0)]) [] := by
 obtain ⟨hx0, -, -⟩ := inv_bounds h0 h1
 have hne : x ≠ 0 := by grind
 have o1 := halfB_fn (N := 64) (by decide)
 have o2 := two_fn (N := 64) (by decide)
 rw [show ((64 : Nat) : Int) = 64 from rfl] at o1 o2
 obtain ⟨c, hc, cm⟩ := rcmp_ge (hx.mono (show 15 ≤ 400000 by decide)) ((RS_hf (N := 64) (by decide)).mono (show 129 ≤ 400000 by decide)) h1
 obtain ⟨c2, hc2, cm2⟩ := rcmp_le (hx.mono (show 15 ≤ 400000 by decide)) ((RS_tw (N := 64) (by decide)).mono (show 129 ≤ 400000 by decide)) (Rat.le_trans (Rat.le_of_lt h0) (by decide +kernel))
 obtain ⟨c3, hc3, cm3⟩ := rcmp_lt (hx.mono (show 15 ≤ 400000 by decide)) (RS_one.mono (show 1 ≤ 400000 by decide)) h0
 have one := rof1_fn
 have dv := rdiv_fn hne (RS_one.mono (show 1 ≤ 400000 by decide)) (hx.mono (show 15 ≤ 400000 by decide))
 have m1 := minusB_fn (r1.mono (show 70000 ≤ 400000 by decide))
 have m2 := minusB_fn (r2.mono (show 70000 ≤ 400000 by decide))
 clear r1 r2 hx0 hne h0 h1 hx
 generalize 1 / x = y at *
 generalize 0 - L = mL at *
 generalize 0 - H = mH at *
 generalize hf 64 = v1 at *
 generalize tw 64 = v2 at *
 generalize (1 : Rat) = w1 at *
 refine fn1N_of pl32 (by kernel_rfl) Tryz.call32 Tryz.func32 rfl (by kernel_rfl) rfl [.cell 4 77, .tmp 5] (by kernel_rfl) fun Q hQ => ?_
 repeat (first | (refine callV0 (o1) rfl rfl ?_) | (refine callV0 (cm) rfl rfl ?_) | (refine callV0 (o2) rfl rfl ?_) | (refine callV0 (cm2) rfl rfl ?_) | (refine callV0 (one) rfl rfl ?_) | (refine callV0 (cm3) rfl rfl ?_) | (refine callV0 (dv) rfl rfl ?_) | (refine callV0 (ln) rfl rfl ?_) | (refine callV0 (m1) rfl rfl ?_) | (refine callV0 (m2) rfl rfl ?_) | (refine runW ?_))
 exact endW [] hQ
end Go.Proofs.YtdohmppildfjhaaGreat
