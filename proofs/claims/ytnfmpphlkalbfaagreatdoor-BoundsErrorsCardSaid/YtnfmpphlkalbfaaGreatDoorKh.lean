import Derived.Test.YtnfmpphlkalbfaaGreatDoorKg
/-! Package bounds: Ln; BoundsErrors. -/
namespace Go.Proofs.YtnfmpphlkalbfaaGreatDoor
open Go.Eng Go.Vx
set_option linter.unusedSimpArgs false
set_option linter.unusedVariables false
set_option maxRecDepth 100000
set_option maxHeartbeats 4000000 in
theorem lnDeep_fn {x : Rat} {bits : Int} (hx : RS 400000 x) (h : bits < 1 ∨ 64 < bits ∨ tw 64 < x ∨ x < hf 64) :
    Fn1 Tryz.prog 8 [RV x, .lit (.int .i64 bits)] [] (.tup [BV 0 0, .lit (.int .i64 2)]) [] := by
  have o1 := halfB_fn (N := 64) (by decide)
  have o2 := two_fn (N := 64) (by decide)
  rw [show ((64 : Nat) : Int) = 64 from rfl] at o1 o2
  have s1 := (RS_hf (N := 64) (by decide)).mono (show 129 ≤ 400000 by decide)
  have s2 := (RS_tw (N := 64) (by decide)).mono (show 129 ≤ 400000 by decide)
  rw [BV0]
  by_cases h1 : bits < 1
  · clear s1 s2
    generalize hf 64 = r1 at *
    generalize tw 64 = r2 at *
    refine fn1N_of pl8 (by kernel_rfl) Tryz.call8 Tryz.func8 rfl (by kernel_rfl) rfl [.cell 4 41, .tmp 5] (by kernel_rfl) fun Q hQ => ?_
    repeat (first | (refine callV0 (o1) rfl rfl ?_) | (simp (maxSteps := 1000000) (disch := (first | omega | (simp only [lnA, List.length_map, List.length_range, true_and, and_true]; (try omega); done) | fail)) only [go_sem, Int.reduceEq, Int.reduceToNat, Nat.reduceAdd, Nat.reduceMul, Nat.reduceEqDiff, ↓reduceIte]))
    exact endW [] hQ
  by_cases h2 : 64 < bits
  · clear s1 s2
    generalize hf 64 = r1 at *
    generalize tw 64 = r2 at *
    refine fn1N_of pl8 (by kernel_rfl) Tryz.call8 Tryz.func8 rfl (by kernel_rfl) rfl [.cell 4 41, .tmp 5] (by kernel_rfl) fun Q hQ => ?_
    repeat (first | (refine callV0 (o1) rfl rfl ?_) | (simp (maxSteps := 1000000) (disch := (first | omega | (simp only [lnA, List.length_map, List.length_range, true_and, and_true]; (try omega); done) | fail)) only [go_sem, Int.reduceEq, Int.reduceToNat, Nat.reduceAdd, Nat.reduceMul, Nat.reduceEqDiff, ↓reduceIte]))
    exact endW [] hQ
  by_cases h3 : x < hf 64
  · obtain ⟨c, hc, cm⟩ := rcmp_lt hx s1 h3
    clear s1 s2 h3 h
    generalize hf 64 = r1 at *
    generalize tw 64 = r2 at *
    refine fn1N_of pl8 (by kernel_rfl) Tryz.call8 Tryz.func8 rfl (by kernel_rfl) rfl [.cell 4 41, .tmp 5] (by kernel_rfl) fun Q hQ => ?_
    repeat (first | (refine callV0 (o1) rfl rfl ?_) | (refine callV0 (cm) rfl rfl ?_) | (simp (maxSteps := 1000000) (disch := (first | omega | (simp only [lnA, List.length_map, List.length_range, true_and, and_true]; (try omega); done) | fail)) only [go_sem, Int.reduceEq, Int.reduceToNat, Nat.reduceAdd, Nat.reduceMul, Nat.reduceEqDiff, ↓reduceIte]))
    exact endW [] hQ
  · have h4 : tw 64 < x := by
      rcases h with h | h | h | h
      · omega
      · omega
      · exact h
      · exact absurd h h3
    obtain ⟨c, hc, cm⟩ := rcmp_ge hx s1 (Rat.not_lt.1 h3)
    obtain ⟨c2, hc2, cm2⟩ := rcmp_gt hx s2 h4
    clear s1 s2 h3 h h4
    generalize hf 64 = r1 at *
    generalize tw 64 = r2 at *
    refine fn1N_of pl8 (by kernel_rfl) Tryz.call8 Tryz.func8 rfl (by kernel_rfl) rfl [.cell 4 41, .tmp 5] (by kernel_rfl) fun Q hQ => ?_
    repeat (first | (refine callV0 (o1) rfl rfl ?_) | (refine callV0 (cm) rfl rfl ?_) | (refine callV0 (o2) rfl rfl ?_) | (refine callV0 (cm2) rfl rfl ?_) | (simp (maxSteps := 1000000) (disch := (first | omega | (simp only [lnA, List.length_map, List.length_range, true_and, and_true]; (try omega); done) | fail)) only [go_sem, Int.reduceEq, Int.reduceToNat, Nat.reduceAdd, Nat.reduceMul, Nat.reduceEqDiff, ↓reduceIte]))
    exact endW [] hQ
set_option maxHeartbeats 8000000 in
theorem lnPos_fn {x : Rat} {N : Nat} (hx : RS 20 x) (hN : 1 ≤ N) (hN2 : N ≤ 64) (h0 : 1 ≤ x) (h1 : x ≤ tw 64) :
    ∃ L H, LnE N L H ∧ RS 70000 L ∧ RS 70000 H ∧ Fn1 Tryz.prog 8 [RV x, .lit (.int .i64 (N : Int))] [] (.tup [BV L H, .lit (.int .i64 0)]) [] := by
  obtain ⟨T, hT, hxT, hmin⟩ := halves2_of h1
  have hge := halves2_ge h0 hmin
  have hE := lnX_ok (n := T) (bits := N) hge hxT hT hN hN2
  have o1 := halfB_fn (N := 64) (by decide)
  have o2 := two_fn (N := 64) (by decide)
  rw [show ((64 : Nat) : Int) = 64 from rfl] at o1 o2
  have s1 := (RS_hf (N := 64) (by decide)).mono (show 129 ≤ 400000 by decide)
  have s2 := (RS_tw (N := 64) (by decide)).mono (show 129 ≤ 400000 by decide)
  obtain ⟨c, hc, cm⟩ := rcmp_ge (hx.mono (show 20 ≤ 400000 by decide)) s1 (Rat.le_trans (by decide +kernel) h0)
  obtain ⟨c2, hc2, cm2⟩ := rcmp_le (hx.mono (show 20 ≤ 400000 by decide)) s2 h1
  obtain ⟨c3, hc3, cm3⟩ := rcmp_ge (hx.mono (show 20 ≤ 400000 by decide)) (RS_one.mono (show 1 ≤ 400000 by decide)) h0
  have one := rof1_fn
  have two := rof_fn (n := 2) (by decide) (by decide)
  have sm := RS_mul hx (RS_hf2 (k := 2) (N := T) (by decide) (by omega))
  have tn := rof_fn (n := (T : Int)) (by omega) (by omega)
  have sT : RS 1 (((T : Nat) : Int) : Rat) := RS_small (by omega)
  obtain ⟨q0, q1⟩ := slope_arg hge hxT
  have su := rsub_fn (sm.mono (show _ ≤ 400000 by decide)) (RS_one.mono (show 1 ≤ 400000 by decide))
  have ad := radd_fn (sm.mono (show _ ≤ 400000 by decide)) (RS_one.mono (show 1 ≤ 400000 by decide))
  have ssu := RS_sub sm RS_one
  have sad := RS_add sm RS_one
  have hne : x * hf T + 1 ≠ 0 := by grind
  have dv := rdiv_fn hne (ssu.mono (show _ ≤ 400000 by decide)) (sad.mono (show _ ≤ 400000 by decide))
  have st := (RS_div (by decide) ssu sad).mono (show _ ≤ 200 by decide)
  obtain ⟨sl1, r1, r2⟩ := slope_fn (b := N + 80) st q0 q1 (by omega) (by omega)
  have th := rmake_fn (p := 1) (q := 3) (by decide) (by decide) (by decide) (by decide) (by decide)
  have sth : RS 2 (((1 : Int) : Rat) / ((3 : Int) : Rat)) := RS_div (by decide) (RS_small (by decide)) (RS_small (by decide))
  rw [show ((1 : Int) : Rat) / ((3 : Int) : Rat) = 1 / 3 from rfl] at th sth
  obtain ⟨sl2, r3, r4⟩ := slope_fn (x := 1 / 3) (b := N + 80) (sth.mono (by decide)) (by decide +kernel) (by decide +kernel) (by omega) (by omega)
  have sc := scaled_fn (r3.mono (show 33000 ≤ 100000 by decide)) (r4.mono (show 33000 ≤ 100000 by decide)) (sT.mono (show 1 ≤ 100000 by decide))
  have pl := plus_fn (r1.mono (show 33000 ≤ 100000 by decide)) (r2.mono (show 33000 ≤ 100000 by decide)) ((RS_mul r3 sT).mono (show _ ≤ 100000 by decide)) ((RS_mul r4 sT).mono (show _ ≤ 100000 by decide))
  have so1 := RS_add r1 (RS_mul r3 sT)
  have so2 := RS_add r2 (RS_mul r4 sT)
  have ou := out_fn (bits := (N : Int) + 40) (B := N + 40) (by omega) (so1.mono (show _ ≤ 90000 by decide)) (so2.mono (show _ ≤ 90000 by decide))
  refine ⟨(lnX (x * hf T) T N).1, (lnX (x * hf T) T N).2, hE, (RS_dn' (by omega) so1).mono (by decide), (RS_up' (by omega) so2).mono (by decide), ?_⟩
  have hb : (N : Int) + 80 = ((N + 80 : Nat) : Int) := by omega
  unfold lnX
  clear hE s1 s2 so1 so2 r1 r2 r3 r4 st ssu sad hne q0 q1 sth hge
  generalize hdv : (x * hf T - 1) / (x * hf T + 1) = tt at *
  generalize (sloX tt (N + 80)).1 = L1 at *
  generalize (sloX tt (N + 80)).2 = H1 at *
  generalize h13 : (1 : Rat) / 3 = t3 at *
  generalize (sloX t3 (N + 80)).1 = L2 at *
  generalize (sloX t3 (N + 80)).2 = H2 at *
  generalize hTr : (((T : Nat) : Int) : Rat) = Tr at *
  generalize dn (L1 + L2 * Tr) (N + 40) = D at *
  generalize up (H1 + H2 * Tr) (N + 40) = U at *
  generalize L1 + L2 * Tr = La at *
  generalize H1 + H2 * Tr = Ha at *
  generalize L2 * Tr = Lb at *
  generalize H2 * Tr = Hb at *
  generalize hf 64 = v1 at *
  generalize tw 64 = v2 at *
  have key : ∀ n, n ≤ T → Fn1 Tryz.prog 39 [.lit (.int .i64 (n : Int))] [] (RV (hf n)) [] ∧ Fn1 Tryz.prog 18 [RV x, RV (hf n)] [] (RV (x * hf n)) [] ∧ ∃ c : Int, (if n < T then 0 ≤ c else c < 0) ∧ Fn1 Tryz.prog 12 [RV (x * hf n), RV ((2 : Int) : Rat)] [] (.lit (.int .i64 c)) [] := by
    intro n hn
    have sn := RS_hf (N := n) (by omega)
    refine ⟨halfB_fn (by omega), rmul_fn (hx.mono (show 20 ≤ 400000 by decide)) (sn.mono (show 129 ≤ 400000 by decide)), ?_⟩
    by_cases hnT : n < T
    · obtain ⟨c, hc, cm⟩ := rcmp_ge ((RS_mul hx sn).mono (show _ ≤ 400000 by decide)) (RS_two.mono (show 1 ≤ 400000 by decide)) (hmin n hnT)
      exact ⟨c, by rw [if_pos hnT]; exact hc, cm⟩
    · obtain rfl : n = T := by omega
      obtain ⟨c, hc, cm⟩ := rcmp_lt ((RS_mul hx sn).mono (show _ ≤ 400000 by decide)) (RS_two.mono (show 1 ≤ 400000 by decide)) hxT
      exact ⟨c, by rw [if_neg hnT]; exact hc, cm⟩
  clear hmin hxT sm
  generalize ((2 : Int) : Rat) = w2 at *
  generalize (1 : Rat) = w1 at *
  refine fn1N_of pl8 (by kernel_rfl) Tryz.call8 Tryz.func8 rfl (by kernel_rfl) rfl [.cell 4 41, .tmp 5] (by kernel_rfl) fun Q hQ => ?_
  repeat (first | (refine callV0 (o1) rfl rfl ?_) | (refine callV0 (cm) rfl rfl ?_) | (refine callV0 (o2) rfl rfl ?_) | (refine callV0 (cm2) rfl rfl ?_) | (refine callV0 (one) rfl rfl ?_) | (refine callV0 (cm3) rfl rfl ?_) | (simp (maxSteps := 1000000) (disch := (first | omega | (simp only [lnA, List.length_map, List.length_range, true_and, and_true]; (try omega); done) | fail)) only [go_sem, Int.reduceEq, Int.reduceToNat, Nat.reduceAdd, Nat.reduceMul, Nat.reduceEqDiff, ↓reduceIte]))
  refine LoopV_of (X := Nat) (st := fun n => ([(1, .lit (.int .i64 (N : Int))), (2, .ref 0 0 0 0), (4, .ref 1 0 0 0), (10, .lit (.int .i64 ((N + 80 : Nat) : Int))), (11, .lit (.int .i64 (n : Int)))], [some (rwC x), some zbC]))
    (inv := fun n => n ≤ T) (m := fun n => T - n) 0 [some 0, some 1] rfl (by simp (disch := (first | omega | (simp only [lnA, List.length_map, List.length_range, true_and, and_true]; (try omega); done) | fail)) only [go_sem, Int.reduceEq, Int.reduceToNat, Nat.reduceAdd, Nat.reduceMul, Nat.reduceEqDiff, ↓reduceIte, true_and, and_true, and_self, List.drop_zero, List.take_length, Nat.le_refl, V.lit.injEq, Value.int.injEq, Value.bool.injEq]; try (first | omega | (simp; done) | (simp; omega))) (by simp (disch := (first | omega | (simp only [lnA, List.length_map, List.length_range, true_and, and_true]; (try omega); done) | fail)) only [go_sem, Int.reduceEq, Int.reduceToNat, Nat.reduceAdd, Nat.reduceMul, Nat.reduceEqDiff, ↓reduceIte, true_and, and_true, and_self, List.drop_zero, List.take_length, Nat.le_refl, V.lit.injEq, Value.int.injEq, Value.bool.injEq]; try (first | omega | (simp; done) | (simp; omega))) (Nat.zero_le _) ?_
  intro n hn
  obtain ⟨hh, mu, c4, hc4, cm4⟩ := key n hn
  by_cases hnT : n < T
  · rw [if_pos hnT] at hc4
    have e1 : (n : Int) + 1 = ((n + 1 : Nat) : Int) := by omega
    clear key sl1 sl2 sc pl ou su ad dv
    generalize x * hf n = y at *
    generalize hf n = hn' at *
    repeat (first | (refine callV0 (hh) rfl rfl ?_) | (refine callV0 (mu) rfl rfl ?_) | (refine callV0 (two) rfl rfl ?_) | (refine callV0 (cm4) rfl rfl ?_) | (simp (maxSteps := 1000000) (disch := (first | omega | (simp only [lnA, List.length_map, List.length_range, true_and, and_true]; (try omega); done) | fail)) only [go_sem, Int.reduceEq, Int.reduceToNat, Nat.reduceAdd, Nat.reduceMul, Nat.reduceEqDiff, ↓reduceIte]))
    refine nextW (n + 1) [some 0, some 1] (by omega) (by omega)
  · rw [if_neg hnT] at hc4
    obtain rfl : n = T := by omega
    clear key
    generalize x * hf n - w1 = y1 at *
    generalize x * hf n + w1 = y2 at *
    generalize x * hf n = y at *
    generalize hf n = hn' at *
    repeat (first | (refine callV0 (hh) rfl rfl ?_) | (refine callV0 (mu) rfl rfl ?_) | (refine callV0 (two) rfl rfl ?_) | (refine callV0 (cm4) rfl rfl ?_) | (refine callV0 (one) rfl rfl ?_) | (refine callV0 (su) rfl rfl ?_) | (refine callV0 (ad) rfl rfl ?_) | (refine callV0 (dv) rfl rfl ?_) | (refine callV0 (th) rfl rfl ?_) | (refine callV0 (sl1) rfl rfl ?_) | (refine callV0 (sl2) rfl rfl ?_) | (refine callV0 (tn) rfl rfl ?_) | (refine callV0 (sc) rfl rfl ?_) | (refine callV0 (pl) rfl rfl ?_) | (refine callV0 (ou) rfl rfl ?_) | (simp (maxSteps := 1000000) (disch := (first | omega | (simp only [lnA, List.length_map, List.length_range, true_and, and_true]; (try omega); done) | fail)) only [go_sem, hb, Int.reduceEq, Int.reduceToNat, Nat.reduceAdd, Nat.reduceMul, Nat.reduceEqDiff, ↓reduceIte]))
    exact endW [] hQ
set_option maxHeartbeats 4000000 in
theorem lnNeg_fn {x : Rat} {N : Nat} (hx : RS 15 x) (hN : 1 ≤ N) (hN2 : N ≤ 64) (h0 : x < 1) (h1 : hf 64 ≤ x) :
    ∃ L H, LnE N L H ∧ RS 80000 L ∧ RS 80000 H ∧ Fn1 Tryz.prog 8 [RV x, .lit (.int .i64 (N : Int))] [] (.tup [BV L H, .lit (.int .i64 0)]) [] := by
  have hp := hf_pos 64
  have hx0 : 0 < x := by grind
  have hne : x ≠ 0 := by grind
  have i1 : 1 ≤ 1 / x := by
    have := inv_le hx0 (Rat.le_of_lt h0)
    grind
  have i2 : 1 / x ≤ tw 64 := by
    have h := inv_le hp h1
    have e : 1 / hf 64 = tw 64 := by
      have := hf_tw 64
      generalize hf 64 = a at *
      generalize tw 64 = b at *
      grind
    rw [e] at h
    exact h
  obtain ⟨L, H, hE, r1, r2, ln⟩ := lnPos_fn (x := 1 / x) (N := N) ((RS_div (by decide) RS_one hx).mono (by decide)) hN hN2 i1 i2
  refine ⟨0 - H, 0 - L, hE.neg, (RS_sub RS_zero r2).mono (by decide), (RS_sub RS_zero r1).mono (by decide), ?_⟩
  have o1 := halfB_fn (N := 64) (by decide)
  have o2 := two_fn (N := 64) (by decide)
  rw [show ((64 : Nat) : Int) = 64 from rfl] at o1 o2
  obtain ⟨c, hc, cm⟩ := rcmp_ge (hx.mono (show 15 ≤ 400000 by decide)) ((RS_hf (N := 64) (by decide)).mono (show 129 ≤ 400000 by decide)) h1
  obtain ⟨c2, hc2, cm2⟩ := rcmp_le (hx.mono (show 15 ≤ 400000 by decide)) ((RS_tw (N := 64) (by decide)).mono (show 129 ≤ 400000 by decide)) (Rat.le_trans (Rat.le_of_lt h0) (by decide +kernel))
  obtain ⟨c3, hc3, cm3⟩ := rcmp_lt (hx.mono (show 15 ≤ 400000 by decide)) (RS_one.mono (show 1 ≤ 400000 by decide)) h0
  have one := rof1_fn
  have dv := rdiv_fn hne (RS_one.mono (show 1 ≤ 400000 by decide)) (hx.mono (show 15 ≤ 400000 by decide))
  have m1 := minusB_fn (r1.mono (show 70000 ≤ 400000 by decide))
  have m2 := minusB_fn (r2.mono (show 70000 ≤ 400000 by decide))
  clear hE r1 r2 i1 i2 hp hx0 hne h0 h1 hx
  generalize 1 / x = y at *
  generalize 0 - L = mL at *
  generalize 0 - H = mH at *
  generalize hf 64 = v1 at *
  generalize tw 64 = v2 at *
  generalize (1 : Rat) = w1 at *
  refine fn1N_of pl8 (by kernel_rfl) Tryz.call8 Tryz.func8 rfl (by kernel_rfl) rfl [.cell 4 41, .tmp 5] (by kernel_rfl) fun Q hQ => ?_
  repeat (first | (refine callV0 (o1) rfl rfl ?_) | (refine callV0 (cm) rfl rfl ?_) | (refine callV0 (o2) rfl rfl ?_) | (refine callV0 (cm2) rfl rfl ?_) | (refine callV0 (one) rfl rfl ?_) | (refine callV0 (cm3) rfl rfl ?_) | (refine callV0 (dv) rfl rfl ?_) | (refine callV0 (ln) rfl rfl ?_) | (refine callV0 (m1) rfl rfl ?_) | (refine callV0 (m2) rfl rfl ?_) | (simp (maxSteps := 1000000) (disch := (first | omega | (simp only [lnA, List.length_map, List.length_range, true_and, and_true]; (try omega); done) | fail)) only [go_sem, Int.reduceEq, Int.reduceToNat, Nat.reduceAdd, Nat.reduceMul, Nat.reduceEqDiff, ↓reduceIte]))
  exact endW [] hQ
theorem rpow264_fn : Fn1 Tryz.prog 9 [RV ((2 : Int) : Rat), .lit (.int .i64 64)] [] (.tup [RV (tw 64), .lit (.int .i64 0)]) [] := by
  obtain ⟨r, e, pw, -, k2, -⟩ := rpow_ex (x := ((2 : Int) : Rat)) (RS_two.mono (by decide)) (n := 64) (by decide) (by decide)
  obtain ⟨rfl, hr⟩ := k2 64 rfl (by decide)
  rw [hr, show ((2 : Int) : Rat) ^ 64 = tw 64 by decide +kernel] at pw
  exact pw
theorem qS_0 : qS 0 = [48] := qS_48.2 rfl
set_option maxHeartbeats 16000000 in
theorem boundsErrors_fn {P0 Q0 : List Nat} {b : Bool} {bits : Int} (hP0 : ∀ d ∈ P0, d < 18446744073709551616) (lP : P0.length ≤ 9223372036854775807) (hQ0 : ∀ d ∈ Q0, d < 18446744073709551616) (lQ : Q0.length ≤ 9223372036854775807)
    (n0 : -9223372036854775808 ≤ bits) (n1 : bits ≤ 9223372036854775807) :
    Fn1 Tryz.prog 3 [.agg [.row 1 ((nl P0).map (ie .u64)), .row 1 ((nl Q0).map (ie .u64)), .lit (.bool b)], .lit (.int .i64 bits)] [] (.lit (.bool true)) [] := by
  obtain ⟨x, p, m, d, -, -, sx, -, -, -, fx⟩ := both7_of (b := b) hP0 lP hQ0 lQ
  have p2 := rof_fn (n := 2) (by decide) (by decide)
  have pw := rpow264_fn
  have hh := rhalf_fn (N := 64) (by decide)
  rw [show mkRat 1 (2 ^ 64) = hf 64 from rfl, show ((64 : Nat) : Int) = 64 from rfl] at hh
  have t0 := rtxt_fn (x := 0) (RS_zero.mono (by decide))
  rw [qS_0] at t0
  have g1 := RS_c (z := 64) (by decide)
  have g2 := RS_c (z := -64) (by decide)
  have o1 := rof_fn (n := 64) (by decide) (by decide)
  have o2 := rof_fn (n := -64) (by decide) (by decide)
  have sh := (RS_hf (N := 64) (by decide)).mono (show 129 ≤ 400000 by decide)
  have st := (RS_tw (N := 64) (by decide)).mono (show 129 ≤ 400000 by decide)
  have mx := sx.mono (show 2 ≤ 400000 by decide)
  have z0 : BV 0 0 = BV 0 0 := rfl
  by_cases hw : bits < 1 ∨ 64 < bits
  · have ef := expFar_fn mx (bits := bits) (by rcases hw with h | h <;> simp [h])
    have lf := lnDeep_fn mx (bits := bits) (by rcases hw with h | h <;> simp [h])
    have hw1 : decide (bits < 1 ∨ 64 < bits) = true := decide_eq_true hw
    generalize (0 : Rat) = zer at *
    generalize ((64 : Int) : Rat) = r1 at *
    generalize ((-64 : Int) : Rat) = r2 at *
    generalize hf 64 = v1 at *
    generalize tw 64 = v2 at *
    generalize ((2 : Int) : Rat) = w2 at *
    by_cases h1 : bits < 1
    · refine fn1N_of pl3 (by kernel_rfl) Tryz.call3 Tryz.func3 rfl (by kernel_rfl) rfl [.tmp 4] (by kernel_rfl) fun Q hQ => ?_
      repeat (first | (refine callV0 (awake28_fn) rfl rfl ?_) | (refine callV0 (fx) rfl rfl ?_) | (refine callV0 (ef) rfl rfl ?_) | (refine callV0 (lf) rfl rfl ?_) | (refine callV0 (p2) rfl rfl ?_) | (refine callV0 (pw) rfl rfl ?_) | (refine callV0 (hh) rfl rfl ?_) | (refine callV0 (t0) rfl rfl ?_) | (simp (maxSteps := 1000000) (disch := (first | omega | (simp only [lnA, List.length_map, List.length_range, true_and, and_true]; (try omega); done) | fail)) only [go_sem, eq_self, decide_true, decide_false, List.append_eq, List.cons_append, List.nil_append, Int.reduceEq, Int.reduceToNat, Nat.reduceAdd, Nat.reduceMul, Nat.reduceEqDiff, ↓reduceIte]))
      exact endW [] hQ
    · refine fn1N_of pl3 (by kernel_rfl) Tryz.call3 Tryz.func3 rfl (by kernel_rfl) rfl [.tmp 4] (by kernel_rfl) fun Q hQ => ?_
      repeat (first | (refine callV0 (awake28_fn) rfl rfl ?_) | (refine callV0 (fx) rfl rfl ?_) | (refine callV0 (ef) rfl rfl ?_) | (refine callV0 (lf) rfl rfl ?_) | (refine callV0 (p2) rfl rfl ?_) | (refine callV0 (pw) rfl rfl ?_) | (refine callV0 (hh) rfl rfl ?_) | (refine callV0 (t0) rfl rfl ?_) | (simp (maxSteps := 1000000) (disch := (first | omega | (simp only [lnA, List.length_map, List.length_range, true_and, and_true]; (try omega); done) | fail)) only [go_sem, eq_self, decide_true, decide_false, List.append_eq, List.cons_append, List.nil_append, Int.reduceEq, Int.reduceToNat, Nat.reduceAdd, Nat.reduceMul, Nat.reduceEqDiff, ↓reduceIte]))
      exact endW [] hQ
  obtain ⟨N, rfl⟩ := Int.eq_ofNat_of_zero_le (show 0 ≤ bits by omega)
  have hN : 1 ≤ N := by omega
  have hN2 : N ≤ 64 := by omega
  -- what Exp comes to
  have eX : ∃ (L H : Rat) (e : Int) (c1 c2 : Int), Fn1 Tryz.prog 7 [RV x, .lit (.int .i64 (N : Int))] [] (.tup [BV L H, .lit (.int .i64 e)]) [] ∧
      Fn1 Tryz.prog 12 [RV x, RV ((64 : Int) : Rat)] [] (.lit (.int .i64 c1)) [] ∧ Fn1 Tryz.prog 12 [RV x, RV ((-64 : Int) : Rat)] [] (.lit (.int .i64 c2)) [] ∧
      ((e = 2 ∧ H = 0 ∧ (0 < c1 ∨ c2 < 0)) ∨ (e = 0 ∧ c1 ≤ 0 ∧ 0 ≤ c2 ∧ Fn1 Tryz.prog 14 [BV L H, .lit (.int .i64 (N : Int)), .lit (.bool true)] [] (.lit (.bool true)) [])) := by
    refine (?_ : ∃ (L H : Rat) (e : Int), Fn1 Tryz.prog 7 [RV x, .lit (.int .i64 (N : Int))] [] (.tup [BV L H, .lit (.int .i64 e)]) [] ∧
      ((e = 2 ∧ H = 0 ∧ (((64 : Int) : Rat) < x ∨ x < ((-64 : Int) : Rat))) ∨ (e = 0 ∧ ¬ ((64 : Int) : Rat) < x ∧ ¬ x < ((-64 : Int) : Rat) ∧ Fn1 Tryz.prog 14 [BV L H, .lit (.int .i64 (N : Int)), .lit (.bool true)] [] (.lit (.bool true)) []))).elim ?_
    · by_cases hf1 : ((64 : Int) : Rat) < x ∨ x < ((-64 : Int) : Rat)
      · exact ⟨0, 0, 2, expFar_fn mx (.inr (.inr hf1)), .inl ⟨rfl, rfl, hf1⟩⟩
      · have a1 : ¬ ((64 : Int) : Rat) < x := fun h => hf1 (.inl h)
        have a2 : ¬ x < ((-64 : Int) : Rat) := fun h => hf1 (.inr h)
        by_cases hneg : x < 0
        · obtain ⟨L, H, hP, r1, r2, ex⟩ := expNeg_fn (N := N) (sx.mono (by decide)) hN hN2 hneg (Rat.not_lt.1 a2)
          have hR := hP.neg (A := N + 120) (B := N + 208) rfl rfl
          refine ⟨_, _, 0, ex, .inr ⟨rfl, a1, a2, ?_⟩⟩
          refine good28_fn hN2 ((RS_dn' (by omega) (RS_div (by decide) RS_one r2)).mono (by decide)) ((RS_up' (by omega) (RS_div (by decide) RS_one r1)).mono (by decide)) hR.le ?_
          have := hR.one
          rw [if_neg (fun h => Rat.not_lt.2 this h.2)]
          exact hR.wid
        · obtain ⟨L, H, hP, r1, r2, ex⟩ := expPos_fn (N := N) (sx.mono (by decide)) hN hN2 (Rat.not_lt.1 hneg) (Rat.not_lt.1 a1)
          refine ⟨_, _, 0, ex, .inr ⟨rfl, a1, a2, ?_⟩⟩
          refine good28_fn hN2 (r1.mono (by decide)) (r2.mono (by decide)) hP.le ?_
          have hwd := hP.width rfl
          have h3 := hP.one
          have h4 := hP.le
          split
          · exact hwd
          · rename_i h
            have : H = 1 := by
              have : ¬ 1 < H := fun e => h ⟨rfl, e⟩
              grind
            rw [this, Rat.mul_one] at hwd
            rw [this]
            exact hwd
    · rintro L ⟨H, e, ex, hc⟩
      refine ⟨L, H, e, cmpQ x ((64 : Int) : Rat), cmpQ x ((-64 : Int) : Rat), ex, rcmp_fn mx g1, rcmp_fn mx g2, ?_⟩
      rcases hc with ⟨h1, h2, h3⟩ | ⟨h1, h2, h3, h4⟩
      · refine .inl ⟨h1, h2, ?_⟩
        rcases h3 with h | h
        · exact .inl (cmpQ_pos.2 h)
        · exact .inr (cmpQ_neg.2 h)
      · exact .inr ⟨h1, Int.not_lt.1 fun e => h2 (cmpQ_pos.1 e), Int.not_lt.1 fun e => h3 (cmpQ_neg.1 e), h4⟩
  have lX : ∃ (L H : Rat) (e : Int) (c1 c2 : Int), Fn1 Tryz.prog 8 [RV x, .lit (.int .i64 (N : Int))] [] (.tup [BV L H, .lit (.int .i64 e)]) [] ∧
      Fn1 Tryz.prog 12 [RV x, RV (tw 64)] [] (.lit (.int .i64 c1)) [] ∧ Fn1 Tryz.prog 12 [RV x, RV (hf 64)] [] (.lit (.int .i64 c2)) [] ∧
      ((e = 2 ∧ H = 0 ∧ (0 < c1 ∨ c2 < 0)) ∨ (e = 0 ∧ c1 ≤ 0 ∧ 0 ≤ c2 ∧ Fn1 Tryz.prog 14 [BV L H, .lit (.int .i64 (N : Int)), .lit (.bool false)] [] (.lit (.bool true)) [])) := by
    by_cases hf1 : tw 64 < x ∨ x < hf 64
    · refine ⟨0, 0, 2, _, _, lnDeep_fn mx (.inr (.inr hf1)), rcmp_fn mx st, rcmp_fn mx sh, .inl ⟨rfl, rfl, ?_⟩⟩
      rcases hf1 with h | h
      · exact .inl (cmpQ_pos.2 h)
      · exact .inr (cmpQ_neg.2 h)
    · have a1 : ¬ tw 64 < x := fun h => hf1 (.inl h)
      have a2 : ¬ x < hf 64 := fun h => hf1 (.inr h)
      refine (?_ : ∃ (L H : Rat), LnE N L H ∧ RS 80000 L ∧ RS 80000 H ∧ Fn1 Tryz.prog 8 [RV x, .lit (.int .i64 (N : Int))] [] (.tup [BV L H, .lit (.int .i64 0)]) []).elim ?_
      · by_cases h1 : x < 1
        · exact lnNeg_fn (sx.mono (by decide)) hN hN2 h1 (Rat.not_lt.1 a2)
        · obtain ⟨L, H, a, b, c, d⟩ := lnPos_fn (sx.mono (by decide)) hN hN2 (Rat.not_lt.1 h1) (Rat.not_lt.1 a1)
          exact ⟨L, H, a, b.mono (by decide), c.mono (by decide), d⟩
      · rintro L ⟨H, hE, r1, r2, ln⟩
        refine ⟨L, H, 0, _, _, ln, rcmp_fn mx st, rcmp_fn mx sh, .inr ⟨rfl, Int.not_lt.1 fun e => a1 (cmpQ_pos.1 e), Int.not_lt.1 fun e => a2 (cmpQ_neg.1 e), ?_⟩⟩
        refine good28_fn hN2 (r1.mono (by decide)) (r2.mono (by decide)) hE.le ?_
        rw [if_neg (by simp)]
        exact hE.wid
  obtain ⟨L, H, e, c1, c2, ex, ca, cb, hc⟩ := eX
  obtain ⟨L', H', e', c1', c2', lx, ca', cb', hc'⟩ := lX
  clear mx g1 g2 sh st
  generalize ((64 : Int) : Rat) = r1 at *
  generalize ((-64 : Int) : Rat) = r2 at *
  generalize hf 64 = v1 at *
  generalize tw 64 = v2 at *
  generalize ((2 : Int) : Rat) = w2 at *
  rcases hc with ⟨rfl, rfl, hc⟩ | ⟨rfl, hc1, hc2, gd⟩
  all_goals rcases hc' with ⟨rfl, rfl, hc'⟩ | ⟨rfl, hc1', hc2', gd'⟩
  all_goals generalize (0 : Rat) = zer at *
  all_goals
    first
    | by_cases q1 : 0 < c1
    | skip
  all_goals
    first
    | by_cases q2 : 0 < c1'
    | skip
  all_goals first | (exfalso; omega) | skip
  all_goals
    refine fn1N_of pl3 (by kernel_rfl) Tryz.call3 Tryz.func3 rfl (by kernel_rfl) rfl [.tmp 4] (by kernel_rfl) fun Q hQ => ?_
    repeat (first | (refine callV0 (awake28_fn) rfl rfl ?_) | (refine callV0 (fx) rfl rfl ?_) | (refine callV0 (ex) rfl rfl ?_) | (refine callV0 (lx) rfl rfl ?_) | (refine callV0 (p2) rfl rfl ?_) | (refine callV0 (pw) rfl rfl ?_) | (refine callV0 (hh) rfl rfl ?_) | (refine callV0 (o1) rfl rfl ?_) | (refine callV0 (ca) rfl rfl ?_) | (refine callV0 (o2) rfl rfl ?_) | (refine callV0 (cb) rfl rfl ?_) | (refine callV0 (ca') rfl rfl ?_) | (refine callV0 (cb') rfl rfl ?_) | (refine callV0 (t0) rfl rfl ?_) | (refine callV0 (gd) rfl rfl ?_) | (refine callV0 (gd') rfl rfl ?_) | (simp (maxSteps := 1000000) (disch := (first | omega | (simp only [lnA, List.length_map, List.length_range, true_and, and_true]; (try omega); done) | fail)) only [go_sem, eq_self, decide_true, decide_false, List.append_eq, List.cons_append, List.nil_append, Int.reduceEq, Int.reduceToNat, Nat.reduceAdd, Nat.reduceMul, Nat.reduceEqDiff, ↓reduceIte]))
    exact endW [] hQ
end Go.Proofs.YtnfmpphlkalbfaaGreatDoor
