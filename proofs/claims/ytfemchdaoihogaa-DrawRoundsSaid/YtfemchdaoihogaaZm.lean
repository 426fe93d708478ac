import Derived.Test.YtfemchdaoihogaaZj
import Derived.Test.YtfemchdaoihogaaZk
import Derived.Test.YtfemchdaoihogaaTe
/-! DrawTakes. -/
namespace Go.Proofs.Ytfemchdaoihogaa
open Go.Eng Go.Vx
set_option linter.unusedSimpArgs false
set_option linter.unusedVariables false
set_option maxRecDepth 100000
theorem rndX_scale {L : List Bool} {a b g p : Nat} (hg : 0 < g) : rndX L (g * a) (g * b) p = rndX L a b p := by
  unfold rndX
  rw [Nat.mul_mod_mul_left, Nat.mul_div_mul_left _ _ hg, ratX_scale hg]
theorem rndX_frac {L : List Bool} {A B p : Nat} (hB : B ≠ 0) : rndX L (((A : Int) : Rat) / ((B : Int) : Rat)).num.natAbs (((A : Int) : Rat) / ((B : Int) : Rat)).den p = rndX L A B p := by
  have h := frac_eq (p := (A : Int)) (q := (B : Int)) (by omega)
  rw [decide_eq_false (show ¬ (A : Int) < 0 by omega), decide_eq_false (show ¬ (B : Int) < 0 by omega)] at h
  rw [← h, Int.natAbs_natCast, Int.natAbs_natCast]
  show rndX L (mkRat (A : Int) B).num.natAbs (mkRat (A : Int) B).den p = _
  rw [mkRat_numG hB, mkRat_denG hB, sg_abs, Int.natAbs_natCast]
  have hg : 0 < Nat.gcd A B := Nat.gcd_pos_of_pos_right _ (by omega)
  have h2 := rndX_scale (L := L) (a := A / Nat.gcd A B) (b := B / Nat.gcd A B) (p := p) hg
  rw [Nat.mul_div_cancel' (Nat.gcd_dvd_left A B), Nat.mul_div_cancel' (Nat.gcd_dvd_right A B)] at h2
  exact h2.symm
theorem frac_bounds {A B : Nat} (hB : B ≠ 0) (hA : A ≤ 1099511627776) : ¬ ((A : Int) : Rat) / ((B : Int) : Rat) < 0 ∧ ¬ ((1099511627776 : Int) : Rat) < ((A : Int) : Rat) / ((B : Int) : Rat) := by
  have hB' : (0 : Rat) < ((B : Int) : Rat) := Rat.intCast_pos.2 (by omega)
  constructor
  · rw [Rat.not_lt, ← Rat.num_nonneg]
    have := num_nonnegR (A := A) hB
    omega
  · rw [Rat.lt_div_iff hB', ← Rat.intCast_mul, Rat.intCast_lt_intCast]
    have := Nat.mul_le_mul_left 1099511627776 (show 1 ≤ B by omega)
    omega
theorem draws_frac {L : List Bool} {A B p : Nat} (hL : L.length ≤ 1048576) (hp : p ≤ L.length) (hB : B ≠ 0) (hB2 : B ≤ 1099511627776) (hA : A ≤ 1099511627776) : Fn1 Try.prog 27 [.ref 0 0 0 0, RV (((A : Int) : Rat) / ((B : Int) : Rat))] [some (tpC L p false)]
    (.tup [.lit (.int .i64 ((rndN L A B p).1 : Int)), .lit (.int .i64 (rndN L A B p).2.1)]) [some (tpC L (rndN L A B p).2.2.1 (rndN L A B p).2.2.2)] := by
  obtain ⟨b1, b2⟩ := frac_bounds hB hA
  have hs : RS (1 + 1) (((A : Int) : Rat) / ((B : Int) : Rat)) := RS_div (by decide) (RS_one (by omega) (by omega)) (RS_one (by omega) (by omega))
  have h := dround_fn (L := L) (p := p) hL hp (hs.mono (by decide)) b1 b2
  rw [rndX_frac hB, rndX_N] at h
  exact h
set_option maxHeartbeats 4000000 in
theorem drawTakes_fn {L0 : List Bool} {KS : List Int} {a b c : Int} (hL0 : L0.length ≤ 9223372036854775807) (hKS : KS.length ≤ 9223372036854775807) (a0 : -9223372036854775808 ≤ a) (a1 : a ≤ 9223372036854775807) : Fn1 Try.prog 5 [.row 1 (L0.map be), .agg [.lit (.int .i64 a), .lit (.int .i64 b), .lit (.int .i64 c)], .row 1 (KS.map (ie .i64))] [] (.lit (.bool true)) [] := by
  obtain ⟨n, hn⟩ : ∃ m : Nat, max 0 a = (m : Int) := ⟨(max 0 a).toNat, by omega⟩
  obtain ⟨D, hD⟩ : ∃ m : Nat, 1 + c % 256 = (m : Int) := ⟨(1 + c % 256).toNat, by omega⟩
  obtain ⟨P, hP⟩ : ∃ m : Nat, a % 4096 = (m : Int) := ⟨(a % 4096).toNat, by omega⟩
  obtain ⟨Y, hY⟩ : ∃ m : Nat, max 0 (min b 200) = (m : Int) := ⟨(max 0 (min b 200)).toNat, by omega⟩
  have hD0 : D ≠ 0 := by omega
  have hD2 : D ≤ 256 := by omega
  have hP2 : P < 4096 := by omega
  have hY2 : Y ≤ 200 := by omega
  have hn2 : n ≤ 9223372036854775807 := by omega
  have hy200 : min b 200 ≤ 200 := by omega
  generalize hyy : min b 200 = y at *
  refine fn1_of pl5 (by kernel_rfl) Try.call5 Try.func5 rfl (by kernel_rfl) rfl [.tmp 6] (by kernel_rfl) fun Q hQ => ?_
  simp (maxSteps := 1000000) (disch := (first | omega | (simp only [lnA, List.length_map, List.length_range, true_and, and_true]; (try omega); done) | fail)) only [go_sem, Int.reduceEq, Int.reduceToNat, Nat.reduceAdd, Nat.reduceMul, Nat.reduceEqDiff, ↓reduceIte]
  refine callV0 (awake11_fn) rfl rfl ?_
  simp (maxSteps := 1000000) (disch := (first | omega | (simp only [lnA, List.length_map, List.length_range, true_and, and_true]; (try omega); done) | fail)) only [go_sem, Int.reduceEq, Int.reduceToNat, Nat.reduceAdd, Nat.reduceMul, Nat.reduceEqDiff, ↓reduceIte]
  refine callV0 (few9_fn (n := 300) hL0 (by decide)) rfl rfl ?_
  have hL : (L0.take 300).length ≤ 300 := by simp; omega
  generalize L0.take 300 = L at *
  simp (maxSteps := 1000000) (disch := (first | omega | (simp only [lnA, List.length_map, List.length_range, true_and, and_true]; (try omega); done) | fail)) only [go_sem, Int.reduceEq, Int.reduceToNat, Nat.reduceAdd, Nat.reduceMul, Nat.reduceEqDiff, ↓reduceIte]
  refine callW [] [] (newT_fn (L := L) (by omega)) ?_
  simp (maxSteps := 1000000) (disch := (first | omega | (simp only [lnA, List.length_map, List.length_range, true_and, and_true]; (try omega); done) | fail)) only [go_sem, hn, hD, hP, hyy, Int.reduceEq, Int.reduceToNat, Nat.reduceAdd, Nat.reduceMul, Nat.reduceEqDiff, ↓reduceIte]
  refine LoopV_of (X := Nat × Nat) (st := fun z => ([(0, .row 1 (L.map be)), (2, .row 1 (KS.map (ie .i64))), (7, .ref 1 0 0 0), (8, .lit (.int .u64 (n : Int))), (9, .lit (.int .i64 y)), (10, .lit (.int .i64 (D : Int))), (11, .lit (.int .i64 (P : Int))), (12, .lit (.int .i64 (z.1 : Int)))], [some (.cells [.lit (.int .i64 a), .lit (.int .i64 b), .lit (.int .i64 c)]), some (tpC L z.2 false)]))
    (inv := fun z => z.1 ≤ 30 ∧ z.2 ≤ L.length) (m := fun z => 30 - z.1) (0, 0) [some 0, some 1] rfl (by simp (disch := (first | omega | (simp only [lnA, List.length_map, List.length_range, true_and, and_true]; (try omega); done) | fail)) only [go_sem, Int.reduceEq, Int.reduceToNat, Nat.reduceAdd, Nat.reduceMul, Nat.reduceEqDiff, ↓reduceIte, true_and, and_true, and_self, List.drop_zero, List.take_length, Nat.le_refl, V.lit.injEq, Value.int.injEq, Value.bool.injEq]; try (first | omega | (simp; done) | (simp; omega))) (by simp (disch := (first | omega | (simp only [lnA, List.length_map, List.length_range, true_and, and_true]; (try omega); done) | fail)) only [go_sem, Int.reduceEq, Int.reduceToNat, Nat.reduceAdd, Nat.reduceMul, Nat.reduceEqDiff, ↓reduceIte, true_and, and_true, and_self, List.drop_zero, List.take_length, Nat.le_refl, V.lit.injEq, Value.int.injEq, Value.bool.injEq]; try (first | omega | (simp; done) | (simp; omega))) ⟨by simp, by simp⟩ ?_
  rintro ⟨i, p⟩ ⟨hi, hp⟩
  simp only at hi hp ⊢
  by_cases h1 : i < KS.length
  · by_cases h2 : i < 30
    · have hx0 := Int.lt_tmod_of_pos (KS.getD i 0) (show (0 : Int) < 3 by decide)
      have hx1 := Int.tmod_lt_of_pos (KS.getD i 0) (show (0 : Int) < 3 by decide)
      simp (maxSteps := 1000000) (disch := (first | omega | (simp only [lnA, List.length_map, List.length_range, true_and, and_true]; (try omega); done) | fail)) only [go_sem, Int.reduceEq, Int.reduceToNat, Nat.reduceAdd, Nat.reduceMul, Nat.reduceEqDiff, ↓reduceIte]
      refine callT (readT_fn (L := L) (p := p) (d := false)) ?_
      simp (maxSteps := 1000000) (disch := (first | omega | (simp only [lnA, List.length_map, List.length_range, true_and, and_true]; (try omega); done) | fail)) only [go_sem, Int.reduceEq, Int.reduceToNat, Nat.reduceAdd, Nat.reduceMul, Nat.reduceEqDiff, ↓reduceIte]
      have hxb : 0 ≤ ((KS.getD i 0).tmod 3 + 3) % 3 ∧ ((KS.getD i 0).tmod 3 + 3) % 3 < 3 := by omega
      generalize ((KS.getD i 0).tmod 3 + 3) % 3 = x at *
      by_cases x0 : x = 0
      · have hcase : ∃ R : Nat × Int × Nat × Bool, okN L p R ∧ R.1 < 18446744073709551616 ∧ Fn1 Try.prog 29 [.ref 0 0 0 0, .lit (.int .u64 (n : Int))] [some (tpC L p false)] (.tup [.lit (.int .u64 (R.1 : Int)), .lit (.int .i64 R.2.1)]) [some (tpC L R.2.2.1 R.2.2.2)] ∧ Fn1 Try.prog 30 [.row 1 (L.map be), .lit (.int .i64 (p : Int)), .lit (.int .u64 (n : Int))] [] (outV R.1 (R.2.2.1 - p) R.2.1) [] := by
          by_cases hn0 : n = 0
          · subst hn0
            refine ⟨(0, 2, p, false), .inr ⟨_, _, _, rfl, by decide, Nat.le_refl _, hp⟩, by simp only; omega, below0_fn, ?_⟩
            simp only [Nat.sub_self]
            exact refBelow0_fn
          · refine ⟨belowX L n p, okN_below (by omega) hp, ?_, below_fn (by omega) hp (by omega) (by omega), refBelow_fn (by omega) hp (by omega) (by omega)⟩
            rcases belowX_cases (L := L) (p := p) (show 0 < n by omega) with e | ⟨v, q, hv, e⟩
            · rw [e]; simp only; omega
            · rw [e]; simp only; omega
        obtain ⟨R, hok, hb, hh, hr⟩ := hcase
        simp (maxSteps := 1000000) (disch := (first | omega | (simp only [lnA, List.length_map, List.length_range, true_and, and_true]; (try omega); done) | fail)) only [go_sem, Int.reduceEq, Int.reduceToNat, Nat.reduceAdd, Nat.reduceMul, Nat.reduceEqDiff, ↓reduceIte]
        refine callW [some 1] [] (hh) ?_
        simp (maxSteps := 1000000) (disch := (first | omega | (simp only [lnA, List.length_map, List.length_range, true_and, and_true]; (try omega); done) | fail)) only [go_sem, Int.reduceEq, Int.reduceToNat, Nat.reduceAdd, Nat.reduceMul, Nat.reduceEqDiff, ↓reduceIte]
        refine callV0 (hr) rfl rfl ?_
        rcases hok with e | ⟨rn, re, q, e1, e2, e3, e4⟩
        · subst e
          have hsum : (p : Int) + ((L.length - p : Nat) : Int) = (L.length : Int) := by omega
          simp (maxSteps := 1000000) (disch := (first | omega | (simp only [lnA, List.length_map, List.length_range, true_and, and_true]; (try omega); done) | fail)) only [go_sem, decide_true, bne_self_eq_false, Int.reduceEq, Int.reduceToNat, Nat.reduceAdd, Nat.reduceMul, Nat.reduceEqDiff, ↓reduceIte]
          refine callT (readT_fn (L := L) (p := L.length) (d := true)) ?_
          simp (maxSteps := 1000000) (disch := (first | omega | (simp only [lnA, List.length_map, List.length_range, true_and, and_true]; (try omega); done) | fail)) only [go_sem, hsum, decide_true, bne_self_eq_false, Int.reduceEq, Int.reduceToNat, Nat.reduceAdd, Nat.reduceMul, Nat.reduceEqDiff, ↓reduceIte]
          refine callT (deadT_fn (L := L) (p := L.length) (d := true)) ?_
          simp (maxSteps := 1000000) (disch := (first | omega | (simp only [lnA, List.length_map, List.length_range, true_and, and_true]; (try omega); done) | fail)) only [go_sem, decide_true, bne_self_eq_false, Int.reduceEq, Int.reduceToNat, Nat.reduceAdd, Nat.reduceMul, Nat.reduceEqDiff, ↓reduceIte]
          exact endW [] hQ
        · subst e1
          have hsum : (p : Int) + ((q - p : Nat) : Int) = (q : Int) := by omega
          simp (maxSteps := 1000000) (disch := (first | omega | (simp only [lnA, List.length_map, List.length_range, true_and, and_true]; (try omega); done) | fail)) only [go_sem, decide_true, bne_self_eq_false, Int.reduceEq, Int.reduceToNat, Nat.reduceAdd, Nat.reduceMul, Nat.reduceEqDiff, ↓reduceIte]
          refine callT (readT_fn (L := L) (p := q) (d := false)) ?_
          simp (maxSteps := 1000000) (disch := (first | omega | (simp only [lnA, List.length_map, List.length_range, true_and, and_true]; (try omega); done) | fail)) only [go_sem, hsum, decide_true, bne_self_eq_false, Int.reduceEq, Int.reduceToNat, Nat.reduceAdd, Nat.reduceMul, Nat.reduceEqDiff, ↓reduceIte]
          refine callT (deadT_fn (L := L) (p := q) (d := false)) ?_
          simp (maxSteps := 1000000) (disch := (first | omega | (simp only [lnA, List.length_map, List.length_range, true_and, and_true]; (try omega); done) | fail)) only [go_sem, decide_eq_false e2, bne_self_eq_false, Int.reduceEq, Int.reduceToNat, Nat.reduceAdd, Nat.reduceMul, Nat.reduceEqDiff, ↓reduceIte]
          refine nextW (i + 1, q) [some 0, some 1] ⟨by simp only; omega, e4⟩ (by simp only; omega)
      · by_cases x1 : x = 1
        · have hh := binom_fn (L := L) (p := p) (Y := Y) (y := y) (by omega) hp hY (by omega)
          have hr := refBinom_fn (L := L) (p := p) (Y := Y) (y := y) (by omega) hp hY (by omega)
          have hok := okN_bin (L := L) (Y := Y) hp
          have hb : (binX L Y p).1 ≤ 1048576 := by
            unfold binX
            split
            · have := cT_le ((L.drop p).take Y)
              rw [List.length_take, List.length_drop] at this
              simp only; omega
            · exact Nat.zero_le _
          generalize binX L Y p = R at *
          simp (maxSteps := 1000000) (disch := (first | omega | (simp only [lnA, List.length_map, List.length_range, true_and, and_true]; (try omega); done) | fail)) only [go_sem, Int.reduceEq, Int.reduceToNat, Nat.reduceAdd, Nat.reduceMul, Nat.reduceEqDiff, ↓reduceIte]
          refine callW [some 1] [] (hh) ?_
          simp (maxSteps := 1000000) (disch := (first | omega | (simp only [lnA, List.length_map, List.length_range, true_and, and_true]; (try omega); done) | fail)) only [go_sem, Int.reduceEq, Int.reduceToNat, Nat.reduceAdd, Nat.reduceMul, Nat.reduceEqDiff, ↓reduceIte]
          refine callV0 (hr) rfl rfl ?_
          rcases hok with e | ⟨rn, re, q, e1, e2, e3, e4⟩
          · subst e
            have hsum : (p : Int) + ((L.length - p : Nat) : Int) = (L.length : Int) := by omega
            simp (maxSteps := 1000000) (disch := (first | omega | (simp only [lnA, List.length_map, List.length_range, true_and, and_true]; (try omega); done) | fail)) only [go_sem, decide_true, bne_self_eq_false, Int.reduceEq, Int.reduceToNat, Nat.reduceAdd, Nat.reduceMul, Nat.reduceEqDiff, ↓reduceIte]
            refine callT (readT_fn (L := L) (p := L.length) (d := true)) ?_
            simp (maxSteps := 1000000) (disch := (first | omega | (simp only [lnA, List.length_map, List.length_range, true_and, and_true]; (try omega); done) | fail)) only [go_sem, hsum, decide_true, bne_self_eq_false, Int.reduceEq, Int.reduceToNat, Nat.reduceAdd, Nat.reduceMul, Nat.reduceEqDiff, ↓reduceIte]
            refine callT (deadT_fn (L := L) (p := L.length) (d := true)) ?_
            simp (maxSteps := 1000000) (disch := (first | omega | (simp only [lnA, List.length_map, List.length_range, true_and, and_true]; (try omega); done) | fail)) only [go_sem, decide_true, bne_self_eq_false, Int.reduceEq, Int.reduceToNat, Nat.reduceAdd, Nat.reduceMul, Nat.reduceEqDiff, ↓reduceIte]
            exact endW [] hQ
          · subst e1
            have hsum : (p : Int) + ((q - p : Nat) : Int) = (q : Int) := by omega
            simp (maxSteps := 1000000) (disch := (first | omega | (simp only [lnA, List.length_map, List.length_range, true_and, and_true]; (try omega); done) | fail)) only [go_sem, decide_true, bne_self_eq_false, Int.reduceEq, Int.reduceToNat, Nat.reduceAdd, Nat.reduceMul, Nat.reduceEqDiff, ↓reduceIte]
            refine callT (readT_fn (L := L) (p := q) (d := false)) ?_
            simp (maxSteps := 1000000) (disch := (first | omega | (simp only [lnA, List.length_map, List.length_range, true_and, and_true]; (try omega); done) | fail)) only [go_sem, hsum, decide_true, bne_self_eq_false, Int.reduceEq, Int.reduceToNat, Nat.reduceAdd, Nat.reduceMul, Nat.reduceEqDiff, ↓reduceIte]
            refine callT (deadT_fn (L := L) (p := q) (d := false)) ?_
            simp (maxSteps := 1000000) (disch := (first | omega | (simp only [lnA, List.length_map, List.length_range, true_and, and_true]; (try omega); done) | fail)) only [go_sem, decide_eq_false e2, bne_self_eq_false, Int.reduceEq, Int.reduceToNat, Nat.reduceAdd, Nat.reduceMul, Nat.reduceEqDiff, ↓reduceIte]
            refine nextW (i + 1, q) [some 0, some 1] ⟨by simp only; omega, e4⟩ (by simp only; omega)
        · obtain rfl : x = 2 := by omega
          have hmk := rmake_fn (p := (P : Int)) (q := (D : Int)) (by omega) (by omega) (by omega) (by omega) (by omega)
          have hh := draws_frac (L := L) (A := P) (B := D) (p := p) (by omega) hp hD0 (by omega) (by omega)
          have hr := refRound_fn (L := L) (p := p) (P := P) (D := D) hD0 (by omega) (by omega) hp (by omega)
          have hok := okN_rnd (L := L) (P := P) (D := D) hp
          have hb : (rndN L P D p).1 ≤ 1048576 := by
            have := Nat.div_le_self P D
            unfold rndN
            split
            · split <;> (simp only; omega)
            · exact Nat.zero_le _
          generalize rndN L P D p = R at *
          generalize ((P : Int) : Rat) / ((D : Int) : Rat) = X at *
          simp (maxSteps := 1000000) (disch := (first | omega | (simp only [lnA, List.length_map, List.length_range, true_and, and_true]; (try omega); done) | fail)) only [go_sem, Int.reduceEq, Int.reduceToNat, Nat.reduceAdd, Nat.reduceMul, Nat.reduceEqDiff, ↓reduceIte]
          refine callV0 (hmk) rfl rfl ?_
          simp (maxSteps := 1000000) (disch := (first | omega | (simp only [lnA, List.length_map, List.length_range, true_and, and_true]; (try omega); done) | fail)) only [go_sem, Int.reduceEq, Int.reduceToNat, Nat.reduceAdd, Nat.reduceMul, Nat.reduceEqDiff, ↓reduceIte]
          refine callW [some 1] [] (hh) ?_
          simp (maxSteps := 1000000) (disch := (first | omega | (simp only [lnA, List.length_map, List.length_range, true_and, and_true]; (try omega); done) | fail)) only [go_sem, Int.reduceEq, Int.reduceToNat, Nat.reduceAdd, Nat.reduceMul, Nat.reduceEqDiff, ↓reduceIte]
          refine callV0 (hr) rfl rfl ?_
          rcases hok with e | ⟨rn, re, q, e1, e2, e3, e4⟩
          · subst e
            have hsum : (p : Int) + ((L.length - p : Nat) : Int) = (L.length : Int) := by omega
            simp (maxSteps := 1000000) (disch := (first | omega | (simp only [lnA, List.length_map, List.length_range, true_and, and_true]; (try omega); done) | fail)) only [go_sem, decide_true, bne_self_eq_false, Int.reduceEq, Int.reduceToNat, Nat.reduceAdd, Nat.reduceMul, Nat.reduceEqDiff, ↓reduceIte]
            refine callT (readT_fn (L := L) (p := L.length) (d := true)) ?_
            simp (maxSteps := 1000000) (disch := (first | omega | (simp only [lnA, List.length_map, List.length_range, true_and, and_true]; (try omega); done) | fail)) only [go_sem, hsum, decide_true, bne_self_eq_false, Int.reduceEq, Int.reduceToNat, Nat.reduceAdd, Nat.reduceMul, Nat.reduceEqDiff, ↓reduceIte]
            refine callT (deadT_fn (L := L) (p := L.length) (d := true)) ?_
            simp (maxSteps := 1000000) (disch := (first | omega | (simp only [lnA, List.length_map, List.length_range, true_and, and_true]; (try omega); done) | fail)) only [go_sem, decide_true, bne_self_eq_false, Int.reduceEq, Int.reduceToNat, Nat.reduceAdd, Nat.reduceMul, Nat.reduceEqDiff, ↓reduceIte]
            exact endW [] hQ
          · subst e1
            have hsum : (p : Int) + ((q - p : Nat) : Int) = (q : Int) := by omega
            simp (maxSteps := 1000000) (disch := (first | omega | (simp only [lnA, List.length_map, List.length_range, true_and, and_true]; (try omega); done) | fail)) only [go_sem, decide_true, bne_self_eq_false, Int.reduceEq, Int.reduceToNat, Nat.reduceAdd, Nat.reduceMul, Nat.reduceEqDiff, ↓reduceIte]
            refine callT (readT_fn (L := L) (p := q) (d := false)) ?_
            simp (maxSteps := 1000000) (disch := (first | omega | (simp only [lnA, List.length_map, List.length_range, true_and, and_true]; (try omega); done) | fail)) only [go_sem, hsum, decide_true, bne_self_eq_false, Int.reduceEq, Int.reduceToNat, Nat.reduceAdd, Nat.reduceMul, Nat.reduceEqDiff, ↓reduceIte]
            refine callT (deadT_fn (L := L) (p := q) (d := false)) ?_
            simp (maxSteps := 1000000) (disch := (first | omega | (simp only [lnA, List.length_map, List.length_range, true_and, and_true]; (try omega); done) | fail)) only [go_sem, decide_eq_false e2, bne_self_eq_false, Int.reduceEq, Int.reduceToNat, Nat.reduceAdd, Nat.reduceMul, Nat.reduceEqDiff, ↓reduceIte]
            refine nextW (i + 1, q) [some 0, some 1] ⟨by simp only; omega, e4⟩ (by simp only; omega)
    · simp (maxSteps := 1000000) (disch := (first | omega | (simp only [lnA, List.length_map, List.length_range, true_and, and_true]; (try omega); done) | fail)) only [go_sem, Int.reduceEq, Int.reduceToNat, Nat.reduceAdd, Nat.reduceMul, Nat.reduceEqDiff, ↓reduceIte]
      exact endW [] hQ
  · simp (maxSteps := 1000000) (disch := (first | omega | (simp only [lnA, List.length_map, List.length_range, true_and, and_true]; (try omega); done) | fail)) only [go_sem, Int.reduceEq, Int.reduceToNat, Nat.reduceAdd, Nat.reduceMul, Nat.reduceEqDiff, ↓reduceIte]
    exact endW [] hQ
end Go.Proofs.Ytfemchdaoihogaa
