import Derived.Test.YtdohmppildfjhaaGreatDoorGa
namespace Go.Proofs.YtdohmppildfjhaaGreatDoor
open Go.Eng Go.Vx
set_option linter.unusedSimpArgs false
set_option linter.unusedVariables false
set_option maxRecDepth 100000
theorem RS_hf2 {N k : Nat} (hk : 1 ≤ k) (hN : N + 1 ≤ 64 * k) : RS k (hf N) := by
 have hb := bl_two (N := N) (K := N + 1) (by omega)
 exact RS_mk (Nat.ne_of_gt (Nat.pow_pos (by decide))) (Nat.le_trans (wg_one (by decide)) hk) (wg_bl (by omega))
theorem sby_eq (j : Nat) : ((2 : Int) : Rat) / ((2 * j + 1 : Nat) : Int) = sby j := rfl
theorem bwC0 : bwC 0 0 = .cells [.row 1 [], .lit (.bool false), .row 1 [], .row 1 [], .lit (.bool false), .row 1 []] := by
 unfold bwC
 rw [show (0 : Rat).num = 0 from rfl, show (0 : Rat).den = 1 from rfl, show (0 : Int).natAbs = 0 from rfl, Nat.sub_self, wg_zero]
 rfl
set_option maxHeartbeats 8000000 in
theorem slope_fn {x : Rat} {b : Nat} (hx : RS 200 x) (h0 : 0 ≤ x) (h1 : x ≤ 1 / 2) (hb : 8 ≤ b) (hb2 : b ≤ 150) :
  Fn1 Tryz.prog 57 [RV x, .lit (.int .i64 (b : Int))] [] (BV (sloX x b).1 (sloX x b).2) [] ∧ RS 33000 (sloX x b).1 ∧ RS 33000 (sloX x b).2 := by
 have hh := halfB_fn (N := b - 8) (by omega)
 have sh8 := RS_hf (N := b - 8) (by omega)
 have hb8 : (b : Int) - 8 = ((b - 8 : Nat) : Int) := by omega
 have hB : max 0 (min (b : Int) 512) = (b : Int) := by omega
 have o4 := rof_fn (n := 4) (by decide) (by decide)
 have s4 : RS 1 ((4 : Int) : Rat) := RS_small (by decide)
 rw [show ((4 : Int) : Rat) = 4 from rfl] at o4 s4
 obtain ⟨q0, q1⟩ := sq_quarter h0 h1
 have ms := rmul_fn (hx.mono (show 200 ≤ 400000 by decide)) (hx.mono (show 200 ≤ 400000 by decide))
 have sq : RS 400 (x * x) := RS_mul hx hx
 have key : ∀ f j s, j + f = b → 0 < f → SloI b j s.1 s.2.1 s.2.2.1 s.2.2.2 → RS 200 s.1 → RS 200 s.2.1 → RS (212 * j + 2) s.2.2.1 → RS (212 * j + 2) s.2.2.2 →
   RS 200 (sloN (x * x) b j s).1 ∧ RS 200 (sloN (x * x) b j s).2.1 ∧ RS (212 * (j + 1) + 2) (sloN (x * x) b j s).2.2.1 ∧ RS (212 * (j + 1) + 2) (sloN (x * x) b j s).2.2.2 := by
  intro f j s hj _ h r1 r2 r3 r4
  have hp := hf_pos b
  have ha := hf_anti (show 0 ≤ j by omega)
  have hbb := hf_anti (show 0 ≤ b by omega)
  rw [hf_zero] at ha hbb
  have t4 := h.t4
  have t0 := h.t0
  have t3 := h.t1
  have g0 : 0 ≤ s.1 * (x * x) := Rat.mul_nonneg t0 q0
  have g1 : s.1 * (x * x) ≤ 3 * (1 / 4) := mul_le_mul' (by grind) q1 q0 (by decide +kernel)
  have g2 : 0 ≤ s.2.1 * (x * x) := Rat.mul_nonneg (by grind) q0
  have g3 : s.2.1 * (x * x) ≤ 3 * (1 / 4) := mul_le_mul' (by grind) q1 q0 (by decide +kernel)
  have k1 : RS 7 (sloN (x * x) b j s).1 := RS_dnN g0 (tw128 _ (by grind)) (by omega)
  have k2 : RS 7 (sloN (x * x) b j s).2.1 := RS_upN g2 (tw128 _ (by grind)) (by omega)
  have e1 : RS 1 ((2 : Int) : Rat) := RS_small (by decide)
  have e2 : RS 1 (((2 * j + 1 : Nat) : Int) : Rat) := RS_small (by omega)
  have sb : RS 2 (sby j) := RS_div (by decide) e1 e2
  exact ⟨k1.mono (by decide), k2.mono (by decide), (RS_add r3 (RS_mul r1 sb)).mono (by omega), (RS_add r4 (RS_mul r2 sb)).mono (by omega)⟩
 have hRS : RS 33000 (sloX x b).1 ∧ RS 33000 (sloX x b).2 := by
  have gen : ∀ f j s, j + f = b → 0 < f → SloI b j s.1 s.2.1 s.2.2.1 s.2.2.2 → RS 200 s.1 → RS 200 s.2.1 → RS (212 * j + 2) s.2.2.1 → RS (212 * j + 2) s.2.2.2 → RS 33000 (sloM (x * x) b f j s).1 ∧ RS 33000 (sloM (x * x) b f j s).2 := by
   intro f
   induction f with
   | zero => intro n s _ h; omega
   | succ f ih =>
    intro j s hj hf' h r1 r2 r3 r4
    have h2 := h.next q0 q1
    obtain ⟨k1, k2, k3, k4⟩ := key (f + 1) j s hj hf' h r1 r2 r3 r4
    unfold sloM
    split
    ·
     exact ⟨k3.mono (by omega), (RS_add k4 (RS_mul s4 k2)).mono (by omega)⟩
    ·
     rename_i hc
     have := h2.lt (by omega) hc
     exact ih (j + 1) _ (by omega) (by omega) h2 k1 k2 k3 k4
  exact gen b 0 _ (by omega) (by omega) (sloI_start h0 (by grind)) hx hx (RS_zero.mono (by decide)) (RS_zero.mono (by decide))
 refine ⟨?_, hRS⟩
 clear hRS
 generalize hres : sloX x b = res at *
 generalize h18 : hf (b - 8) = h8 at *
 generalize hxx : x * x = xx at *
 refine fn1N_of pl57 (by kernel_rfl) Tryz.call57 Tryz.func57 rfl (by kernel_rfl) rfl [.cell 4 57] (by kernel_rfl) fun Q hQ => ?_
 repeat (first | (refine callV0 (ms) rfl rfl ?_) | (refine runW ?_))
 refine LoopV_of (X := Nat × Q4) (st := fun z => ([(1, .lit (.int .i64 (b : Int))), (4, .ref 0 0 0 0), (5, .ref 1 0 0 0), (6, .ref 2 0 0 0), (7, .ref 3 0 0 0), (8, .lit (.int .i64 ((2 * z.1 + 1 : Nat) : Int)))], [some zbC, some (rwC xx), some (bwC z.2.1 z.2.2.1), some (bwC z.2.2.2.1 z.2.2.2.2)]))
  (inv := fun z => z.1 < b ∧ res = sloM xx b (b - z.1) z.1 z.2 ∧ SloI b z.1 z.2.1 z.2.2.1 z.2.2.2.1 z.2.2.2.2 ∧ RS 200 z.2.1 ∧ RS 200 z.2.2.1 ∧ RS (212 * z.1 + 2) z.2.2.2.1 ∧ RS (212 * z.1 + 2) z.2.2.2.2) (m := fun z => b - z.1) (0, (x, x, 0, 0)) [some 1, some 2, some 3, some 4] rfl (by simp only [bwC0]; (simp (disch := (first | omega | (simp only [lnA, List.length_map, List.length_range, true_and, and_true]; (try omega); done) | fail)) only [go_sem, Int.reduceEq, Int.reduceToNat, Nat.reduceAdd, Nat.reduceMul, Nat.reduceEqDiff, ↓reduceIte, true_and, and_true, and_self, List.drop_zero, List.take_length, Nat.le_refl, V.lit.injEq, Value.int.injEq, Value.bool.injEq]; try (first | omega | (simp; done) | (simp; omega)))) (by simp (disch := (first | omega | (simp only [lnA, List.length_map, List.length_range, true_and, and_true]; (try omega); done) | fail)) only [go_sem, Int.reduceEq, Int.reduceToNat, Nat.reduceAdd, Nat.reduceMul, Nat.reduceEqDiff, ↓reduceIte, true_and, and_true, and_self, List.drop_zero, List.take_length, Nat.le_refl, V.lit.injEq, Value.int.injEq, Value.bool.injEq]; try (first | omega | (simp; done) | (simp; omega)))
  ⟨by omega, by rw [← hres, ← hxx]; rfl, sloI_start h0 (by grind), hx, hx, RS_zero.mono (by omega), RS_zero.mono (by omega)⟩ ?_
 rintro ⟨n, tl, th, sl, sh⟩ ⟨hn, hr, hI, r1, r2, r3, r4⟩
 simp only [] at hn hr hI r1 r2 r3 r4
 obtain ⟨f, hf'⟩ : ∃ f, b - n = f + 1 := ⟨b - n - 1, by omega⟩
 rw [hf'] at hr
 unfold sloM at hr
 rw [h18] at hr
 have h2 := hI.next (s := (tl, th, sl, sh)) q0 q1
 obtain ⟨k1, k2, k3, k4⟩ := key (f + 1) n (tl, th, sl, sh) (by omega) (by omega) hI r1 r2 r3 r4
 unfold sloN at hr h2 k1 k2 k3 k4
 simp only [] at hr h2 k1 k2 k3 k4
 have mk := rmake_fn (p := 2) (q := ((2 * n + 1 : Nat) : Int)) (by omega) (by decide) (by decide) (by omega) (by omega)
 rw [sby_eq] at mk
 have e1 : RS 1 ((2 : Int) : Rat) := RS_small (by decide)
 have e2 : RS 1 (((2 * n + 1 : Nat) : Int) : Rat) := RS_small (by omega)
 have sb : RS 2 (sby n) := RS_div (by decide) e1 e2
 have sc := scaled_fn (r1.mono (show 200 ≤ 100000 by decide)) (r2.mono (show 200 ≤ 100000 by decide)) (sb.mono (show 2 ≤ 100000 by decide))
 have pl := plus_fn (r3.mono (show 212 * n + 2 ≤ 100000 by omega)) (r4.mono (show 212 * n + 2 ≤ 100000 by omega)) ((RS_mul r1 sb).mono (show _ ≤ 100000 by decide)) ((RS_mul r2 sb).mono (show _ ≤ 100000 by decide))
 have sc2 := scaled_fn (r1.mono (show 200 ≤ 100000 by decide)) (r2.mono (show 200 ≤ 100000 by decide)) (sq.mono (show 400 ≤ 100000 by decide))
 have ou := out_fn hB ((RS_mul r1 sq).mono (show _ ≤ 90000 by decide)) ((RS_mul r2 sq).mono (show _ ≤ 90000 by decide))
 by_cases hc : up (th * xx) b ≤ h8
 ·
  obtain ⟨c, hcc, cm⟩ := rcmp_le (k2.mono (show 200 ≤ 400000 by decide)) (sh8.mono (show 129 ≤ 400000 by decide)) hc
  rw [if_pos hc] at hr
  subst hr
  simp only [] at hQ
  have m4 := rmul_fn (s4.mono (show 1 ≤ 400000 by decide)) (k2.mono (show 200 ≤ 400000 by decide))
  have ad := radd_fn (k4.mono (show 212 * (n + 1) + 2 ≤ 400000 by omega)) ((RS_mul s4 k2).mono (show _ ≤ 400000 by decide))
  clear hres hI h2 sb e1 e2 k1 k2 k3 k4 r1 r2 r3 r4 hc s4
  generalize hx4 : 4 * up (th * xx) b = x4 at *
  generalize sby n = fa at *
  generalize dn (tl * xx) b = A at *
  generalize up (th * xx) b = B at *
  generalize tl * xx = tlf at *
  generalize th * xx = thf at *
  generalize hsl : sl + tl * fa = sl' at *
  generalize hsh : sh + th * fa = sh' at *
  generalize tl * fa = tlg at *
  generalize th * fa = thg at *
  generalize sh' + x4 = shb at *
  generalize (4 : Rat) = four at *
  repeat (first | (refine callV0 (mk) rfl rfl ?_) | (refine callV0 (sc) rfl rfl ?_) | (refine callV0 (pl) rfl rfl ?_) | (refine callV0 (sc2) rfl rfl ?_) | (refine callV0 (ou) rfl rfl ?_) | (refine callV0 (hh) rfl rfl ?_) | (refine callV0 (cm) rfl rfl ?_) | (refine callV0 (o4) rfl rfl ?_) | (refine callV0 (m4) rfl rfl ?_) | (refine callV0 (ad) rfl rfl ?_) | (simp (maxSteps := 1000000) (disch := (first | omega | (simp only [lnA, List.length_map, List.length_range, true_and, and_true]; (try omega); done) | fail)) only [go_sem, hb8, Int.reduceEq, Int.reduceToNat, Nat.reduceAdd, Nat.reduceMul, Nat.reduceEqDiff, ↓reduceIte]))
  exact endW [] hQ
 ·
  obtain ⟨c, hcc, cm⟩ := rcmp_gt (k2.mono (show 200 ≤ 400000 by decide)) (sh8.mono (show 129 ≤ 400000 by decide)) (Rat.not_le.1 hc)
  rw [if_neg hc] at hr
  have hlt := h2.lt (by omega) (by rw [h18]; exact hc)
  have hfn : b - (n + 1) = f := by omega
  have hne : ((2 * n + 1 : Nat) : Int) + 2 = ((2 * (n + 1) + 1 : Nat) : Int) := by omega
  clear hres hI sb e1 e2 r1 r2 r3 r4 hc
  generalize sby n = fa at *
  generalize dn (tl * xx) b = A at *
  generalize up (th * xx) b = B at *
  generalize tl * xx = tlf at *
  generalize th * xx = thf at *
  generalize hsl : sl + tl * fa = sl' at *
  generalize hsh : sh + th * fa = sh' at *
  generalize tl * fa = tlg at *
  generalize th * fa = thg at *
  repeat (first | (refine callV0 (mk) rfl rfl ?_) | (refine callV0 (sc) rfl rfl ?_) | (refine callV0 (pl) rfl rfl ?_) | (refine callV0 (sc2) rfl rfl ?_) | (refine callV0 (ou) rfl rfl ?_) | (refine callV0 (hh) rfl rfl ?_) | (refine callV0 (cm) rfl rfl ?_) | (simp (maxSteps := 1000000) (disch := (first | omega | (simp only [lnA, List.length_map, List.length_range, true_and, and_true]; (try omega); done) | fail)) only [go_sem, hb8, hne, Int.reduceEq, Int.reduceToNat, Nat.reduceAdd, Nat.reduceMul, Nat.reduceEqDiff, ↓reduceIte]))
  refine nextW (n + 1, A, B, sl', sh') [some 0, some 1, some 2, some 3] ⟨hlt, by rw [hfn]; exact hr, h2, k1, k2, k3, k4⟩ (by simp only []; omega)
end Go.Proofs.YtdohmppildfjhaaGreatDoor
