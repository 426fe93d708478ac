import Derived.Test.YtdohmppildfjhaaGreatDoorD2
import Derived.Test.YtdohmppildfjhaaGreatDoorD1
namespace Go.Proofs.YtdohmppildfjhaaGreatDoor
open Go.Eng Go.Vx
set_option linter.unusedSimpArgs false
set_option linter.unusedVariables false
set_option maxRecDepth 100000
theorem top_word {B n V : Nat} (hB : 0 < B) (hV : V < B ^ (n + 1)) : V / B ^ n < B := by
 rw [Nat.div_lt_iff_lt_mul (Nat.pow_pos hB), Nat.mul_comm, ← Nat.pow_succ]
 exact hV
theorem add_top {B n V D N c : Nat} (hB : 0 < B) (hV : V < B ^ (n + 1)) (h : N + B ^ n * c = V % B ^ n + D) : N + B ^ n * ((V / B ^ n + c) % B) + B ^ (n + 1) * ((V / B ^ n + c) / B) = V + D := by
 have h1 := Nat.div_add_mod V (B ^ n)
 have h2 := Nat.div_add_mod (V / B ^ n + c) B
 generalize V / B ^ n = w at *
 generalize V % B ^ n = x at *
 generalize (w + c) % B = a at *
 generalize (w + c) / B = b at *
 have h3 := congrArg (B ^ n * ·) h2
 simp only [Nat.mul_add, ← Nat.mul_assoc] at h3
 rw [Nat.pow_succ]
 generalize B ^ n * B * b = y1 at *
 generalize B ^ n * a = y2 at *
 generalize B ^ n * w = y3 at *
 generalize B ^ n * c = y4 at *
 omega
theorem prt_top {P N T : List Nat} {a : Nat} : (prt P (N ++ [a]) T).getD (P.length + N.length) 0 = a := by
 unfold prt
 rw [List.getD_eq_getElem?_getD, List.getElem?_append_right (by omega), Nat.add_sub_cancel_left, List.getElem?_append_left (by simp), List.getElem?_append_right (Nat.le_refl _), Nat.sub_self]
 rfl
theorem back_step {B n U D V g Nv a e : Nat} (hB : 0 < B) (hD0 : 0 < D) (hD : D < B ^ n) (hN : Nv < B ^ n) (ha : a < B) (hg1 : U / D < g) (hg2 : g < B) (hV : V + g * D = U + B ^ (n + 1)) (h : Nv + B ^ n * a + B ^ (n + 1) * e = V + D) :
  (a = 0 ∧ g - 1 = U / D ∧ Nv + B ^ n * a = U % D) ∨ (a ≠ 0 ∧ U / D < g - 1 ∧ (Nv + B ^ n * a) + (g - 1) * D = U + B ^ (n + 1)) := by
 have hP : 0 < B ^ n := Nat.pow_pos hB
 have hback := fun h2 => back_top (B := B) (n := n) (U := U) (V := Nv + B ^ n * a) (g := g - 1) hB hD (by omega) h2
 have hXe : B ^ n * B = B ^ (n + 1) := (Nat.pow_succ ..).symm
 generalize B ^ (n + 1) = X at *
 generalize B ^ n = Y at *
 have hX : Nv + Y * a < X := by
  have := Nat.mul_le_mul_left Y (show a + 1 ≤ B from ha)
  rw [hXe, Nat.mul_add, Nat.mul_one] at this
  omega
 have hle : Y ≤ X := by rw [← hXe]; exact Nat.le_mul_of_pos_right _ hB
 by_cases hl : g = U / D + 1
 ·
  left
  have h1 := back_last (D := D) rfl hV hl
  have hm := Nat.mod_lt U hD0
  have he : e = 1 := by
   rcases Nat.lt_or_ge e 1 with h0 | h0
   ·
    obtain rfl : e = 0 := by omega
    rw [Nat.mul_zero] at h
    omega
   ·
    rcases Nat.lt_or_ge 1 e with h2 | h2
    ·
     have := Nat.mul_le_mul_left X (show 2 ≤ e from h2)
     omega
    ·
     omega
  subst he
  have hv : Nv + Y * a = U % D := by omega
  refine ⟨?_, Nat.sub_eq_of_eq_add hl, hv⟩
  rcases Nat.eq_zero_or_pos a with h0 | h0
  ·
   exact h0
  ·
   have := Nat.mul_le_mul_left Y (show 1 ≤ a from h0)
   omega
 ·
  right
  have hl2 : U / D + 1 < g := by omega
  obtain ⟨h1, h2⟩ := back_more hD0 hl2 hV
  have he : e = 0 := by
   rcases Nat.eq_zero_or_pos e with h0 | h0
   ·
    exact h0
   ·
    have := Nat.mul_le_mul_left X (show 1 ≤ e from h0)
    omega
  subst he
  have hv : Nv + Y * a = V + D := by omega
  rw [← hv] at h2
  have h3 := hback h2
  refine ⟨?_, by omega, h2⟩
  rintro rfl
  omega
set_option maxHeartbeats 4000000 in
theorem digit_fn {P S dl : List Nat} {U n : Nat} (hn : dl.length = n) (hn0 : 0 < n) (hdl : ∀ d ∈ dl, d < 18446744073709551616) (hS : ∀ d ∈ S, d < 18446744073709551616) (htop : dl.getD (n - 1) 0 ≠ 0) (hU : U < valB 18446744073709551616 dl * 18446744073709551616) (hsz : P.length + (n + 1) + S.length ≤ 4000000) :
  Fn1 Tryz.prog 132 [.sl 0 1 P.length (n + 1), .row 1 ((nl dl).map (ie .u64))] [some (.row 1 ((nl (P ++ (fw 18446744073709551616 (n + 1) U ++ S))).map (ie .u64)))]
  (.lit (.int .u64 ((U / valB 18446744073709551616 dl : Nat) : Int))) [some (.row 1 ((nl (P ++ (fw 18446744073709551616 (n + 1) (U % valB 18446744073709551616 dl) ++ S))).map (ie .u64)))] := by
 have hDlt : valB 18446744073709551616 dl < 18446744073709551616 ^ n := by have := valB_lt hdl; rwa [hn] at this
 have hdf := fw_eq (B := 18446744073709551616) hdl hn rfl
 have hdw := fw_getD (B := 18446744073709551616) (k := n) (i := n - 1) (valB 18446744073709551616 dl) (by omega)
 rw [hdf] at hdw
 have hnd := nl_len dl
 have htk := fun D : Nat => take_fn (P := P) (S := S) (dl := dl) (U := U) (t := D) hn hdl hS
 generalize hD : valB 18446744073709551616 dl = D at *
 have hU1 : U < 18446744073709551616 ^ (n + 1) := by
  rw [Nat.pow_succ]
  exact Nat.lt_of_lt_of_le hU (Nat.mul_le_mul_right _ (Nat.le_of_lt hDlt))
 obtain ⟨t1, t2, t3⟩ := tops (B := 18446744073709551616) (by decide) hn0 hU1 hDlt
 rw [t2] at hdw
 rw [hdw] at htop
 have htp : 0 < D / 18446744073709551616 ^ (n - 1) := Nat.pos_of_ne_zero htop
 have hP0 : 0 < 18446744073709551616 ^ (n - 1) := Nat.pow_pos (by decide)
 have hD0 : 0 < D := by
  rcases Nat.eq_zero_or_pos D with h | h
  ·
   rw [h, Nat.zero_div] at htp; omega
  ·
   exact h
 have hge := guess_ge (U := U) (D := D) hP0 htp
 have hQlt : U / D < 18446744073709551616 := by rw [Nat.div_lt_iff_lt_mul hD0, Nat.mul_comm]; exact hU
 have hTl : (fw 18446744073709551616 (n + 1) U ++ S).length = n + 1 + S.length := by rw [List.length_append, fw_len]
 have hu1 : (P ++ (fw 18446744073709551616 (n + 1) U ++ S)).getD (P.length + n) 0 = U / 18446744073709551616 ^ n := by
  have h1 := prt_get (P := P) (N := []) (T := fw 18446744073709551616 (n + 1) U ++ S) (i := n) (Nat.zero_le _) (by omega)
  rw [prt_nil] at h1
  rw [h1, ← t1, ← fw_getD (k := n + 1) U (by omega), List.getD_eq_getElem?_getD, List.getElem?_append_left (by rw [fw_len]; omega), ← List.getD_eq_getElem?_getD]
 have hu2 : (P ++ (fw 18446744073709551616 (n + 1) U ++ S)).getD (P.length + (n - 1)) 0 = U / 18446744073709551616 ^ (n - 1) % 18446744073709551616 := by
  have h1 := prt_get (P := P) (N := []) (T := fw 18446744073709551616 (n + 1) U ++ S) (i := n - 1) (Nat.zero_le _) (by omega)
  rw [prt_nil] at h1
  rw [h1, ← fw_getD (k := n + 1) U (by omega), List.getD_eq_getElem?_getD, List.getElem?_append_left (by rw [fw_len]; omega), ← List.getD_eq_getElem?_getD]
 have hnT := nl_len (P ++ (fw 18446744073709551616 (n + 1) U ++ S))
 rw [List.length_append, hTl] at hnT
 have g1 := (nl_get (P ++ (fw 18446744073709551616 (n + 1) U ++ S)) (P.length + n)).trans (by rw [hu1])
 have g2 := (nl_get (P ++ (fw 18446744073709551616 (n + 1) U ++ S)) (P.length + (n - 1))).trans (by rw [hu2])
 have g3 := (nl_get dl (n - 1)).trans (by rw [hdw])
 have hlo : U / 18446744073709551616 ^ (n - 1) % 18446744073709551616 < 18446744073709551616 := Nat.mod_lt _ (by decide)
 have hyl : D / 18446744073709551616 ^ (n - 1) < 18446744073709551616 := by rw [← t2]; exact Nat.mod_lt _ (by decide)
 have hul : U / 18446744073709551616 ^ n < 18446744073709551616 := by rw [← t1]; exact Nat.mod_lt _ (by decide)
 have hdv := fun h => div64_fn (hi := U / 18446744073709551616 ^ n) (lo := U / 18446744073709551616 ^ (n - 1) % 18446744073709551616) (y := D / 18446744073709551616 ^ (n - 1)) h hlo hyl
 rw [t3] at hdv
 have hgl : U / 18446744073709551616 ^ n < D / 18446744073709551616 ^ (n - 1) → U / 18446744073709551616 ^ (n - 1) / (D / 18446744073709551616 ^ (n - 1)) < 18446744073709551616 := fun h => by
  rw [Nat.div_lt_iff_lt_mul htp]
  have : U / 18446744073709551616 ^ n * 18446744073709551616 + U / 18446744073709551616 ^ (n - 1) % 18446744073709551616 < D / 18446744073709551616 ^ (n - 1) * 18446744073709551616 := by
   generalize U / 18446744073709551616 ^ n = x1 at *
   generalize U / 18446744073709551616 ^ (n - 1) % 18446744073709551616 = x2 at *
   generalize D / 18446744073709551616 ^ (n - 1) = x3 at *
   omega
  rw [t3, Nat.mul_comm] at this
  exact this
 have hidx : ((n : Int) - 1).toNat = n - 1 := by omega
 have hnd' : (nl dl).length = n := by omega
 refine fn1N_of pl132 (by kernel_rfl) Tryz.call132 Tryz.func132 rfl (by kernel_rfl) rfl [.tmp 4] (by kernel_rfl) fun Q hQ => ?_
 simp (maxSteps := 1000000) (disch := (first | omega | (simp only [lnA, List.length_map, List.length_range, true_and, and_true]; (try omega); done) | fail)) only [go_sem, hnd', hidx, g1, g2, g3, Int.reduceEq, Int.reduceToNat, Nat.reduceAdd, Nat.reduceMul, Nat.reduceEqDiff, ↓reduceIte]
 by_cases hlt : U / 18446744073709551616 ^ n < D / 18446744073709551616 ^ (n - 1)
 case' pos =>
  have hg0 := hgl hlt
  have hdv := hdv hlt
  generalize U / 18446744073709551616 ^ (n - 1) / (D / 18446744073709551616 ^ (n - 1)) = g0 at *
  have hcd : decide (((U / 18446744073709551616 ^ n : Nat) : Int) < ((D / 18446744073709551616 ^ (n - 1) : Nat) : Int)) = true := decide_eq_true (by omega)
  simp (maxSteps := 1000000) (disch := (first | omega | (simp only [lnA, List.length_map, List.length_range, true_and, and_true]; (try omega); done) | fail)) only [go_sem, hcd, hnd', hidx, g1, g2, g3, Int.reduceEq, Int.reduceToNat, Nat.reduceAdd, Nat.reduceMul, Nat.reduceEqDiff, ↓reduceIte]
  refine callV0 (hdv) rfl rfl ?_
  simp (maxSteps := 1000000) (disch := (first | omega | (simp only [lnA, List.length_map, List.length_range, true_and, and_true]; (try omega); done) | fail)) only [go_sem, hcd, hnd', hidx, g1, g2, g3, Int.reduceEq, Int.reduceToNat, Nat.reduceAdd, Nat.reduceMul, Nat.reduceEqDiff, ↓reduceIte]
 case' neg =>
  have hcd : decide (((U / 18446744073709551616 ^ n : Nat) : Int) < ((D / 18446744073709551616 ^ (n - 1) : Nat) : Int)) = false := decide_eq_false (by omega)
  simp (maxSteps := 1000000) (disch := (first | omega | (simp only [lnA, List.length_map, List.length_range, true_and, and_true]; (try omega); done) | fail)) only [go_sem, hcd, hnd', hidx, g1, g2, g3, Int.reduceEq, Int.reduceToNat, Nat.reduceAdd, Nat.reduceMul, Nat.reduceEqDiff, ↓reduceIte]
  obtain ⟨g0, hg0e⟩ : ∃ g0 : Nat, g0 = 18446744073709551615 := ⟨_, rfl⟩
  have hg0i : (18446744073709551615 : Int) = (g0 : Int) := by omega
  rw [hg0i]
  have hg0 : g0 < 18446744073709551616 := by omega
  have hge : U / D ≤ g0 := by omega
 all_goals
  have ht := htk g0 hU1 hg0 hsz
  have hst : ∃ b V, (if U < g0 * D then 1 else 0) = b ∧ U + 18446744073709551616 ^ (n + 1) * (if U < g0 * D then 1 else 0) - g0 * D = V ∧ V < 18446744073709551616 ^ (n + 1) ∧ ((b = 0 ∧ g0 = U / D ∧ V = U % D) ∨ (b = 1 ∧ U / D < g0 ∧ g0 < 18446744073709551616 ∧ V + g0 * D = U + 18446744073709551616 ^ (n + 1))) := by
   have hdm := Nat.div_add_mod U D
   have hml := Nat.mod_lt U hD0
   by_cases hb : U < g0 * D
   ·
    refine ⟨1, _, if_pos hb, rfl, ?_⟩
    rw [if_pos hb, Nat.mul_one]
    have hq : U / D < g0 := by rw [Nat.div_lt_iff_lt_mul hD0]; exact hb
    have hle : g0 * D ≤ 18446744073709551616 ^ (n + 1) := by
     rw [Nat.pow_succ, Nat.mul_comm]
     exact Nat.mul_le_mul (Nat.le_of_lt hDlt) (Nat.le_of_lt hg0)
    generalize 18446744073709551616 ^ (n + 1) = X at *
    generalize g0 * D = gd at *
    exact ⟨by omega, .inr ⟨rfl, hq, hg0, by omega⟩⟩
   ·
    refine ⟨0, _, if_neg hb, rfl, ?_⟩
    rw [if_neg hb, Nat.mul_zero, Nat.add_zero]
    have hq : g0 ≤ U / D := by rw [Nat.le_div_iff_mul_le hD0]; omega
    have hqe : g0 = U / D := by omega
    have hv : U - g0 * D = U % D := by rw [hqe, Nat.mul_comm]; omega
    rw [hv]
    exact ⟨Nat.lt_of_le_of_lt (Nat.mod_le _ _) hU1, .inl ⟨rfl, hqe, rfl⟩⟩
  obtain ⟨b, V0, hb1, hb2, hb3, hb4⟩ := hst
  rw [hb2, hb1] at ht
  refine callW [some 0] [] (ht) ?_
  simp (maxSteps := 1000000) (disch := (first | omega | (simp only [lnA, List.length_map, List.length_range, true_and, and_true]; (try omega); done) | fail)) only [go_sem, hnd', Int.reduceEq, Int.reduceToNat, Nat.reduceAdd, Nat.reduceMul, Nat.reduceEqDiff, ↓reduceIte]
  refine loopW (X := Nat × Nat × Nat) (st := fun z => ([(0, .sl 0 1 P.length (n + 1)), (1, .row 1 ((nl dl).map (ie .u64))), (5, .lit (.int .i64 (n : Int))), (6, .lit (.int .u64 (z.1 : Int))), (7, .lit (.int .i64 (z.2.2 : Int)))], [some (.row 1 ((nl (P ++ (fw 18446744073709551616 (n + 1) z.2.1 ++ S))).map (ie .u64)))]))
   (inv := fun z => z.2.1 < 18446744073709551616 ^ (n + 1) ∧ ((z.2.2 = 0 ∧ z.1 = U / D ∧ z.2.1 = U % D) ∨ (z.2.2 = 1 ∧ U / D < z.1 ∧ z.1 < 18446744073709551616 ∧ z.2.1 + z.1 * D = U + 18446744073709551616 ^ (n + 1)))) (m := fun z => z.1) (g0, V0, b) [some 0] ⟨hb3, hb4⟩ ?_
  clear hb1 hb2 hb3 hb4 ht htk g1 g2 g3 hu1 hu2 hdv hgl hcd hnT hTl
  rintro ⟨g, x0, tm⟩ ⟨hV1, hV2⟩
  simp only at hV1 hV2 ⊢
  rcases hV2 with ⟨rfl, rfl, rfl⟩ | ⟨rfl, hg1, hg2, hV⟩
  ·
   refine runW ?_
   exact endW [some 0] hQ
  ·
   have hTl := show (fw 18446744073709551616 (n + 1) x0 ++ S).length = n + 1 + S.length by rw [List.length_append, fw_len]
   have hTw := fwT_lt (U := x0) (k := n + 1) (by decide) hS
   have hTv : valB 18446744073709551616 ((fw 18446744073709551616 (n + 1) x0 ++ S).take n) = x0 % 18446744073709551616 ^ n := by
    rw [fw_add n 1, List.append_assoc, List.take_left' (fw_len n x0), fw_val (by decide)]
   have hTn : (fw 18446744073709551616 (n + 1) x0 ++ S).getD n 0 = x0 / 18446744073709551616 ^ n := by
    rw [List.getD_eq_getElem?_getD, List.getElem?_append_left (by rw [fw_len]; omega), ← List.getD_eq_getElem?_getD, fw_getD (k := n + 1) (i := n) x0 (by omega), Nat.mod_eq_of_lt (top_word (by decide) hV1)]
   have hfull := fun N => prt_full (P := P) (N := N) (S := S) (B := 18446744073709551616) (k := n + 1) (U := x0)
   generalize hT : fw 18446744073709551616 (n + 1) x0 ++ S = T at *
   have hgp : 0 < g := Nat.lt_of_le_of_lt (Nat.zero_le _) hg1
   have hgm : (g : Int) - 1 = ((g - 1 : Nat) : Int) := by omega
   have hpT := nl_len (P ++ T)
   rw [List.length_append] at hpT
   simp (maxSteps := 1000000) (disch := (first | omega | (simp only [lnA, List.length_map, List.length_range, true_and, and_true]; (try omega); done) | fail)) only [go_sem, hnd', hgm, Int.reduceEq, Int.reduceToNat, Nat.reduceAdd, Nat.reduceMul, Nat.reduceEqDiff, ↓reduceIte]
   refine LoopV_of (X := List Nat × Nat) (st := fun z => ([(0, .sl 0 1 P.length (n + 1)), (1, .row 1 ((nl dl).map (ie .u64))), (5, .lit (.int .i64 (n : Int))), (6, .lit (.int .u64 ((g - 1 : Nat) : Int))), (7, .lit (.int .i64 1)), (8, .lit (.int .u64 (z.2 : Int))), (51, .row 1 ((nl dl).map (ie .u64))), (52, .lit (.int .i64 (n : Int))), (53, .lit (.int .i64 (z.1.length : Int)))], [some (.row 1 ((nl (prt P z.1 T)).map (ie .u64)))]))
    (inv := fun z => z.1.length ≤ n ∧ (∀ d ∈ z.1, d < 18446744073709551616) ∧ z.2 ≤ 1 ∧ valB 18446744073709551616 z.1 + 18446744073709551616 ^ z.1.length * z.2 = valB 18446744073709551616 (T.take z.1.length) + valB 18446744073709551616 (dl.take z.1.length))
    (m := fun z => n - z.1.length) ([], 0) [some 0] rfl (by simp only [prt_nil]; (simp (disch := (first | omega | (simp only [lnA, List.length_map, List.length_range, true_and, and_true]; (try omega); done) | fail)) only [go_sem, Int.reduceEq, Int.reduceToNat, Nat.reduceAdd, Nat.reduceMul, Nat.reduceEqDiff, ↓reduceIte, true_and, and_true, and_self, List.drop_zero, List.take_length, Nat.le_refl, V.lit.injEq, Value.int.injEq, Value.bool.injEq]; try (first | omega | (simp; done) | (simp; omega)))) (by simp (disch := (first | omega | (simp only [lnA, List.length_map, List.length_range, true_and, and_true]; (try omega); done) | fail)) only [go_sem, Int.reduceEq, Int.reduceToNat, Nat.reduceAdd, Nat.reduceMul, Nat.reduceEqDiff, ↓reduceIte, true_and, and_true, and_self, List.drop_zero, List.take_length, Nat.le_refl, V.lit.injEq, Value.int.injEq, Value.bool.injEq]; try (first | omega | (simp; done) | (simp; omega))) ⟨by simp, by simp, by simp, by simp [valB]⟩ ?_
   rintro ⟨N, c⟩ ⟨hi, hN, hc, hv⟩
   simp only at hi hN hc hv ⊢
   have hprl := prt_len (P := P) (N := N) (T := T) (by omega)
   have hnp := nl_len (prt P N T)
   have hgu := fun (i : Nat) (h : N.length ≤ i) (h2 : i < T.length) => (nl_get (prt P N T) (P.length + i)).trans (by rw [prt_get h h2])
   have hset : ∀ x : Nat, (nl (prt P N T)).set (P.length + N.length) (x : Int) = nl (prt P (N ++ [x]) T) := fun x => by rw [nl_set, prt_set (by omega)]
   have hxu := getD_ltB (by decide) hTw N.length
   by_cases h1 : N.length < n
   ·
    have hgd := nl_get dl N.length
    have hxd := getD_ltB (by decide) hdl N.length
    have hgu := hgu N.length (Nat.le_refl _) (by omega)
    have hst := add_step hv
    generalize T.getD N.length 0 = u at *
    generalize dl.getD N.length 0 = y at *
    have hcs : u + y + c = c + u + y := by omega
    have hinv : (∀ d ∈ N ++ [(c + u + y) % 18446744073709551616], d < 18446744073709551616) ∧ (c + u + y) / 18446744073709551616 ≤ 1 := ⟨snocB hN (Nat.mod_lt _ (by decide)), by omega⟩
    have hls : (N ++ [(c + u + y) % 18446744073709551616]).length = N.length + 1 := by simp
    simp (maxSteps := 1000000) (disch := (first | omega | (simp only [lnA, List.length_map, List.length_range, true_and, and_true]; (try omega); done) | fail)) only [go_sem, hgd, hgu, Int.reduceEq, Int.reduceToNat, Nat.reduceAdd, Nat.reduceMul, Nat.reduceEqDiff, ↓reduceIte]
    refine call_add64 Tryz.func83 (by kernel_rfl) (by kernel_rfl) (by kernel_rfl) (by kernel_rfl) (by omega) ?_
    rw [hcs]
    simp (maxSteps := 1000000) (disch := (first | omega | (simp only [lnA, List.length_map, List.length_range, true_and, and_true]; (try omega); done) | fail)) only [go_sem, hset, Int.reduceEq, Int.reduceToNat, Nat.reduceAdd, Nat.reduceMul, Nat.reduceEqDiff, ↓reduceIte]
    refine NextV_of (N ++ [(c + u + y) % 18446744073709551616], (c + u + y) / 18446744073709551616) [some 0] rfl (by rw [hls]; (simp (disch := (first | omega | (simp only [lnA, List.length_map, List.length_range, true_and, and_true]; (try omega); done) | fail)) only [go_sem, Int.reduceEq, Int.reduceToNat, Nat.reduceAdd, Nat.reduceMul, Nat.reduceEqDiff, ↓reduceIte, true_and, and_true, and_self, List.drop_zero, List.take_length, Nat.le_refl, V.lit.injEq, Value.int.injEq, Value.bool.injEq]; try (first | omega | (simp; done) | (simp; omega)))) (by (simp (disch := (first | omega | (simp only [lnA, List.length_map, List.length_range, true_and, and_true]; (try omega); done) | fail)) only [go_sem, Int.reduceEq, Int.reduceToNat, Nat.reduceAdd, Nat.reduceMul, Nat.reduceEqDiff, ↓reduceIte, true_and, and_true, and_self, List.drop_zero, List.take_length, Nat.le_refl, V.lit.injEq, Value.int.injEq, Value.bool.injEq]; try (first | omega | (simp; done) | (simp; omega)))) ⟨by simp only; omega, hinv.1, hinv.2, by simp only [hls]; exact hst⟩ (by simp only; omega)
   ·
    have hNe : N.length = n := by omega
    have hgu := hgu N.length (Nat.le_refl _) (by omega)
    rw [hNe] at hgu hset hv hxu
    rw [hTn] at hgu hxu
    have hdft : dl.take n = dl := List.take_of_length_le (by omega)
    rw [hTv, hdft, hD] at hv
    have hat := add_top (B := 18446744073709551616) (by decide) hV1 hv
    have hNl := valB_lt (B := 18446744073709551616) hN
    rw [hNe] at hNl
    have hal := Nat.mod_lt (x0 / 18446744073709551616 ^ n + c) (show 0 < 18446744073709551616 by decide)
    have hw : IntKind.u64.wrap (((x0 / 18446744073709551616 ^ n : Nat) : Int) + (c : Int)) = (((x0 / 18446744073709551616 ^ n + c) % 18446744073709551616 : Nat) : Int) := by
     rw [wrap_int]; omega
    have hbs := back_step (B := 18446744073709551616) (by decide) hD0 hDlt hNl hal hg1 hg2 hV hat
    obtain ⟨a, ha⟩ : ∃ a, (x0 / 18446744073709551616 ^ n + c) % 18446744073709551616 = a := ⟨_, rfl⟩
    rw [ha] at hw hbs hal
    have hx1 : valB 18446744073709551616 (N ++ [a]) = valB 18446744073709551616 N + 18446744073709551616 ^ n * a := by rw [valB_snoc, hNe]
    rw [← hx1] at hbs
    have hfw := fw_eq (B := 18446744073709551616) (l := N ++ [a]) (k := n + 1) (snocB hN hal) (by simp; omega) rfl
    have hvl := valB_lt (B := 18446744073709551616) (l := N ++ [a]) (snocB hN hal)
    rw [show (N ++ [a]).length = n + 1 by simp; omega] at hvl
    have hend : prt P (N ++ [a]) T = P ++ (fw 18446744073709551616 (n + 1) (valB 18446744073709551616 (N ++ [a])) ++ S) := by rw [hfw]; exact hfull _ (by simp; omega)
    have htopa : (nl (prt P (N ++ [a]) T)).getD (P.length + n) 0 = (a : Int) := by rw [nl_get, ← hNe, prt_top]
    have hprl2 := prt_len (P := P) (N := N ++ [a]) (T := T) (by simp; omega)
    have hnp2 := nl_len (prt P (N ++ [a]) T)
    generalize valB 18446744073709551616 (N ++ [a]) = x1 at *
    rcases hbs with ⟨ha0, hb1, hb2⟩ | ⟨ha0, hb1, hb2⟩
    ·
     have hda : decide ((a : Int) = 0) = true := decide_eq_true (by omega)
     simp (maxSteps := 1000000) (disch := (first | omega | (simp only [lnA, List.length_map, List.length_range, true_and, and_true]; (try omega); done) | fail)) only [go_sem, hgu, hw, hset, htopa, hda, show (1 : Int) + 1 = 2 from rfl, show (2 : Int) - 1 = 1 from rfl, Int.reduceEq, Int.reduceToNat, Nat.reduceAdd, Nat.reduceMul, Nat.reduceEqDiff, ↓reduceIte]
     refine NextV_of (g - 1, x1, 0) [some 0] rfl (by simp only [hend]; (simp (disch := (first | omega | (simp only [lnA, List.length_map, List.length_range, true_and, and_true]; (try omega); done) | fail)) only [go_sem, Int.reduceEq, Int.reduceToNat, Nat.reduceAdd, Nat.reduceMul, Nat.reduceEqDiff, ↓reduceIte, true_and, and_true, and_self, List.drop_zero, List.take_length, Nat.le_refl, V.lit.injEq, Value.int.injEq, Value.bool.injEq]; try (first | omega | (simp; done) | (simp; omega)))) (by simp (disch := (first | omega | (simp only [lnA, List.length_map, List.length_range, true_and, and_true]; (try omega); done) | fail)) only [go_sem, Int.reduceEq, Int.reduceToNat, Nat.reduceAdd, Nat.reduceMul, Nat.reduceEqDiff, ↓reduceIte, true_and, and_true, and_self, List.drop_zero, List.take_length, Nat.le_refl, V.lit.injEq, Value.int.injEq, Value.bool.injEq]; try (first | omega | (simp; done) | (simp; omega))) ⟨hvl, .inl ⟨rfl, hb1, hb2⟩⟩ (by simp only; omega)
    ·
     have hda : decide ((a : Int) = 0) = false := decide_eq_false (by omega)
     have hwc : ((x0 / 18446744073709551616 ^ n : Nat) : Int) + (c : Int) = (a : Int) := by omega
     simp (maxSteps := 1000000) (disch := (first | omega | (simp only [lnA, List.length_map, List.length_range, true_and, and_true]; (try omega); done) | fail)) only [go_sem, hgu, hw, hwc, hset, htopa, hda, show (1 : Int) + 1 = 2 from rfl, show (2 : Int) - 1 = 1 from rfl, Int.reduceEq, Int.reduceToNat, Nat.reduceAdd, Nat.reduceMul, Nat.reduceEqDiff, ↓reduceIte]
     refine NextV_of (g - 1, x1, 1) [some 0] rfl (by simp only [hend]; (simp (disch := (first | omega | (simp only [lnA, List.length_map, List.length_range, true_and, and_true]; (try omega); done) | fail)) only [go_sem, Int.reduceEq, Int.reduceToNat, Nat.reduceAdd, Nat.reduceMul, Nat.reduceEqDiff, ↓reduceIte, true_and, and_true, and_self, List.drop_zero, List.take_length, Nat.le_refl, V.lit.injEq, Value.int.injEq, Value.bool.injEq]; try (first | omega | (simp; done) | (simp; omega)))) (by simp (disch := (first | omega | (simp only [lnA, List.length_map, List.length_range, true_and, and_true]; (try omega); done) | fail)) only [go_sem, Int.reduceEq, Int.reduceToNat, Nat.reduceAdd, Nat.reduceMul, Nat.reduceEqDiff, ↓reduceIte, true_and, and_true, and_self, List.drop_zero, List.take_length, Nat.le_refl, V.lit.injEq, Value.int.injEq, Value.bool.injEq]; try (first | omega | (simp; done) | (simp; omega))) ⟨hvl, .inr ⟨rfl, hb1, by simp only; omega, hb2⟩⟩ (by simp only; omega)
end Go.Proofs.YtdohmppildfjhaaGreatDoor
