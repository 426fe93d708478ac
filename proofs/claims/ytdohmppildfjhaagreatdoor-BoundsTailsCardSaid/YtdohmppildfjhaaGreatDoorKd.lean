import Derived.Test.YtdohmppildfjhaaGreatDoorKc
import Derived.Test.YtdohmppildfjhaaGreatDoorFw
namespace Go.Proofs.YtdohmppildfjhaaGreatDoor
open Go.Eng Go.Vx
set_option linter.unusedSimpArgs false
set_option linter.unusedVariables false
set_option maxRecDepth 100000
def BV (l h : Rat) : V := .agg [.row 1 ((nl (wg l.num.natAbs)).map (ie .u64)), .lit (.bool (decide (l.num < 0))), .row 1 ((nl (wg (l.den - 1))).map (ie .u64)), .row 1 ((nl (wg h.num.natAbs)).map (ie .u64)), .lit (.bool (decide (h.num < 0))), .row 1 ((nl (wg (h.den - 1))).map (ie .u64))]
def bwC (l h : Rat) : Ob := .cells [.row 1 ((nl (wg l.num.natAbs)).map (ie .u64)), .lit (.bool (decide (l.num < 0))), .row 1 ((nl (wg (l.den - 1))).map (ie .u64)), .row 1 ((nl (wg h.num.natAbs)).map (ie .u64)), .lit (.bool (decide (h.num < 0))), .row 1 ((nl (wg (h.den - 1))).map (ie .u64))]
def zbC : Ob := .cells [.lit (.slice none 0 0), .lit (.bool false), .lit (.slice none 0 0), .lit (.slice none 0 0), .lit (.bool false), .lit (.slice none 0 0)]
def rwC (x : Rat) : Ob := .cells [.row 1 ((nl (wg x.num.natAbs)).map (ie .u64)), .lit (.bool (decide (x.num < 0))), .row 1 ((nl (wg (x.den - 1))).map (ie .u64))]
attribute [go_sem] BV bwC zbC rwC
theorem mkRat_int (z : Int) : ((z : Int) : Rat) = mkRat z 1 := by rw [← Rat.mkRat_one]
theorem int_hf (z : Int) (b : Nat) : ((z : Int) : Rat) * hf b = mkRat z (2 ^ b) := by
 unfold hf
 rw [mkRat_int, Rat.mkRat_mul_mkRat, Int.mul_one, Nat.one_mul]
theorem RS_z {z : Int} {b : Nat} (hb : b ≤ 300) (hz : z.natAbs ≤ 2 ^ (128 + b)) : RS 7 (((z : Int) : Rat) * hf b) := by
 rw [int_hf]
 have h1 : 2 ^ (128 + b) < 2 ^ (129 + b) := Nat.pow_lt_pow_right (by decide) (by omega)
 have h2 := bl_le_of (n := z.natAbs) (k := 129 + b) (by omega)
 have h3 := bl_two (N := b) (K := 301) (by omega)
 exact RS_mk (Nat.ne_of_gt (Nat.pow_pos (by decide))) (wg_bl (by omega)) (wg_bl (by omega))
theorem tw_mul (a b : Nat) : tw a * tw b = tw (a + b) := by
 unfold tw
 rw [Nat.pow_add]
 simp
theorem fl_le {y : Rat} {k : Nat} (h0 : 0 ≤ y) (h1 : y ≤ tw k) : y.floor.natAbs ≤ 2 ^ k := by
 have h2 : (0 : Int) ≤ y.floor := Rat.le_floor_iff.2 h0
 have h3 : ((y.floor : Int) : Rat) ≤ tw k := Rat.le_trans (Rat.floor_le y) h1
 unfold tw at h3
 have h4 := Rat.intCast_le_intCast.1 h3
 generalize 2 ^ k = x at *
 omega
theorem RS_dnN {x : Rat} {b : Nat} (h0 : 0 ≤ x) (h1 : x ≤ tw 128) (hb : b ≤ 300) : RS 7 (dn x b) := by
 unfold dn
 refine RS_z hb (fl_le (Rat.mul_nonneg h0 (Rat.le_of_lt (tw_pos b))) ?_)
 rw [← tw_mul]
 exact Rat.mul_le_mul_of_nonneg_right h1 (Rat.le_of_lt (tw_pos b))
theorem RS_upN {x : Rat} {b : Nat} (h0 : 0 ≤ x) (h1 : x ≤ tw 128) (hb : b ≤ 300) : RS 7 (up x b) := by
 have e : up x b = ((-((0 - x) * tw b).floor : Int) : Rat) * hf b := by
  unfold up dn
  rw [Rat.intCast_neg]
  grind
 rw [e]
 have hp := tw_pos b
 have hy0 : 0 ≤ x * tw b := Rat.mul_nonneg h0 (Rat.le_of_lt hp)
 have hy1 : x * tw b ≤ tw (128 + b) := by
  rw [← tw_mul]
  exact Rat.mul_le_mul_of_nonneg_right h1 (Rat.le_of_lt hp)
 rw [show (0 - x) * tw b = -(x * tw b) by grind]
 generalize x * tw b = y at *
 refine RS_z hb ?_
 have h3 := Rat.floor_le (-y)
 have h4 : -(2 ^ (128 + b) : Nat) ≤ (-y).floor := Rat.le_floor_iff.2 (by
  unfold tw at hy1
  rw [Rat.intCast_neg]
  grind)
 have h5 : (-y).floor ≤ 0 := by
  have : (((-y).floor : Int) : Rat) ≤ ((0 : Int) : Rat) := by
   rw [show ((0 : Int) : Rat) = 0 from rfl]
   grind
  exact Rat.intCast_le_intCast.1 this
 generalize 2 ^ (128 + b) = t at *
 omega
theorem scaled_fn {l h x : Rat} (hl : RS 100000 l) (hh : RS 100000 h) (hx : RS 100000 x) : Fn1 Tryz.prog 59 [BV l h, RV x] [] (BV (l * x) (h * x)) [] := by
 have m1 := rmul_fn (hl.mono (show 100000 ≤ 400000 by decide)) (hx.mono (show 100000 ≤ 400000 by decide))
 have m2 := rmul_fn (hh.mono (show 100000 ≤ 400000 by decide)) (hx.mono (show 100000 ≤ 400000 by decide))
 generalize l * x = a at *
 generalize h * x = c at *
 refine fn1N_of pl59 (by kernel_rfl) Tryz.call59 Tryz.func59 rfl (by kernel_rfl) rfl [.cell 4 57] (by kernel_rfl) fun Q hQ => ?_
 repeat (first | (refine callV0 (m1) rfl rfl ?_) | (refine callV0 (m2) rfl rfl ?_) | (refine runW ?_))
 exact endW [] hQ
theorem times_fn {l h l' h' : Rat} (hl : RS 100000 l) (hh : RS 100000 h) (hl' : RS 100000 l') (hh' : RS 100000 h') : Fn1 Tryz.prog 87 [BV l h, BV l' h'] [] (BV (l * l') (h * h')) [] := by
 have m1 := rmul_fn (hl.mono (show 100000 ≤ 400000 by decide)) (hl'.mono (show 100000 ≤ 400000 by decide))
 have m2 := rmul_fn (hh.mono (show 100000 ≤ 400000 by decide)) (hh'.mono (show 100000 ≤ 400000 by decide))
 generalize l * l' = a at *
 generalize h * h' = c at *
 refine fn1N_of pl87 (by kernel_rfl) Tryz.call87 Tryz.func87 rfl (by kernel_rfl) rfl [.cell 4 57] (by kernel_rfl) fun Q hQ => ?_
 repeat (first | (refine callV0 (m1) rfl rfl ?_) | (refine callV0 (m2) rfl rfl ?_) | (refine runW ?_))
 exact endW [] hQ
theorem plus_fn {l h l' h' : Rat} (hl : RS 100000 l) (hh : RS 100000 h) (hl' : RS 100000 l') (hh' : RS 100000 h') : Fn1 Tryz.prog 58 [BV l h, BV l' h'] [] (BV (l + l') (h + h')) [] := by
 have m1 := radd_fn (hl.mono (show 100000 ≤ 400000 by decide)) (hl'.mono (show 100000 ≤ 400000 by decide))
 have m2 := radd_fn (hh.mono (show 100000 ≤ 400000 by decide)) (hh'.mono (show 100000 ≤ 400000 by decide))
 generalize l + l' = a at *
 generalize h + h' = c at *
 refine fn1N_of pl58 (by kernel_rfl) Tryz.call58 Tryz.func58 rfl (by kernel_rfl) rfl [.cell 4 57] (by kernel_rfl) fun Q hQ => ?_
 repeat (first | (refine callV0 (m1) rfl rfl ?_) | (refine callV0 (m2) rfl rfl ?_) | (refine runW ?_))
 exact endW [] hQ
theorem out_fn {l h : Rat} {bits : Int} {B : Nat} (hB : max 0 (min bits 512) = (B : Int)) (hl : RS 90000 l) (hh : RS 90000 h) : Fn1 Tryz.prog 49 [BV l h, .lit (.int .i64 bits)] [] (BV (dn l B) (up h B)) [] := by
 have m1 := down_fn hB (hl.mono (show 90000 ≤ 100000 by decide))
 have m2 := upB_fn hB hh
 generalize dn l B = a at *
 generalize up h B = c at *
 refine fn1N_of pl49 (by kernel_rfl) Tryz.call49 Tryz.func49 rfl (by kernel_rfl) rfl [.cell 4 57] (by kernel_rfl) fun Q hQ => ?_
 repeat (first | (refine callV0 (m1) rfl rfl ?_) | (refine callV0 (m2) rfl rfl ?_) | (refine runW ?_))
 exact endW [] hQ
theorem turned_fn {l h : Rat} (hl0 : l ≠ 0) (hh0 : h ≠ 0) (hl : RS 90000 l) (hh : RS 90000 h) : Fn1 Tryz.prog 48 [BV l h] [] (BV (1 / h) (1 / l)) [] := by
 have o := rof_fn (n := 1) (by decide) (by decide)
 have s1 : RS 1 ((1 : Int) : Rat) := RS_small (by decide)
 have m1 := rdiv_fn hh0 (s1.mono (show 1 ≤ 400000 by decide)) (hh.mono (show 90000 ≤ 400000 by decide))
 have m2 := rdiv_fn hl0 (s1.mono (show 1 ≤ 400000 by decide)) (hl.mono (show 90000 ≤ 400000 by decide))
 rw [show ((1 : Int) : Rat) = 1 from rfl] at o m1 m2
 generalize 1 / l = a at *
 generalize 1 / h = c at *
 generalize (1 : Rat) = one at *
 refine fn1N_of pl48 (by kernel_rfl) Tryz.call48 Tryz.func48 rfl (by kernel_rfl) rfl [.cell 2 57] (by kernel_rfl) fun Q hQ => ?_
 repeat (first | (refine callV0 (o) rfl rfl ?_) | (refine callV0 (m1) rfl rfl ?_) | (refine callV0 (m2) rfl rfl ?_) | (refine runW ?_))
 exact endW [] hQ
theorem tw128 (x : Rat) (h : x ≤ 3) : x ≤ tw 128 := by
 have : (3 : Rat) ≤ tw 128 := by decide +kernel
 exact Rat.le_trans h this
theorem RS_one1 : RS 1 (1 : Rat) := RS_small (z := 1) (by decide)
theorem serN_RS {x : Rat} {b n : Nat} {s : Q4} (h0 : 0 ≤ x) (h1 : x ≤ 1 / 2) (hb2 : b ≤ 300) (hn : n < b) (h : SerI x b n s.1 s.2.1 s.2.2.1 s.2.2.2) (r1 : RS (9 * n + 1) s.2.2.1) (r2 : RS (9 * n + 1) s.2.2.2) :
  RS 7 (serN x b n s).1 ∧ RS 7 (serN x b n s).2.1 ∧ RS (9 * (n + 1) + 1) (serN x b n s).2.2.1 ∧ RS (9 * (n + 1) + 1) (serN x b n s).2.2.2 := by
 have f0 := fac_le h0 h1 n
 have hp := hf_pos b
 have hq := hf_pos n
 have ha := hf_anti (show 0 ≤ n by omega)
 have hbb := hf_anti (show 0 ≤ b by omega)
 rw [hf_zero] at ha hbb
 have t4 := h.t4
 have t0 := h.t0
 have t3 : s.1 ≤ s.2.1 := Rat.le_trans h.t1 h.t2
 have g0 : 0 ≤ s.1 * fac x n := Rat.mul_nonneg t0 f0.1
 have g1 : s.1 * fac x n ≤ 3 * (1 / 2) := mul_le_mul' (by grind) f0.2.1 f0.1 (by decide +kernel)
 have g2 : 0 ≤ s.2.1 * fac x n := Rat.mul_nonneg (by grind) f0.1
 have g3 : s.2.1 * fac x n ≤ 3 * (1 / 2) := mul_le_mul' (by grind) f0.2.1 f0.1 (by decide +kernel)
 have k1 : RS 7 (serN x b n s).1 := RS_dnN g0 (tw128 _ (by grind)) hb2
 have k2 : RS 7 (serN x b n s).2.1 := RS_upN g2 (tw128 _ (by grind)) hb2
 exact ⟨k1, k2, (RS_add r1 k1).mono (by omega), (RS_add r2 k2).mono (by omega)⟩
set_option maxHeartbeats 8000000 in
theorem series_fn {x : Rat} {b : Nat} (hx : RS 1000 x) (h0 : 0 ≤ x) (h1 : x ≤ 1 / 2) (hb : 200 ≤ b) (hb2 : b ≤ 300) :
  Fn1 Tryz.prog 86 [RV x, .lit (.int .i64 (b : Int))] [] (BV (serX x b).1 (serX x b).2) [] ∧ RS 4000 (serX x b).1 ∧ RS 4000 (serX x b).2 := by
 have o1 := rof_fn (n := 1) (by decide) (by decide)
 rw [show ((1 : Int) : Rat) = 1 from rfl] at o1
 have hh := halfB_fn (N := b - 8) (by omega)
 have sh8 := RS_hf (N := b - 8) (by omega)
 have hb8 : (b : Int) - 8 = ((b - 8 : Nat) : Int) := by omega
 have hB : max 0 (min (b : Int) 512) = (b : Int) := by omega
 have s1 : RS 1 (1 : Rat) := RS_small (z := 1) (by decide)
 have hRS : RS 4000 (serX x b).1 ∧ RS 4000 (serX x b).2 := by
  have gen : ∀ f n s, n + f = b → 0 < f → SerI x b n s.1 s.2.1 s.2.2.1 s.2.2.2 → RS (9 * n + 1) s.2.2.1 → RS (9 * n + 1) s.2.2.2 → RS 4000 (serM x b f n s).1 ∧ RS 4000 (serM x b f n s).2 := by
   intro f
   induction f with
   | zero => intro n s _ h; omega
   | succ f ih =>
    intro n s hn _ h r1 r2
    have h2 := serN_ok h0 h1 h
    obtain ⟨k1, k2, k3, k4⟩ := serN_RS h0 h1 hb2 (by omega) h r1 r2
    unfold serM
    split
    ·
     exact ⟨k3.mono (by omega), (RS_add k4 k2).mono (by omega)⟩
    ·
     rename_i hc
     have := h2.lt (by omega) hc
     exact ih (n + 1) _ (by omega) (by omega) h2 k3 k4
  exact gen b 0 _ (by omega) (by omega) (SerI.start x b) (s1.mono (by omega)) (s1.mono (by omega))
 refine ⟨?_, hRS⟩
 clear hRS
 generalize hres : serX x b = res at *
 generalize h18 : hf (b - 8) = h8 at *
 refine fn1N_of pl86 (by kernel_rfl) Tryz.call86 Tryz.func86 rfl (by kernel_rfl) rfl [.cell 4 57] (by kernel_rfl) fun Q hQ => ?_
 repeat (first | (refine callV0 (o1) rfl rfl ?_) | (refine runW ?_))
 refine LoopV_of (X := Nat × Q4) (st := fun z => ([(0, RV x), (1, .lit (.int .i64 (b : Int))), (2, .ref 0 0 0 0), (4, .ref 1 0 0 0), (5, .ref 2 0 0 0), (6, .ref 3 0 0 0), (7, .lit (.int .i64 ((z.1 + 1 : Nat) : Int)))], [some (rwC x), some zbC, some (bwC z.2.2.2.1 z.2.2.2.2), some (bwC z.2.1 z.2.2.1)]))
  (inv := fun z => z.1 < b ∧ res = serM x b (b - z.1) z.1 z.2 ∧ SerI x b z.1 z.2.1 z.2.2.1 z.2.2.2.1 z.2.2.2.2 ∧ RS 7 z.2.1 ∧ RS 7 z.2.2.1 ∧ RS (9 * z.1 + 1) z.2.2.2.1 ∧ RS (9 * z.1 + 1) z.2.2.2.2) (m := fun z => b - z.1) (0, (1, 1, 1, 1)) [some 0, some 1, some 2, some 3] rfl (by simp (disch := (first | omega | (simp only [lnA, List.length_map, List.length_range, true_and, and_true]; (try omega); done) | fail)) only [go_sem, Int.reduceEq, Int.reduceToNat, Nat.reduceAdd, Nat.reduceMul, Nat.reduceEqDiff, ↓reduceIte, true_and, and_true, and_self, List.drop_zero, List.take_length, Nat.le_refl, V.lit.injEq, Value.int.injEq, Value.bool.injEq]; try (first | omega | (simp; done) | (simp; omega))) (by simp (disch := (first | omega | (simp only [lnA, List.length_map, List.length_range, true_and, and_true]; (try omega); done) | fail)) only [go_sem, Int.reduceEq, Int.reduceToNat, Nat.reduceAdd, Nat.reduceMul, Nat.reduceEqDiff, ↓reduceIte, true_and, and_true, and_self, List.drop_zero, List.take_length, Nat.le_refl, V.lit.injEq, Value.int.injEq, Value.bool.injEq]; try (first | omega | (simp; done) | (simp; omega)))
  ⟨by omega, by rw [← hres]; rfl, SerI.start x b, s1.mono (by omega), s1.mono (by omega), s1.mono (by omega), s1.mono (by omega)⟩ ?_
 rintro ⟨n, tl, th, sl, sh⟩ ⟨hn, hr, hI, r1, r2, r3, r4⟩
 simp only [] at hn hr hI r1 r2 r3 r4
 obtain ⟨f, hf'⟩ : ∃ f, b - n = f + 1 := ⟨b - n - 1, by omega⟩
 rw [hf'] at hr
 unfold serM at hr
 rw [h18] at hr
 have h2 := serN_ok (s := (tl, th, sl, sh)) h0 h1 hI
 obtain ⟨k1, k2, k3, k4⟩ := serN_RS (s := (tl, th, sl, sh)) h0 h1 hb2 (by omega) hI r3 r4
 unfold serN at hr h2 k1 k2 k3 k4
 simp only [] at hr h2 k1 k2 k3 k4
 have mk := rmake_fn (p := 1) (q := ((n + 1 : Nat) : Int)) (by omega) (by decide) (by decide) (by omega) (by omega)
 rw [show ((1 : Int) : Rat) = 1 from rfl] at mk
 have sby' : RS 1 (((n + 1 : Nat) : Int) : Rat) := RS_small (by omega)
 have sq1 := RS_div (by decide) RS_one1 sby'
 have mf := rmul_fn (hx.mono (show 1000 ≤ 400000 by decide)) (sq1.mono (show _ ≤ 400000 by decide))
 have sf := RS_mul hx sq1
 rw [show x * (1 / (((n + 1 : Nat) : Int) : Rat)) = fac x n from rfl] at mf sf
 have sc := scaled_fn (r1.mono (show 7 ≤ 100000 by decide)) (r2.mono (show 7 ≤ 100000 by decide)) (sf.mono (show _ ≤ 100000 by decide))
 have ou := out_fn hB ((RS_mul r1 sf).mono (show _ ≤ 90000 by decide)) ((RS_mul r2 sf).mono (show _ ≤ 90000 by decide))
 have pl := plus_fn (r3.mono (show 9 * n + 1 ≤ 100000 by omega)) (r4.mono (show 9 * n + 1 ≤ 100000 by omega)) (k1.mono (show 7 ≤ 100000 by decide)) (k2.mono (show 7 ≤ 100000 by decide))
 have ad := radd_fn (k4.mono (show 9 * (n + 1) + 1 ≤ 400000 by omega)) (k2.mono (show 7 ≤ 400000 by decide))
 by_cases hc : up (th * fac x n) b ≤ h8
 ·
  obtain ⟨c, hcc, cm⟩ := rcmp_le (k2.mono (show 7 ≤ 400000 by decide)) (sh8.mono (show 129 ≤ 400000 by decide)) hc
  rw [if_pos hc] at hr
  subst hr
  simp only [] at hQ
  clear hres hI h2 sf sq1 sby' k1 k2 k3 k4 r1 r2 r3 r4 hc
  generalize 1 / (((n + 1 : Nat) : Int) : Rat) = iv at *
  generalize fac x n = fa at *
  generalize dn (tl * fa) b = A at *
  generalize up (th * fa) b = B at *
  generalize tl * fa = tlf at *
  generalize th * fa = thf at *
  generalize sl + A = sl' at *
  generalize hsh : sh + B = sh' at *
  generalize sh' + B = shb at *
  generalize (1 : Rat) = one at *
  repeat (first | (refine callV0 (mk) rfl rfl ?_) | (refine callV0 (mf) rfl rfl ?_) | (refine callV0 (sc) rfl rfl ?_) | (refine callV0 (ou) rfl rfl ?_) | (refine callV0 (pl) rfl rfl ?_) | (refine callV0 (hh) rfl rfl ?_) | (refine callV0 (cm) rfl rfl ?_) | (refine callV0 (ad) rfl rfl ?_) | (simp (maxSteps := 1000000) (disch := (first | omega | (simp only [lnA, List.length_map, List.length_range, true_and, and_true]; (try omega); done) | fail)) only [go_sem, hb8, Int.reduceEq, Int.reduceToNat, Nat.reduceAdd, Nat.reduceMul, Nat.reduceEqDiff, ↓reduceIte]))
  exact endW [] hQ
 ·
  obtain ⟨c, hcc, cm⟩ := rcmp_gt (k2.mono (show 7 ≤ 400000 by decide)) (sh8.mono (show 129 ≤ 400000 by decide)) (Rat.not_le.1 hc)
  rw [if_neg hc] at hr
  have hlt := h2.lt (by omega) (by rw [h18]; exact hc)
  have hfn : b - (n + 1) = f := by omega
  have hne : ((n + 1 : Nat) : Int) + 1 = ((n + 1 + 1 : Nat) : Int) := by omega
  clear hres hI sf sq1 sby' r1 r2 r3 r4 hc
  generalize 1 / (((n + 1 : Nat) : Int) : Rat) = iv at *
  generalize fac x n = fa at *
  generalize dn (tl * fa) b = A at *
  generalize up (th * fa) b = B at *
  generalize tl * fa = tlf at *
  generalize th * fa = thf at *
  generalize sl + A = sl' at *
  generalize hsh : sh + B = sh' at *
  generalize (1 : Rat) = one at *
  repeat (first | (refine callV0 (mk) rfl rfl ?_) | (refine callV0 (mf) rfl rfl ?_) | (refine callV0 (sc) rfl rfl ?_) | (refine callV0 (ou) rfl rfl ?_) | (refine callV0 (pl) rfl rfl ?_) | (refine callV0 (hh) rfl rfl ?_) | (refine callV0 (cm) rfl rfl ?_) | (simp (maxSteps := 1000000) (disch := (first | omega | (simp only [lnA, List.length_map, List.length_range, true_and, and_true]; (try omega); done) | fail)) only [go_sem, hb8, Int.reduceEq, Int.reduceToNat, Nat.reduceAdd, Nat.reduceMul, Nat.reduceEqDiff, ↓reduceIte]))
  refine nextW (n + 1, A, B, sl', sh') [some 0, some 1, some 2, some 3] ⟨hlt, by rw [hfn]; exact hr, h2, k1, k2, k3, k4⟩ (by simp only []; omega)
theorem sqX_RS {y : Rat} {b : Nat} {p : Rat × Rat} (h0 : 0 ≤ y) (h : SerE y b p.1 p.2) (hb : 200 ≤ b) (hb2 : b ≤ 300) (r1 : RS 4000 p.1) (r2 : RS 4000 p.2) : ∀ i, i ≤ 7 → RS 4000 (sqX b p i).1 ∧ RS 4000 (sqX b p i).2 := by
 intro i
 cases i with
 | zero => intro _; exact ⟨r1, r2⟩
 | succ i =>
  intro hi
  have k := sqX_ok h0 h hb i (by omega)
  have k1 := k.one
  have k2 := k.le
  have k3 := k.top
  have k4 : cap i * cap i + 1 / 1000000 ≤ cap (i + 1) := cap_le (by omega)
  have k5 : cap (i + 1) ≤ 162259276829213363391578010288128 := by
   have h : i = 0 ∨ i = 1 ∨ i = 2 ∨ i = 3 ∨ i = 4 ∨ i = 5 ∨ i = 6 := by omega
   rcases h with rfl | rfl | rfl | rfl | rfl | rfl | rfl <;> decide +kernel
  have k6 : (162259276829213363391578010288128 : Rat) ≤ tw 128 := by decide +kernel
  have q1 := mul_le_mul' k3 k3 (by grind) (by grind)
  have q2 := mul_le_mul' k2 k2 (by grind) (by grind)
  have q3 : 0 ≤ (sqX b p i).1 * (sqX b p i).1 := Rat.mul_nonneg (by grind) (by grind)
  unfold sqX
  exact ⟨(RS_dnN q3 (by grind) hb2).mono (by decide), (RS_upN (by grind) (by grind) hb2).mono (by decide)⟩
theorem sqX_zero (b : Nat) (p : Rat × Rat) : sqX b p 0 = p := rfl
def powX (x : Rat) (b T : Nat) : Rat × Rat := sqX b (serX (x * hf T) b) T
set_option maxHeartbeats 8000000 in
theorem power_fn {x : Rat} {b : Nat} (hx : RS 100 x) (h0 : 0 ≤ x) (h1 : x ≤ 64) (hb : 200 ≤ b) (hb2 : b ≤ 300) : ∃ T, T ≤ 7 ∧ x * hf T ≤ 1 / 2 ∧ (∀ j, j < T → ¬ x * hf j ≤ 1 / 2) ∧ PowR x b (powX x b T).1 (powX x b T).2 ∧ RS 4000 (powX x b T).1 ∧ RS 4000 (powX x b T).2 ∧
  Fn1 Tryz.prog 47 [RV x, .lit (.int .i64 (b : Int))] [] (BV (powX x b T).1 (powX x b T).2) [] := by
 obtain ⟨T, hT, hxT, hmin⟩ := halves_of h1
 have hp := hf_pos T
 have hy0 : 0 ≤ x * hf T := Rat.mul_nonneg h0 (Rat.le_of_lt hp)
 obtain ⟨fs, s1, s2⟩ := series_fn (x := x * hf T) (b := b) ((RS_mul hx (RS_hf (N := T) (by omega))).mono (by omega)) hy0 hxT hb hb2
 have hE := serX_ok hy0 hxT hb hb2
 have hsq := sqX_ok hy0 hE hb
 have hrs := sqX_RS hy0 hE hb hb2 s1 s2
 refine ⟨T, hT, hxT, hmin, (hsq T hT).res h0 hT, (hrs T hT).1, (hrs T hT).2, ?_⟩
 have hh1 := halfB_fn (N := 1) (by decide)
 rw [show (((1 : Nat) : Int)) = 1 from rfl] at hh1
 have sh1 := RS_hf (N := 1) (by decide)
 have hB : max 0 (min (b : Int) 512) = (b : Int) := by omega
 unfold powX
 generalize hS : serX (x * hf T) b = S at *
 generalize hF : hf 1 = h1' at *
 refine fn1N_of pl47 (by kernel_rfl) Tryz.call47 Tryz.func47 rfl (by kernel_rfl) rfl [.cell 4 57] (by kernel_rfl) fun Q hQ => ?_
 refine runW ?_
 refine loopW (X := Nat) (st := fun t => ([(1, .lit (.int .i64 (b : Int))), (2, .ref 0 0 0 0), (4, .ref 1 0 0 0), (5, .lit (.int .i64 (t : Int)))], [some (rwC x), some zbC]))
  (inv := fun t => t ≤ T) (m := fun t => T - t) 0 [some 0, some 1] (Nat.zero_le _) ?_
 intro t ht
 have hh := halfB_fn (N := t) (by omega)
 have sht := RS_hf (N := t) (by omega)
 have mu := rmul_fn (hx.mono (show 100 ≤ 400000 by decide)) (sht.mono (show 129 ≤ 400000 by decide))
 by_cases htT : t < T
 ·
  have hc := hmin t htT
  rw [← hf_1, hF] at hc
  obtain ⟨c, hcc, cm⟩ := rcmp_gt ((RS_mul hx sht).mono (show _ ≤ 400000 by decide)) (sh1.mono (show 129 ≤ 400000 by decide)) (Rat.not_le.1 hc)
  have e1 : (t : Int) + 1 = ((t + 1 : Nat) : Int) := by omega
  clear fs hE hsq hrs hS s1 s2
  generalize x * hf t = y at *
  generalize hf t = ht' at *
  repeat (first | (refine callV0 (hh) rfl rfl ?_) | (refine callV0 (mu) rfl rfl ?_) | (refine callV0 (hh1) rfl rfl ?_) | (refine callV0 (cm) rfl rfl ?_) | (refine runW ?_))
  refine nextW (t + 1) [some 0, some 1] (by omega) (by omega)
 ·
  obtain rfl : t = T := by omega
  have hc := hxT
  rw [← hf_1, hF] at hc
  obtain ⟨c, hcc, cm⟩ := rcmp_le ((RS_mul hx sht).mono (show _ ≤ 400000 by decide)) (sh1.mono (show 129 ≤ 400000 by decide)) hc
  clear hmin hE hS
  generalize x * hf t = y at *
  generalize hf t = ht' at *
  repeat (first | (refine callV0 (hh) rfl rfl ?_) | (refine callV0 (mu) rfl rfl ?_) | (refine callV0 (hh1) rfl rfl ?_) | (refine callV0 (cm) rfl rfl ?_) | (refine callV0 (fs) rfl rfl ?_) | (refine runW ?_))
  refine LoopV_of (X := Nat) (st := fun i => ([(1, .lit (.int .i64 (b : Int))), (4, .ref 0 0 0 0), (6, .ref 1 0 0 0), (22, .lit (.int .i64 (t : Int))), (23, .lit (.int .i64 (i : Int)))], [some zbC, some (bwC (sqX b S i).1 (sqX b S i).2)]))
   (inv := fun i => i ≤ t) (m := fun i => t - i) 0 [some 1, some 2] rfl (by simp only [sqX_zero]; (simp (disch := (first | omega | (simp only [lnA, List.length_map, List.length_range, true_and, and_true]; (try omega); done) | fail)) only [go_sem, Int.reduceEq, Int.reduceToNat, Nat.reduceAdd, Nat.reduceMul, Nat.reduceEqDiff, ↓reduceIte, true_and, and_true, and_self, List.drop_zero, List.take_length, Nat.le_refl, V.lit.injEq, Value.int.injEq, Value.bool.injEq]; try (first | omega | (simp; done) | (simp; omega)))) (by simp (disch := (first | omega | (simp only [lnA, List.length_map, List.length_range, true_and, and_true]; (try omega); done) | fail)) only [go_sem, Int.reduceEq, Int.reduceToNat, Nat.reduceAdd, Nat.reduceMul, Nat.reduceEqDiff, ↓reduceIte, true_and, and_true, and_self, List.drop_zero, List.take_length, Nat.le_refl, V.lit.injEq, Value.int.injEq, Value.bool.injEq]; try (first | omega | (simp; done) | (simp; omega))) (Nat.zero_le _) ?_
  intro i hi
  by_cases hit : i < t
  ·
   obtain ⟨r1, r2⟩ := hrs i (by omega)
   have ti := times_fn (r1.mono (show 4000 ≤ 100000 by decide)) (r2.mono (show 4000 ≤ 100000 by decide)) (r1.mono (show 4000 ≤ 100000 by decide)) (r2.mono (show 4000 ≤ 100000 by decide))
   have ou := out_fn hB ((RS_mul r1 r1).mono (show _ ≤ 90000 by decide)) ((RS_mul r2 r2).mono (show _ ≤ 90000 by decide))
   have e1 : (i : Int) + 1 = ((i + 1 : Nat) : Int) := by omega
   have q1 : (sqX b S (i + 1)).1 = dn ((sqX b S i).1 * (sqX b S i).1) b := rfl
   have q2 : (sqX b S (i + 1)).2 = up ((sqX b S i).2 * (sqX b S i).2) b := rfl
   clear fs hsq hrs s1 s2 cm
   generalize dn ((sqX b S i).1 * (sqX b S i).1) b = A at *
   generalize up ((sqX b S i).2 * (sqX b S i).2) b = B at *
   generalize (sqX b S i).1 * (sqX b S i).1 = A2 at *
   generalize (sqX b S i).2 * (sqX b S i).2 = B2 at *
   repeat (first | (refine callV0 (ti) rfl rfl ?_) | (refine callV0 (ou) rfl rfl ?_) | (refine runW ?_))
   refine NextV_of (i + 1) [some 0, some 1] rfl (by rw [q1, q2]; (simp (disch := (first | omega | (simp only [lnA, List.length_map, List.length_range, true_and, and_true]; (try omega); done) | fail)) only [go_sem, Int.reduceEq, Int.reduceToNat, Nat.reduceAdd, Nat.reduceMul, Nat.reduceEqDiff, ↓reduceIte, true_and, and_true, and_self, List.drop_zero, List.take_length, Nat.le_refl, V.lit.injEq, Value.int.injEq, Value.bool.injEq]; try (first | omega | (simp; done) | (simp; omega)))) (by simp (disch := (first | omega | (simp only [lnA, List.length_map, List.length_range, true_and, and_true]; (try omega); done) | fail)) only [go_sem, Int.reduceEq, Int.reduceToNat, Nat.reduceAdd, Nat.reduceMul, Nat.reduceEqDiff, ↓reduceIte, true_and, and_true, and_self, List.drop_zero, List.take_length, Nat.le_refl, V.lit.injEq, Value.int.injEq, Value.bool.injEq]; try (first | omega | (simp; done) | (simp; omega))) (by omega) (by omega)
  ·
   obtain rfl : i = t := by omega
   refine runW ?_
   exact endW [] hQ
theorem RS_c {z : Int} (h : z.natAbs < 18446744073709551616) : RS 400000 ((z : Int) : Rat) := (RS_small h).mono (by decide)
set_option maxHeartbeats 4000000 in
theorem expPos_fn {x : Rat} {N : Nat} (hx : RS 90 x) (hN : 1 ≤ N) (hN2 : N ≤ 64) (h0 : 0 ≤ x) (h1 : x ≤ ((64 : Int) : Rat)) :
  ∃ L H, PowR x (N + 208) L H ∧ RS 4000 L ∧ RS 4000 H ∧ Fn1 Tryz.prog 15 [RV x, .lit (.int .i64 (N : Int))] [] (.tup [BV L H, .lit (.int .i64 0)]) [] := by
 obtain ⟨T, hT, -, -, hP, s1, s2, pw⟩ := power_fn (x := x) (b := N + 208) (hx.mono (by decide)) h0 h1 (by omega) (by omega)
 refine ⟨_, _, hP, s1, s2, ?_⟩
 have o1 := rof_fn (n := 64) (by decide) (by decide)
 have o2 := rof_fn (n := -64) (by decide) (by decide)
 obtain ⟨c, hc, cm⟩ := rcmp_le (hx.mono (show 90 ≤ 400000 by decide)) (RS_c (z := 64) (by decide)) h1
 obtain ⟨c2, hc2, cm2⟩ := rcmp_ge (hx.mono (show 90 ≤ 400000 by decide)) (RS_c (z := -64) (by decide)) (Rat.le_trans (by decide +kernel) h0)
 have nm := rnum_fn (x := x)
 have ng := wneg_fn (z := x.num)
 rw [decide_eq_false (num_nonneg' h0)] at ng
 have hb : (N : Int) + 80 + 128 = ((N + 208 : Nat) : Int) := by omega
 have hb2 : (N : Int) + 208 = ((N + 208 : Nat) : Int) := by omega
 clear hP s1 s2
 generalize (powX x (N + 208) T).1 = L at *
 generalize (powX x (N + 208) T).2 = H at *
 generalize ((64 : Int) : Rat) = r1 at *
 generalize ((-64 : Int) : Rat) = r2 at *
 generalize x.num = xn at nm ng
 refine fn1N_of pl15 (by kernel_rfl) Tryz.call15 Tryz.func15 rfl (by kernel_rfl) rfl [.cell 4 57, .tmp 5] (by kernel_rfl) fun Q hQ => ?_
 repeat (first | (refine callV0 (o1) rfl rfl ?_) | (refine callV0 (cm) rfl rfl ?_) | (refine callV0 (o2) rfl rfl ?_) | (refine callV0 (cm2) rfl rfl ?_) | (refine callV0 (nm) rfl rfl ?_) | (refine callV0 (ng) rfl rfl ?_) | (refine callV0 (pw) rfl rfl ?_) | (simp (maxSteps := 1000000) (disch := (first | omega | (simp only [lnA, List.length_map, List.length_range, true_and, and_true]; (try omega); done) | fail)) only [go_sem, hb, hb2, Int.reduceEq, Int.reduceToNat, Nat.reduceAdd, Nat.reduceMul, Nat.reduceEqDiff, ↓reduceIte]))
 exact endW [] hQ
set_option maxHeartbeats 4000000 in
theorem expNegT_fn {x : Rat} {N : Nat} (hx : RS 90 x) (hN : 1 ≤ N) (hN2 : N ≤ 64) (h0 : x < 0) (h1 : ((-64 : Int) : Rat) ≤ x) :
  ∃ T, T ≤ 7 ∧ (0 - x) * hf T ≤ 1 / 2 ∧ (∀ j, j < T → ¬ (0 - x) * hf j ≤ 1 / 2) ∧ PowR (0 - x) (N + 208) (powX (0 - x) (N + 208) T).1 (powX (0 - x) (N + 208) T).2 ∧ RS 4000 (powX (0 - x) (N + 208) T).1 ∧ RS 4000 (powX (0 - x) (N + 208) T).2 ∧
   Fn1 Tryz.prog 15 [RV x, .lit (.int .i64 (N : Int))] [] (.tup [BV (dn (1 / (powX (0 - x) (N + 208) T).2) (N + 120)) (up (1 / (powX (0 - x) (N + 208) T).1) (N + 120)), .lit (.int .i64 0)]) [] := by
 have e64 : ((-64 : Int) : Rat) = -64 := by decide +kernel
 obtain ⟨T, hT, hx1, hx2, hP, s1, s2, pw⟩ := power_fn (x := 0 - x) (b := N + 208) ((RS_sub RS_zero hx).mono (by decide)) (by grind) (by rw [e64] at h1; grind) (by omega) (by omega)
 refine ⟨T, hT, hx1, hx2, hP, s1, s2, ?_⟩
 clear hx1 hx2
 have o1 := rof_fn (n := 64) (by decide) (by decide)
 have o2 := rof_fn (n := -64) (by decide) (by decide)
 obtain ⟨c, hc, cm⟩ := rcmp_le (hx.mono (show 90 ≤ 400000 by decide)) (RS_c (z := 64) (by decide)) (Rat.le_trans (Rat.le_of_lt h0) (by decide +kernel))
 obtain ⟨c2, hc2, cm2⟩ := rcmp_ge (hx.mono (show 90 ≤ 400000 by decide)) (RS_c (z := -64) (by decide)) h1
 have nm := rnum_fn (x := x)
 have ng := wneg_fn (z := x.num)
 rw [decide_eq_true (Int.not_le.1 fun e => Rat.not_le.2 h0 (Rat.num_nonneg.1 e))] at ng
 have hb : (N : Int) + 80 + 128 = ((N + 208 : Nat) : Int) := by omega
 have hb2 : (N : Int) + 208 = ((N + 208 : Nat) : Int) := by omega
 have mi := minusB_fn (hx.mono (show 90 ≤ 400000 by decide))
 have p1 := hP.one
 have p2 := hP.le
 have tu := turned_fn (l := (powX (0 - x) (N + 208) T).1) (h := (powX (0 - x) (N + 208) T).2) (by grind) (by grind) (s1.mono (show 4000 ≤ 90000 by decide)) (s2.mono (show 4000 ≤ 90000 by decide))
 have ou := out_fn (l := 1 / (powX (0 - x) (N + 208) T).2) (h := 1 / (powX (0 - x) (N + 208) T).1) (bits := (N : Int) + 120) (B := N + 120) (by omega) ((RS_div (by decide) RS_one1 s2).mono (show _ ≤ 90000 by decide)) ((RS_div (by decide) RS_one1 s1).mono (show _ ≤ 90000 by decide))
 clear hP s1 s2 p1 p2 e64
 generalize (powX (0 - x) (N + 208) T).1 = L at *
 generalize (powX (0 - x) (N + 208) T).2 = H at *
 generalize dn (1 / H) (N + 120) = D at *
 generalize up (1 / L) (N + 120) = U at *
 generalize 1 / H = iH at *
 generalize 1 / L = iL at *
 generalize 0 - x = mx at *
 generalize ((64 : Int) : Rat) = r1 at *
 generalize ((-64 : Int) : Rat) = r2 at *
 generalize x.num = xn at nm ng
 refine fn1N_of pl15 (by kernel_rfl) Tryz.call15 Tryz.func15 rfl (by kernel_rfl) rfl [.cell 4 57, .tmp 5] (by kernel_rfl) fun Q hQ => ?_
 repeat (first | (refine callV0 (o1) rfl rfl ?_) | (refine callV0 (cm) rfl rfl ?_) | (refine callV0 (o2) rfl rfl ?_) | (refine callV0 (cm2) rfl rfl ?_) | (refine callV0 (nm) rfl rfl ?_) | (refine callV0 (ng) rfl rfl ?_) | (refine callV0 (mi) rfl rfl ?_) | (refine callV0 (pw) rfl rfl ?_) | (refine callV0 (tu) rfl rfl ?_) | (refine callV0 (ou) rfl rfl ?_) | (simp (maxSteps := 1000000) (disch := (first | omega | (simp only [lnA, List.length_map, List.length_range, true_and, and_true]; (try omega); done) | fail)) only [go_sem, hb, hb2, Int.reduceEq, Int.reduceToNat, Nat.reduceAdd, Nat.reduceMul, Nat.reduceEqDiff, ↓reduceIte]))
 exact endW [] hQ
end Go.Proofs.YtdohmppildfjhaaGreatDoor
