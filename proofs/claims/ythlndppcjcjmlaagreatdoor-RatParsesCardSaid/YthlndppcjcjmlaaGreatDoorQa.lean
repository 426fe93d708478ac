import Derived.Test.YthlndppcjcjmlaaGreatDoorUe
import Derived.Test.YthlndppcjcjmlaaGreatDoorZq
/-! The document's fractions. -/
namespace Go.Proofs.YthlndppcjcjmlaaGreatDoor
open Go.Eng Go.Vx
set_option linter.unusedSimpArgs false
set_option linter.unusedVariables false
set_option maxRecDepth 100000
def QD (p m d : Nat) : V := .agg [.row 1 ((nl (dg p)).map (ie .i64)), .row 1 ((nl (dg m)).map (ie .i64)), .row 1 ((nl (dg d)).map (ie .i64))]
attribute [go_sem] QD
/-- The text of a fraction. -/
def qS (x : Rat) : List UInt8 := zS x.num ++ (if x.den = 1 then [] else 47 :: decS x.den)
theorem ZD0 (d : Nat) : ZD d 0 = .agg [.row 1 ((nl (dg d)).map (ie .i64)), .row 1 []] := by
  unfold ZD
  rw [dgz]
theorem qby_fn {p m d : Nat} (hp : (dg p).length ≤ 1000) (hm : (dg m).length ≤ 1000) (hd : (dg d).length ≤ 1000) : Fn1 Tryz.prog 61 [ZD p m, DV d] [] (ZD (p * d) (m * d)) [] := by
  have z : (dg 0).length ≤ 0 := by rw [dg_zero]; exact Nat.le_refl _
  have h := zmul_fn (a := p) (b := m) (c := d) (d := 0) (by omega) (by omega) (by omega) (by omega)
  rw [Nat.mul_zero, Nat.mul_zero, Nat.add_zero, Nat.zero_add, ZD0] at h
  refine fn1N_of pl61 (by kernel_rfl) Tryz.call61 Tryz.func61 rfl (by kernel_rfl) rfl [.cell 4 35] (by kernel_rfl) fun Q hQ => ?_
  simp (maxSteps := 1000000) (disch := (first | omega | (simp only [lnA, List.length_map, List.length_range, true_and, and_true]; (try omega); done) | fail)) only [go_sem, Int.reduceEq, Int.reduceToNat, Nat.reduceAdd, Nat.reduceMul, Nat.reduceEqDiff, ↓reduceIte]
  refine callW [] [] (h) ?_
  simp (maxSteps := 1000000) (disch := (first | omega | (simp only [lnA, List.length_map, List.length_range, true_and, and_true]; (try omega); done) | fail)) only [go_sem, Int.reduceEq, Int.reduceToNat, Nat.reduceAdd, Nat.reduceMul, Nat.reduceEqDiff, ↓reduceIte]
  exact endW [] hQ
theorem qfrac_fn {p m d : Nat} : Fn1 Tryz.prog 52 [ZD p m, DV d] [] (QD p m d) [] := by
  refine fn1N_of pl52 (by kernel_rfl) Tryz.call52 Tryz.func52 rfl (by kernel_rfl) rfl [.cell 4 37] (by kernel_rfl) fun Q hQ => ?_
  simp (maxSteps := 1000000) (disch := (first | omega | (simp only [lnA, List.length_map, List.length_range, true_and, and_true]; (try omega); done) | fail)) only [go_sem, Int.reduceEq, Int.reduceToNat, Nat.reduceAdd, Nat.reduceMul, Nat.reduceEqDiff, ↓reduceIte]
  exact endW [] hQ
theorem qadd_fn {p m d p' m' d' : Nat} (hp : (dg p).length ≤ 1000) (hm : (dg m).length ≤ 1000) (hd : (dg d).length ≤ 1000) (hp' : (dg p').length ≤ 1000) (hm' : (dg m').length ≤ 1000) (hd' : (dg d').length ≤ 1000) :
    Fn1 Tryz.prog 12 [QD p m d, QD p' m' d'] [] (QD (p * d' + p' * d) (m * d' + m' * d) (d * d')) [] := by
  have b1 := qby_fn hp hm hd'
  have b2 := qby_fn hp' hm' hd
  have l1 := dg_mul p d'
  have l2 := dg_mul m d'
  have l3 := dg_mul p' d
  have l4 := dg_mul m' d
  have a := zadd_fn (a := p * d') (b := m * d') (c := p' * d) (d := m' * d) (by omega) (by omega) (by omega) (by omega)
  have m1 := lmul_fn (a := d) (b := d') (by omega) (by omega)
  refine fn1N_of pl12 (by kernel_rfl) Tryz.call12 Tryz.func12 rfl (by kernel_rfl) rfl [.cell 4 37] (by kernel_rfl) fun Q hQ => ?_
  generalize p * d' + p' * d = u1 at *
  generalize m * d' + m' * d = u2 at *
  generalize p * d' = u3 at *
  generalize m * d' = u4 at *
  generalize p' * d = u5 at *
  generalize m' * d = u6 at *
  generalize d * d' = u7 at *
  repeat (first | (refine callV0 (b1) rfl rfl ?_) | (refine callV0 (b2) rfl rfl ?_) | (refine callV0 (a) rfl rfl ?_) | (refine callV0 (m1) rfl rfl ?_) | (simp (maxSteps := 1000000) (disch := (first | omega | (simp only [lnA, List.length_map, List.length_range, true_and, and_true]; (try omega); done) | fail)) only [go_sem, Int.reduceEq, Int.reduceToNat, Nat.reduceAdd, Nat.reduceMul, Nat.reduceEqDiff, ↓reduceIte]))
  exact endW [] hQ
theorem qmul_fn {p m d p' m' d' : Nat} (hp : (dg p).length ≤ 1000) (hm : (dg m).length ≤ 1000) (hd : (dg d).length ≤ 1000) (hp' : (dg p').length ≤ 1000) (hm' : (dg m').length ≤ 1000) (hd' : (dg d').length ≤ 1000) :
    Fn1 Tryz.prog 16 [QD p m d, QD p' m' d'] [] (QD (p * p' + m * m') (p * m' + m * p') (d * d')) [] := by
  have a := zmul_fn (a := p) (b := m) (c := p') (d := m') (by omega) (by omega) (by omega) (by omega)
  have m1 := lmul_fn (a := d) (b := d') (by omega) (by omega)
  refine fn1N_of pl16 (by kernel_rfl) Tryz.call16 Tryz.func16 rfl (by kernel_rfl) rfl [.cell 4 37] (by kernel_rfl) fun Q hQ => ?_
  generalize p * p' + m * m' = u1 at *
  generalize p * m' + m * p' = u2 at *
  generalize d * d' = u7 at *
  repeat (first | (refine callV0 (a) rfl rfl ?_) | (refine callV0 (m1) rfl rfl ?_) | (simp (maxSteps := 1000000) (disch := (first | omega | (simp only [lnA, List.length_map, List.length_range, true_and, and_true]; (try omega); done) | fail)) only [go_sem, Int.reduceEq, Int.reduceToNat, Nat.reduceAdd, Nat.reduceMul, Nat.reduceEqDiff, ↓reduceIte]))
  exact endW [] hQ
theorem qturn_fn {p m d : Nat} : Fn1 Tryz.prog 14 [QD p m d] [] (QD m p d) [] := by
  have h := zturn_fn (a := p) (b := m)
  refine fn1N_of pl14 (by kernel_rfl) Tryz.call14 Tryz.func14 rfl (by kernel_rfl) rfl [.cell 2 37] (by kernel_rfl) fun Q hQ => ?_
  repeat (first | (refine callV0 (h) rfl rfl ?_) | (simp (maxSteps := 1000000) (disch := (first | omega | (simp only [lnA, List.length_map, List.length_range, true_and, and_true]; (try omega); done) | fail)) only [go_sem, Int.reduceEq, Int.reduceToNat, Nat.reduceAdd, Nat.reduceMul, Nat.reduceEqDiff, ↓reduceIte]))
  exact endW [] hQ
theorem mkRat_cmp {a b : Int} {d e : Nat} (hd : d ≠ 0) (he : e ≠ 0) : cmpZ (a * e) (b * d) = cmpQ (mkRat a d) (mkRat b e) := by
  rw [← cmpQ_eq]
  obtain ⟨g, hg, ha, hdd⟩ : ∃ g : Nat, g ≠ 0 ∧ a = (mkRat a d).num * g ∧ d = (mkRat a d).den * g := Rat.mkRat_num_den hd rfl
  obtain ⟨k, hk, hb, hee⟩ : ∃ k : Nat, k ≠ 0 ∧ b = (mkRat b e).num * k ∧ e = (mkRat b e).den * k := Rat.mkRat_num_den he rfl
  generalize (mkRat a d).num = x at *
  generalize (mkRat a d).den = u at *
  generalize (mkRat b e).num = y at *
  generalize (mkRat b e).den = v at *
  have hgk : (0 : Int) < (g : Int) * (k : Int) := Int.mul_pos (by omega) (by omega)
  have e1 : a * (e : Int) = x * (v : Int) * ((g : Int) * (k : Int)) := by
    rw [ha, hee, Int.natCast_mul]
    simp only [Int.mul_assoc, Int.mul_comm, Int.mul_left_comm]
  have e2 : b * (d : Int) = y * (u : Int) * ((g : Int) * (k : Int)) := by
    rw [hb, hdd, Int.natCast_mul]
    simp only [Int.mul_assoc, Int.mul_comm, Int.mul_left_comm]
  rw [e1, e2]
  generalize (g : Int) * (k : Int) = c at *
  generalize x * (v : Int) = s at *
  generalize y * (u : Int) = t at *
  have h1 : s * c < t * c ↔ s < t := Int.mul_lt_mul_right hgk
  have h2 : t * c < s * c ↔ t < s := Int.mul_lt_mul_right hgk
  unfold cmpZ
  simp only [h1, h2]
theorem qcmp_fn {p m d p' m' d' : Nat} {x y : Rat} (hd0 : d ≠ 0) (he0 : d' ≠ 0) (hx : x = mkRat ((p : Int) - m) d) (hy : y = mkRat ((p' : Int) - m') d') (hp : (dg p).length ≤ 1000) (hm : (dg m).length ≤ 1000) (hd : (dg d).length ≤ 1000) (hp' : (dg p').length ≤ 1000) (hm' : (dg m').length ≤ 1000) (hd' : (dg d').length ≤ 1000) :
    Fn1 Tryz.prog 18 [QD p m d, QD p' m' d'] [] (.lit (.int .i64 (cmpQ x y))) [] := by
  have b1 := qby_fn hp hm hd'
  have b2 := qby_fn hp' hm' hd
  have l1 := dg_mul p d'
  have l2 := dg_mul m d'
  have l3 := dg_mul p' d
  have l4 := dg_mul m' d
  have c := zcmp_fn (a := p * d') (b := m * d') (c := p' * d) (d := m' * d) (x := ((p : Int) - m) * d') (y := ((p' : Int) - m') * d) (by rw [Int.sub_mul]; simp) (by rw [Int.sub_mul]; simp) (by omega) (by omega) (by omega) (by omega)
  rw [mkRat_cmp hd0 he0, ← hx, ← hy] at c
  refine fn1N_of pl18 (by kernel_rfl) Tryz.call18 Tryz.func18 rfl (by kernel_rfl) rfl [.tmp 4] (by kernel_rfl) fun Q hQ => ?_
  generalize p * d' = u3 at *
  generalize m * d' = u4 at *
  generalize p' * d = u5 at *
  generalize m' * d = u6 at *
  repeat (first | (refine callV0 (b1) rfl rfl ?_) | (refine callV0 (b2) rfl rfl ?_) | (refine callV0 (c) rfl rfl ?_) | (simp (maxSteps := 1000000) (disch := (first | omega | (simp only [lnA, List.length_map, List.length_range, true_and, and_true]; (try omega); done) | fail)) only [go_sem, Int.reduceEq, Int.reduceToNat, Nat.reduceAdd, Nat.reduceMul, Nat.reduceEqDiff, ↓reduceIte]))
  exact endW [] hQ
theorem mkRat_neg0 {n : Int} {d : Nat} (hd : d ≠ 0) : (mkRat n d).num < 0 ↔ n < 0 := by
  rw [mkRat_numG hd]
  have hg : 0 < Nat.gcd n.natAbs d := Nat.pos_of_ne_zero fun e => hd (Nat.gcd_eq_zero_iff.1 e).2
  by_cases h : n < 0
  · rw [decide_eq_true h]
    have hle : Nat.gcd n.natAbs d ≤ n.natAbs := Nat.gcd_le_left d (by omega)
    have := Nat.div_pos hle hg
    generalize n.natAbs / Nat.gcd n.natAbs d = k at *
    simp only [sg, if_true]
    omega
  · rw [decide_eq_false h]
    generalize n.natAbs / Nat.gcd n.natAbs d = k at *
    simp only [sg, Bool.false_eq_true, if_false]
    omega
set_option maxHeartbeats 2000000 in
theorem qtext_fn {p m d : Nat} {x : Rat} (hd0 : d ≠ 0) (hx : x = mkRat ((p : Int) - m) d) (hp : (dg p).length ≤ 3000) (hm : (dg m).length ≤ 3000) (hd : (dg d).length ≤ 3000) : Fn1 Tryz.prog 56 [QD p m d] [] (.lit (.string (bs (qS x)))) [] := by
  obtain ⟨z, hz⟩ : ∃ z : Int, z = (p : Int) - m := ⟨_, rfl⟩
  rw [← hz] at hx
  have hn := mkRat_numG (n := z) hd0
  have hdn := mkRat_denG (n := z) hd0
  have hng := mkRat_neg0 (n := z) hd0
  rw [← hx] at hn hdn hng
  have hna : x.num.natAbs = z.natAbs / Nat.gcd z.natAbs d := by rw [hn, sg_abs]
  have zl : (dg z.natAbs).length ≤ 3000 := by
    by_cases h : m ≤ p
    · exact Nat.le_trans (dg_mono (show z.natAbs ≤ p by omega)) hp
    · exact Nat.le_trans (dg_mono (show z.natAbs ≤ m by omega)) hm
  have hg : Nat.gcd z.natAbs d ≠ 0 := fun e => hd0 (Nat.gcd_eq_zero_iff.1 e).2
  have gl : (dg (Nat.gcd z.natAbs d)).length ≤ 3000 := Nat.le_trans (dg_mono (Nat.gcd_le_right _ (by omega))) hd
  have f1 := zabs_fn (a := p) (b := m) hz (by omega) (by omega)
  have f2 := lgcd_fn (a := z.natAbs) (b := d) (by omega) (by omega)
  have f3 := ldiv_fn (a := z.natAbs) (b := Nat.gcd z.natAbs d) (by omega) (by omega) (by omega)
  have f4 := ldiv_fn (a := d) (b := Nat.gcd z.natAbs d) (by omega) (by omega) (by omega)
  rw [← hna] at f3
  rw [← hdn] at f4
  have xl : (dg x.num.natAbs).length ≤ 3000 := by rw [hna]; exact Nat.le_trans (dg_mono (Nat.div_le_self _ _)) zl
  have xd : (dg x.den).length ≤ 3000 := by rw [hdn]; exact Nat.le_trans (dg_mono (Nat.div_le_self _ _)) hd
  have f5 := rtext_fn (n := x.num.natAbs) (by omega)
  have f6 := zneg_fn (a := p) (b := m) hz (by omega) (by omega)
  have f7 := small_fn (n := 1) (by decide)
  have l1 : (dg 1).length ≤ 1 := dg_len (by decide)
  have f8 := lcmp_fn (a := x.den) (b := 1) (by omega) (by omega)
  have f9 := rtext_fn (n := x.den) (by omega)
  have s1 := decS_dg xl
  have s2 := decS_dg xd
  have hc : decide (cmpI x.den 1 = 0) = decide (x.den = 1) := by congr 1; unfold cmpI; refine propext ?_; split <;> (try split) <;> omega
  have hneg : decide (z < 0) = decide (x.num < 0) := by congr 1; exact propext hng.symm
  rw [hneg] at f6
  clear hn hdn hng hna hx hz hneg
  unfold qS zS
  generalize z.natAbs % Nat.gcd z.natAbs d = r1 at *
  generalize d % Nat.gcd z.natAbs d = r2 at *
  generalize Nat.gcd z.natAbs d = g at *
  by_cases h1 : x.num < 0
  · rw [decide_eq_true h1] at f6
    by_cases h2 : x.den = 1
    · rw [decide_eq_true h2] at hc
      rw [if_pos h1, if_pos h2, List.append_nil]
      refine fn1N_of pl56 (by kernel_rfl) Tryz.call56 Tryz.func56 rfl (by kernel_rfl) rfl [.tmp 2] (by kernel_rfl) fun Q hQ => ?_
      repeat (first | (refine callV0 (f1) rfl rfl ?_) | (refine callV0 (f2) rfl rfl ?_) | (refine callV0 (f3) rfl rfl ?_) | (refine callV0 (f4) rfl rfl ?_) | (refine callV0 (f5) rfl rfl ?_) | (refine callV0 (f6) rfl rfl ?_) | (refine callV0 (f7) rfl rfl ?_) | (refine callV0 (f8) rfl rfl ?_) | (refine callV0 (f9) rfl rfl ?_) | (simp (maxSteps := 1000000) (disch := (first | omega | (simp only [lnA, List.length_map, List.length_range, true_and, and_true]; (try omega); done) | fail)) only [go_sem, hc, Int.reduceEq, Int.reduceToNat, Nat.reduceAdd, Nat.reduceMul, Nat.reduceEqDiff, ↓reduceIte]))
      exact endW [] hQ
    · rw [decide_eq_false h2] at hc
      rw [if_pos h1, if_neg h2]
      refine fn1N_of pl56 (by kernel_rfl) Tryz.call56 Tryz.func56 rfl (by kernel_rfl) rfl [.tmp 2] (by kernel_rfl) fun Q hQ => ?_
      repeat (first | (refine callV0 (f1) rfl rfl ?_) | (refine callV0 (f2) rfl rfl ?_) | (refine callV0 (f3) rfl rfl ?_) | (refine callV0 (f4) rfl rfl ?_) | (refine callV0 (f5) rfl rfl ?_) | (refine callV0 (f6) rfl rfl ?_) | (refine callV0 (f7) rfl rfl ?_) | (refine callV0 (f8) rfl rfl ?_) | (refine callV0 (f9) rfl rfl ?_) | (simp (maxSteps := 1000000) (disch := (first | omega | (simp only [lnA, List.length_map, List.length_range, true_and, and_true]; (try omega); done) | fail)) only [go_sem, hc, Int.reduceEq, Int.reduceToNat, Nat.reduceAdd, Nat.reduceMul, Nat.reduceEqDiff, ↓reduceIte]))
      trace_state
      exact endW [] hQ
  · rw [decide_eq_false h1] at f6
    by_cases h2 : x.den = 1
    · rw [decide_eq_true h2] at hc
      rw [if_neg h1, if_pos h2, List.append_nil]
      refine fn1N_of pl56 (by kernel_rfl) Tryz.call56 Tryz.func56 rfl (by kernel_rfl) rfl [.tmp 2] (by kernel_rfl) fun Q hQ => ?_
      repeat (first | (refine callV0 (f1) rfl rfl ?_) | (refine callV0 (f2) rfl rfl ?_) | (refine callV0 (f3) rfl rfl ?_) | (refine callV0 (f4) rfl rfl ?_) | (refine callV0 (f5) rfl rfl ?_) | (refine callV0 (f6) rfl rfl ?_) | (refine callV0 (f7) rfl rfl ?_) | (refine callV0 (f8) rfl rfl ?_) | (refine callV0 (f9) rfl rfl ?_) | (simp (maxSteps := 1000000) (disch := (first | omega | (simp only [lnA, List.length_map, List.length_range, true_and, and_true]; (try omega); done) | fail)) only [go_sem, hc, Int.reduceEq, Int.reduceToNat, Nat.reduceAdd, Nat.reduceMul, Nat.reduceEqDiff, ↓reduceIte]))
      exact endW [] hQ
    · rw [decide_eq_false h2] at hc
      rw [if_neg h1, if_neg h2]
      refine fn1N_of pl56 (by kernel_rfl) Tryz.call56 Tryz.func56 rfl (by kernel_rfl) rfl [.tmp 2] (by kernel_rfl) fun Q hQ => ?_
      repeat (first | (refine callV0 (f1) rfl rfl ?_) | (refine callV0 (f2) rfl rfl ?_) | (refine callV0 (f3) rfl rfl ?_) | (refine callV0 (f4) rfl rfl ?_) | (refine callV0 (f5) rfl rfl ?_) | (refine callV0 (f6) rfl rfl ?_) | (refine callV0 (f7) rfl rfl ?_) | (refine callV0 (f8) rfl rfl ?_) | (refine callV0 (f9) rfl rfl ?_) | (simp (maxSteps := 1000000) (disch := (first | omega | (simp only [lnA, List.length_map, List.length_range, true_and, and_true]; (try omega); done) | fail)) only [go_sem, hc, Int.reduceEq, Int.reduceToNat, Nat.reduceAdd, Nat.reduceMul, Nat.reduceEqDiff, ↓reduceIte]))
      exact endW [] hQ
end Go.Proofs.YthlndppcjcjmlaaGreatDoor
