import Derived.Test.YthlndppcjcjmlaaDoorUe
import Derived.Test.YthlndppcjcjmlaaDoorZq
/-! The document's fractions. -/
namespace Go.Proofs.YthlndppcjcjmlaaDoor
open Go.Eng Go.Vx
set_option linter.unusedSimpArgs false
set_option linter.unusedVariables false
set_option maxRecDepth 100000
def QD (p m d : Nat) : V := .agg [.row 1 ((nl (dg p)).map (ie .i64)), .row 1 ((nl (dg m)).map (ie .i64)), .row 1 ((nl (dg d)).map (ie .i64))]
attribute [go_sem] QD
/-- The text of a fraction. -/
def qS (x : Rat) : List UInt8 := zS x.num ++ (if x.den = 1 then [] else 47 :: decS x.den)
theorem ZD0 (d : Nat) : ZD d 0 = .agg [.row 1 ((nl (dg d)).map (ie .i64)), .row 1 []] := by
  unfold ZD
  rw [dgz]
theorem qfrac_fn {p m d : Nat} : Fn1 Tryd.prog 32 [ZD p m, DV d] [] (QD p m d) [] := by
  refine fn1N_of pl32 (by kernel_rfl) Tryd.call32 Tryd.func32 rfl (by kernel_rfl) rfl [.cell 4 37] (by kernel_rfl) fun Q hQ => ?_
  simp (maxSteps := 1000000) (disch := (first | omega | (simp only [lnA, List.length_map, List.length_range, true_and, and_true]; (try omega); done) | fail)) only [go_sem, Int.reduceEq, Int.reduceToNat, Nat.reduceAdd, Nat.reduceMul, Nat.reduceEqDiff, ↓reduceIte]
  exact endW [] hQ
theorem qmul_fn {p m d p' m' d' : Nat} (hp : (dg p).length ≤ 1000) (hm : (dg m).length ≤ 1000) (hd : (dg d).length ≤ 1000) (hp' : (dg p').length ≤ 1000) (hm' : (dg m').length ≤ 1000) (hd' : (dg d').length ≤ 1000) :
    Fn1 Tryd.prog 17 [QD p m d, QD p' m' d'] [] (QD (p * p' + m * m') (p * m' + m * p') (d * d')) [] := by
  have a := zmul_fn (a := p) (b := m) (c := p') (d := m') (by omega) (by omega) (by omega) (by omega)
  have m1 := lmul_fn (a := d) (b := d') (by omega) (by omega)
  refine fn1N_of pl17 (by kernel_rfl) Tryd.call17 Tryd.func17 rfl (by kernel_rfl) rfl [.cell 4 37] (by kernel_rfl) fun Q hQ => ?_
  generalize p * p' + m * m' = u1 at *
  generalize p * m' + m * p' = u2 at *
  generalize d * d' = u7 at *
  repeat (first | (refine callV0 (a) rfl rfl ?_) | (refine callV0 (m1) rfl rfl ?_) | (simp (maxSteps := 1000000) (disch := (first | omega | (simp only [lnA, List.length_map, List.length_range, true_and, and_true]; (try omega); done) | fail)) only [go_sem, Int.reduceEq, Int.reduceToNat, Nat.reduceAdd, Nat.reduceMul, Nat.reduceEqDiff, ↓reduceIte]))
  exact endW [] hQ
theorem mkRat_neg0 {n : Int} {d : Nat} (hd : d ≠ 0) : (mkRat n d).num < 0 ↔ n < 0 := by
  rw [mkRat_numG hd]
  have hg : 0 < Nat.gcd n.natAbs d := Nat.pos_of_ne_zero fun e => hd (Nat.gcd_eq_zero_iff.1 e).2
  by_cases h : n < 0
  · rw [decide_eq_true h]
    have hle : Nat.gcd n.natAbs d ≤ n.natAbs := Nat.gcd_le_left d (by omega)
    have := Nat.div_pos hle hg
    generalize n.natAbs / Nat.gcd n.natAbs d = k at *
    simp only [sg, if_true]
    omega
  · rw [decide_eq_false h]
    generalize n.natAbs / Nat.gcd n.natAbs d = k at *
    simp only [sg, Bool.false_eq_true, if_false]
    omega
set_option maxHeartbeats 2000000 in
theorem qtext_fn {p m d : Nat} {x : Rat} (hd0 : d ≠ 0) (hx : x = mkRat ((p : Int) - m) d) (hp : (dg p).length ≤ 3000) (hm : (dg m).length ≤ 3000) (hd : (dg d).length ≤ 3000) : Fn1 Tryd.prog 48 [QD p m d] [] (.lit (.string (bs (qS x)))) [] := by
  obtain ⟨z, hz⟩ : ∃ z : Int, z = (p : Int) - m := ⟨_, rfl⟩
  rw [← hz] at hx
  have hn := mkRat_numG (n := z) hd0
  have hdn := mkRat_denG (n := z) hd0
  have hng := mkRat_neg0 (n := z) hd0
  rw [← hx] at hn hdn hng
  have hna : x.num.natAbs = z.natAbs / Nat.gcd z.natAbs d := by rw [hn, sg_abs]
  have zl : (dg z.natAbs).length ≤ 3000 := by
    by_cases h : m ≤ p
    · exact Nat.le_trans (dg_mono (show z.natAbs ≤ p by omega)) hp
    · exact Nat.le_trans (dg_mono (show z.natAbs ≤ m by omega)) hm
  have hg : Nat.gcd z.natAbs d ≠ 0 := fun e => hd0 (Nat.gcd_eq_zero_iff.1 e).2
  have gl : (dg (Nat.gcd z.natAbs d)).length ≤ 3000 := Nat.le_trans (dg_mono (Nat.gcd_le_right _ (by omega))) hd
  have f1 := zabs_fn (a := p) (b := m) hz (by omega) (by omega)
  have f2 := lgcd_fn (a := z.natAbs) (b := d) (by omega) (by omega)
  have f3 := ldiv_fn (a := z.natAbs) (b := Nat.gcd z.natAbs d) (by omega) (by omega) (by omega)
  have f4 := ldiv_fn (a := d) (b := Nat.gcd z.natAbs d) (by omega) (by omega) (by omega)
  rw [← hna] at f3
  rw [← hdn] at f4
  have xl : (dg x.num.natAbs).length ≤ 3000 := by rw [hna]; exact Nat.le_trans (dg_mono (Nat.div_le_self _ _)) zl
  have xd : (dg x.den).length ≤ 3000 := by rw [hdn]; exact Nat.le_trans (dg_mono (Nat.div_le_self _ _)) hd
  have f5 := rtext_fn (n := x.num.natAbs) (by omega)
  have f6 := zneg_fn (a := p) (b := m) hz (by omega) (by omega)
  have f7 := small_fn (n := 1) (by decide)
  have l1 : (dg 1).length ≤ 1 := dg_len (by decide)
  have f8 := lcmp_fn (a := x.den) (b := 1) (by omega) (by omega)
  have f9 := rtext_fn (n := x.den) (by omega)
  have s1 := decS_dg xl
  have s2 := decS_dg xd
  have hc : decide (cmpI x.den 1 = 0) = decide (x.den = 1) := by congr 1; unfold cmpI; refine propext ?_; split <;> (try split) <;> omega
  have hneg : decide (z < 0) = decide (x.num < 0) := by congr 1; exact propext hng.symm
  rw [hneg] at f6
  clear hn hdn hng hna hx hz hneg
  unfold qS zS
  generalize z.natAbs % Nat.gcd z.natAbs d = r1 at *
  generalize d % Nat.gcd z.natAbs d = r2 at *
  generalize Nat.gcd z.natAbs d = g at *
  by_cases h1 : x.num < 0
  · rw [decide_eq_true h1] at f6
    by_cases h2 : x.den = 1
    · rw [decide_eq_true h2] at hc
      rw [if_pos h1, if_pos h2, List.append_nil]
      refine fn1N_of pl48 (by kernel_rfl) Tryd.call48 Tryd.func48 rfl (by kernel_rfl) rfl [.tmp 2] (by kernel_rfl) fun Q hQ => ?_
      repeat (first | (refine callV0 (f1) rfl rfl ?_) | (refine callV0 (f2) rfl rfl ?_) | (refine callV0 (f3) rfl rfl ?_) | (refine callV0 (f4) rfl rfl ?_) | (refine callV0 (f5) rfl rfl ?_) | (refine callV0 (f6) rfl rfl ?_) | (refine callV0 (f7) rfl rfl ?_) | (refine callV0 (f8) rfl rfl ?_) | (refine callV0 (f9) rfl rfl ?_) | (simp (maxSteps := 1000000) (disch := (first | omega | (simp only [lnA, List.length_map, List.length_range, true_and, and_true]; (try omega); done) | fail)) only [go_sem, hc, Int.reduceEq, Int.reduceToNat, Nat.reduceAdd, Nat.reduceMul, Nat.reduceEqDiff, ↓reduceIte]))
      exact endW [] hQ
    · rw [decide_eq_false h2] at hc
      rw [if_pos h1, if_neg h2]
      refine fn1N_of pl48 (by kernel_rfl) Tryd.call48 Tryd.func48 rfl (by kernel_rfl) rfl [.tmp 2] (by kernel_rfl) fun Q hQ => ?_
      repeat (first | (refine callV0 (f1) rfl rfl ?_) | (refine callV0 (f2) rfl rfl ?_) | (refine callV0 (f3) rfl rfl ?_) | (refine callV0 (f4) rfl rfl ?_) | (refine callV0 (f5) rfl rfl ?_) | (refine callV0 (f6) rfl rfl ?_) | (refine callV0 (f7) rfl rfl ?_) | (refine callV0 (f8) rfl rfl ?_) | (refine callV0 (f9) rfl rfl ?_) | (simp (maxSteps := 1000000) (disch := (first | omega | (simp only [lnA, List.length_map, List.length_range, true_and, and_true]; (try omega); done) | fail)) only [go_sem, hc, Int.reduceEq, Int.reduceToNat, Nat.reduceAdd, Nat.reduceMul, Nat.reduceEqDiff, ↓reduceIte]))
      trace_state
      exact endW [] hQ
  · rw [decide_eq_false h1] at f6
    by_cases h2 : x.den = 1
    · rw [decide_eq_true h2] at hc
      rw [if_neg h1, if_pos h2, List.append_nil]
      refine fn1N_of pl48 (by kernel_rfl) Tryd.call48 Tryd.func48 rfl (by kernel_rfl) rfl [.tmp 2] (by kernel_rfl) fun Q hQ => ?_
      repeat (first | (refine callV0 (f1) rfl rfl ?_) | (refine callV0 (f2) rfl rfl ?_) | (refine callV0 (f3) rfl rfl ?_) | (refine callV0 (f4) rfl rfl ?_) | (refine callV0 (f5) rfl rfl ?_) | (refine callV0 (f6) rfl rfl ?_) | (refine callV0 (f7) rfl rfl ?_) | (refine callV0 (f8) rfl rfl ?_) | (refine callV0 (f9) rfl rfl ?_) | (simp (maxSteps := 1000000) (disch := (first | omega | (simp only [lnA, List.length_map, List.length_range, true_and, and_true]; (try omega); done) | fail)) only [go_sem, hc, Int.reduceEq, Int.reduceToNat, Nat.reduceAdd, Nat.reduceMul, Nat.reduceEqDiff, ↓reduceIte]))
      exact endW [] hQ
    · rw [decide_eq_false h2] at hc
      rw [if_neg h1, if_neg h2]
      refine fn1N_of pl48 (by kernel_rfl) Tryd.call48 Tryd.func48 rfl (by kernel_rfl) rfl [.tmp 2] (by kernel_rfl) fun Q hQ => ?_
      repeat (first | (refine callV0 (f1) rfl rfl ?_) | (refine callV0 (f2) rfl rfl ?_) | (refine callV0 (f3) rfl rfl ?_) | (refine callV0 (f4) rfl rfl ?_) | (refine callV0 (f5) rfl rfl ?_) | (refine callV0 (f6) rfl rfl ?_) | (refine callV0 (f7) rfl rfl ?_) | (refine callV0 (f8) rfl rfl ?_) | (refine callV0 (f9) rfl rfl ?_) | (simp (maxSteps := 1000000) (disch := (first | omega | (simp only [lnA, List.length_map, List.length_range, true_and, and_true]; (try omega); done) | fail)) only [go_sem, hc, Int.reduceEq, Int.reduceToNat, Nat.reduceAdd, Nat.reduceMul, Nat.reduceEqDiff, ↓reduceIte]))
      exact endW [] hQ
end Go.Proofs.YthlndppcjcjmlaaDoor
