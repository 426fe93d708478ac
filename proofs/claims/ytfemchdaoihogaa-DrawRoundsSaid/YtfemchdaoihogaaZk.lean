import Derived.Test.YtfemchdaoihogaaZ4
import Derived.Test.YtfemchdaoihogaaTi
/-! The document's draws. -/
namespace Go.Proofs.Ytfemchdaoihogaa
open Go.Eng Go.Vx
set_option linter.unusedSimpArgs false
set_option linter.unusedVariables false
set_option maxRecDepth 100000
theorem below0_fn {L : List Bool} {p : Nat} : Fn1 Try.prog 29 [.ref 0 0 0 0, .lit (.int .u64 0)] [some (tpC L p false)] (.tup [.lit (.int .u64 0), .lit (.int .i64 2)]) [some (tpC L p false)] := by
  refine fn1_of pl29 (by kernel_rfl) Try.call29 Try.func29 rfl (by kernel_rfl) rfl [.tmp 4, .tmp 5] (by kernel_rfl) fun Q hQ => ?_
  simp (maxSteps := 1000000) (disch := (first | omega | (simp only [lnA, List.length_map, List.length_range, true_and, and_true]; (try omega); done) | fail)) only [go_sem, Int.reduceEq, Int.reduceToNat, Nat.reduceAdd, Nat.reduceMul, Nat.reduceEqDiff, ↓reduceIte]
  exact endW [some 0] hQ
theorem refBelow0_fn {L : List Bool} {p : Nat} : Fn1 Try.prog 30 [.row 1 (L.map be), .lit (.int .i64 (p : Int)), .lit (.int .u64 0)] [] (outV 0 0 2) [] := by
  refine fn1_of pl30 (by kernel_rfl) Try.call30 Try.func30 rfl (by kernel_rfl) rfl [.cell 6 66] (by kernel_rfl) fun Q hQ => ?_
  simp (maxSteps := 1000000) (disch := (first | omega | (simp only [lnA, List.length_map, List.length_range, true_and, and_true]; (try omega); done) | fail)) only [go_sem, Int.reduceEq, Int.reduceToNat, Nat.reduceAdd, Nat.reduceMul, Nat.reduceEqDiff, ↓reduceIte]
  exact endW [] hQ
theorem cT_take {L : List Bool} {p i : Nat} (h : p + i < L.length) : cT ((L.drop p).take (i + 1)) = cT ((L.drop p).take i) + (L.getD (p + i) false).toNat := by
  have e : (L.drop p).take (i + 1) = (L.drop p).take i ++ [L.getD (p + i) false] := by
    rw [List.take_add_one, List.getElem?_drop, List.getElem?_eq_getElem h, List.getD_eq_getElem?_getD, List.getElem?_eq_getElem h]
    rfl
  rw [e, cT_snoc]
theorem refBinom_fn {L : List Bool} {p Y : Nat} {y : Int} (hL : L.length ≤ 1048576) (hp : p ≤ L.length) (hy : max 0 y = (Y : Int)) (hY : Y ≤ 1000000) : Fn1 Try.prog 32 [.row 1 (L.map be), .lit (.int .i64 (p : Int)), .lit (.int .i64 y)] []
    (outV (binX L Y p).1 ((binX L Y p).2.2.1 - p) (binX L Y p).2.1) [] := by
  refine fn1_of pl32 (by kernel_rfl) Try.call32 Try.func32 rfl (by kernel_rfl) rfl [.cell 6 66] (by kernel_rfl) fun Q hQ => ?_
  unfold binX at hQ
  simp (maxSteps := 1000000) (disch := (first | omega | (simp only [lnA, List.length_map, List.length_range, true_and, and_true]; (try omega); done) | fail)) only [go_sem, Int.reduceEq, Int.reduceToNat, Nat.reduceAdd, Nat.reduceMul, Nat.reduceEqDiff, ↓reduceIte]
  refine LoopV_of (X := Nat) (st := fun i => ([(0, .row 1 (L.map be)), (1, .lit (.int .i64 (p : Int))), (2, .lit (.int .i64 y)), (6, .ref 0 0 0 0), (7, .lit (.int .u64 ((cT ((L.drop p).take i) : Nat) : Int))), (8, .lit (.int .i64 (i : Int)))], [some (.cells [.lit (.int .u64 0), .lit (.int .i64 0), .lit (.int .i64 0)])]))
    (inv := fun i => i ≤ Y ∧ p + i ≤ L.length) (m := fun i => Y - i) 0 [some 0] rfl (by simp (disch := (first | omega | (simp only [lnA, List.length_map, List.length_range, true_and, and_true]; (try omega); done) | fail)) only [go_sem, Int.reduceEq, Int.reduceToNat, Nat.reduceAdd, Nat.reduceMul, Nat.reduceEqDiff, ↓reduceIte, true_and, and_true, and_self, List.drop_zero, List.take_length, Nat.le_refl, V.lit.injEq, Value.int.injEq, Value.bool.injEq]; try (first | omega | (simp; done) | (simp; omega))) (by simp only [List.take_zero, cT]; (simp (disch := (first | omega | (simp only [lnA, List.length_map, List.length_range, true_and, and_true]; (try omega); done) | fail)) only [go_sem, Int.reduceEq, Int.reduceToNat, Nat.reduceAdd, Nat.reduceMul, Nat.reduceEqDiff, ↓reduceIte, true_and, and_true, and_self, List.drop_zero, List.take_length, Nat.le_refl, V.lit.injEq, Value.int.injEq, Value.bool.injEq]; try (first | omega | (simp; done) | (simp; omega)))) ⟨by omega, by omega⟩ ?_
  rintro i ⟨hi, hpi⟩
  have hct := cT_le ((L.drop p).take i)
  have hcl : ((L.drop p).take i).length ≤ 1048576 := by rw [List.length_take, List.length_drop]; omega
  by_cases h : i < Y
  · have hyY : y = (Y : Int) := by omega
    by_cases hl : p + i < L.length
    · have hc := cT_take hl
      have hx : ((p : Int) + (i : Int)).toNat = p + i := by omega
      generalize hb : L.getD (p + i) false = b at *
      cases b
      · rw [show Bool.toNat false = 0 from rfl, Nat.add_zero] at hc
        simp (maxSteps := 1000000) (disch := (first | omega | (simp only [lnA, List.length_map, List.length_range, true_and, and_true]; (try omega); done) | fail)) only [go_sem, hx, hb, Int.reduceEq, Int.reduceToNat, Nat.reduceAdd, Nat.reduceMul, Nat.reduceEqDiff, ↓reduceIte]
        refine NextV_of (i + 1) [some 0] rfl (by simp (disch := (first | omega | (simp only [lnA, List.length_map, List.length_range, true_and, and_true]; (try omega); done) | fail)) only [go_sem, Int.reduceEq, Int.reduceToNat, Nat.reduceAdd, Nat.reduceMul, Nat.reduceEqDiff, ↓reduceIte, true_and, and_true, and_self, List.drop_zero, List.take_length, Nat.le_refl, V.lit.injEq, Value.int.injEq, Value.bool.injEq]; try (first | omega | (simp; done) | (simp; omega))) (by rw [hc]; (simp (disch := (first | omega | (simp only [lnA, List.length_map, List.length_range, true_and, and_true]; (try omega); done) | fail)) only [go_sem, Int.reduceEq, Int.reduceToNat, Nat.reduceAdd, Nat.reduceMul, Nat.reduceEqDiff, ↓reduceIte, true_and, and_true, and_self, List.drop_zero, List.take_length, Nat.le_refl, V.lit.injEq, Value.int.injEq, Value.bool.injEq]; try (first | omega | (simp; done) | (simp; omega)))) ⟨by omega, by omega⟩ (by omega)
      · rw [show Bool.toNat true = 1 from rfl] at hc
        simp (maxSteps := 1000000) (disch := (first | omega | (simp only [lnA, List.length_map, List.length_range, true_and, and_true]; (try omega); done) | fail)) only [go_sem, hx, hb, Int.reduceEq, Int.reduceToNat, Nat.reduceAdd, Nat.reduceMul, Nat.reduceEqDiff, ↓reduceIte]
        refine NextV_of (i + 1) [some 0] rfl (by simp (disch := (first | omega | (simp only [lnA, List.length_map, List.length_range, true_and, and_true]; (try omega); done) | fail)) only [go_sem, Int.reduceEq, Int.reduceToNat, Nat.reduceAdd, Nat.reduceMul, Nat.reduceEqDiff, ↓reduceIte, true_and, and_true, and_self, List.drop_zero, List.take_length, Nat.le_refl, V.lit.injEq, Value.int.injEq, Value.bool.injEq]; try (first | omega | (simp; done) | (simp; omega))) (by rw [hc]; (simp (disch := (first | omega | (simp only [lnA, List.length_map, List.length_range, true_and, and_true]; (try omega); done) | fail)) only [go_sem, Int.reduceEq, Int.reduceToNat, Nat.reduceAdd, Nat.reduceMul, Nat.reduceEqDiff, ↓reduceIte, true_and, and_true, and_self, List.drop_zero, List.take_length, Nat.le_refl, V.lit.injEq, Value.int.injEq, Value.bool.injEq]; try (first | omega | (simp; done) | (simp; omega)))) ⟨by omega, by omega⟩ (by omega)
    · rw [if_neg (by omega)] at hQ
      simp (maxSteps := 1000000) (disch := (first | omega | (simp only [lnA, List.length_map, List.length_range, true_and, and_true]; (try omega); done) | fail)) only [go_sem, Int.reduceEq, Int.reduceToNat, Nat.reduceAdd, Nat.reduceMul, Nat.reduceEqDiff, ↓reduceIte]
      exact endW [] hQ
  · obtain rfl : i = Y := by omega
    rw [if_pos (by omega)] at hQ
    by_cases hy0 : y < 0
    · simp (maxSteps := 1000000) (disch := (first | omega | (simp only [lnA, List.length_map, List.length_range, true_and, and_true]; (try omega); done) | fail)) only [go_sem, Int.reduceEq, Int.reduceToNat, Nat.reduceAdd, Nat.reduceMul, Nat.reduceEqDiff, ↓reduceIte]
      exact endW [] hQ
    · simp (maxSteps := 1000000) (disch := (first | omega | (simp only [lnA, List.length_map, List.length_range, true_and, and_true]; (try omega); done) | fail)) only [go_sem, Int.reduceEq, Int.reduceToNat, Nat.reduceAdd, Nat.reduceMul, Nat.reduceEqDiff, ↓reduceIte]
      exact endW [] hQ
/-- What a fraction is rounded to, of a tape. -/
def rndN (L : List Bool) (n d p : Nat) : Nat × Int × Nat × Bool :=
  (if (ratX L (n % d) d p).2.1 = 0 then n / d + (if (ratX L (n % d) d p).1 then 1 else 0) else 0, (ratX L (n % d) d p).2.1, (ratX L (n % d) d p).2.2.1, (ratX L (n % d) d p).2.2.2)
theorem rndX_N (L : List Bool) (n d p : Nat) : rndX L n d p = (((rndN L n d p).1 : Int), (rndN L n d p).2) := by
  unfold rndX rndN
  simp only
  split <;> simp
theorem ratX_ge {L : List Bool} {P D p : Nat} (hp : p ≤ L.length) : p ≤ (ratX L P D p).2.2.1 := by
  rcases okR_rat (L := L) (P := P) (D := D) hp with e | ⟨b, e, q, h, _, h2, _⟩
  · rw [e]; exact hp
  · rw [h]; exact h2
theorem refRound_fn {L : List Bool} {p P D : Nat} (hD : D ≠ 0) (hD2 : D ≤ 4294967296) (hP : P ≤ 4294967296) (hp : p ≤ L.length) (hL : L.length ≤ 1048576) : Fn1 Try.prog 33 [.row 1 (L.map be), .lit (.int .i64 (p : Int)), .lit (.int .i64 (P : Int)), .lit (.int .i64 (D : Int))] []
    (outV (rndN L P D p).1 ((rndN L P D p).2.2.1 - p) (rndN L P D p).2.1) [] := by
  have hm : (P : Int) % (D : Int) = ((P % D : Nat) : Int) := rfl
  have hq : (P : Int) / (D : Int) = ((P / D : Nat) : Int) := rfl
  have hml := Nat.mod_lt P (show 0 < D by omega)
  have hql := Nat.div_le_self P D
  have hr := refRatio_fn (L := L) (p := p) (P := P % D) (D := D) hD (by omega) hD2 hp hL
  have hge := ratX_ge (L := L) (P := P % D) (D := D) hp
  refine fn1_of pl33 (by kernel_rfl) Try.call33 Try.func33 rfl (by kernel_rfl) rfl [.cell 8 66] (by kernel_rfl) fun Q hQ => ?_
  unfold rndN at hQ
  generalize ratX L (P % D) D p = r at *
  obtain ⟨r1, r2, r3, r4⟩ := r
  simp only at hge hr hQ
  generalize P / D = n at *
  dsimp only [out10] at hr
  rw [show (r3 : Int) - (p : Int) = ((r3 - p : Nat) : Int) by omega] at hr
  simp (maxSteps := 1000000) (disch := (first | omega | (simp only [lnA, List.length_map, List.length_range, true_and, and_true]; (try omega); done) | fail)) only [go_sem, hm, Int.reduceEq, Int.reduceToNat, Nat.reduceAdd, Nat.reduceMul, Nat.reduceEqDiff, ↓reduceIte]
  refine callV0 (hr) rfl rfl ?_
  by_cases h2 : r2 = 0
  · rw [if_pos h2] at hQ
    subst h2
    cases r1
    · simp (maxSteps := 1000000) (disch := (first | omega | (simp only [lnA, List.length_map, List.length_range, true_and, and_true]; (try omega); done) | fail)) only [go_sem, hq, Int.reduceEq, Int.reduceToNat, Nat.reduceAdd, Nat.reduceMul, Nat.reduceEqDiff, ↓reduceIte]
      exact endW [] hQ
    · simp (maxSteps := 1000000) (disch := (first | omega | (simp only [lnA, List.length_map, List.length_range, true_and, and_true]; (try omega); done) | fail)) only [go_sem, hq, Int.reduceEq, Int.reduceToNat, Nat.reduceAdd, Nat.reduceMul, Nat.reduceEqDiff, ↓reduceIte]
      exact endW [] hQ
  · rw [if_neg h2] at hQ
    simp (maxSteps := 1000000) (disch := (first | omega | (simp only [lnA, List.length_map, List.length_range, true_and, and_true]; (try omega); done) | fail)) only [go_sem, Int.reduceEq, Int.reduceToNat, Nat.reduceAdd, Nat.reduceMul, Nat.reduceEqDiff, ↓reduceIte]
    exact endW [] hQ
/-- What draws come to. -/
def okN (L : List Bool) (p : Nat) (r : Nat × Int × Nat × Bool) : Prop := r = (0, 8, L.length, true) ∨ ∃ n e q, r = (n, e, q, false) ∧ e ≠ 8 ∧ p ≤ q ∧ q ≤ L.length
theorem okN_below {L : List Bool} {n p : Nat} (hn : 0 < n) (hp : p ≤ L.length) : okN L p (belowX L n p) := by
  have he := belowX_end (n := n) hp
  rcases belowX_cases (L := L) (p := p) hn with e | ⟨x, q, _, e⟩
  · exact .inl e
  · rw [e] at he
    exact .inr ⟨_, _, _, e, by decide, he.1, he.2⟩
theorem okN_bin {L : List Bool} {Y p : Nat} (hp : p ≤ L.length) : okN L p (binX L Y p) := by
  unfold binX
  split
  · exact .inr ⟨_, _, _, rfl, by decide, by omega, by omega⟩
  · exact .inl rfl
theorem okN_rnd {L : List Bool} {P D p : Nat} (hp : p ≤ L.length) : okN L p (rndN L P D p) := by
  unfold rndN
  rcases okR_rat (L := L) (P := P % D) (D := D) hp with e | ⟨b, e, q, h, h1, h2, h3⟩
  · rw [e]; exact .inl rfl
  · rw [h]; exact .inr ⟨_, _, _, rfl, h1, h2, h3⟩
end Go.Proofs.Ytfemchdaoihogaa
