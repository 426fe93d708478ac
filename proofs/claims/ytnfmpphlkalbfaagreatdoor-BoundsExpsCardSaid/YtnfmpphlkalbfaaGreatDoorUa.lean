import Derived.Test.YtnfmpphlkalbfaaGreatDoorYl
import Derived.Test.YtnfmpphlkalbfaaGreatDoorYi
import Derived.Test.YtnfmpphlkalbfaaGreatDoorZ1
/-! The document's whole numbers: two numbers, the first less the second. -/
namespace Go.Proofs.YtnfmpphlkalbfaaGreatDoor
open Go.Eng Go.Vx
set_option linter.unusedSimpArgs false
set_option linter.unusedVariables false
set_option maxRecDepth 100000
def ZD (p m : Nat) : V := .agg [.row 1 ((nl (dg p)).map (ie .i64)), .row 1 ((nl (dg m)).map (ie .i64))]
attribute [go_sem] ZD
/-- The text of a whole number. -/
def zS (z : Int) : List UInt8 := if z < 0 then 45 :: decS z.natAbs else decS z.natAbs
theorem dgz : (nl (dg 0)).map (ie .i64) = [] := by rw [dg_zero]; rfl
theorem zmake_fn {b : Bool} {W : List Nat} (hW : ∀ x ∈ W, x < 18446744073709551616) (hl : W.length ≤ 50000) : Fn1 Tryz.prog 32 [.lit (.bool b), .row 1 ((nl W).map (ie .u64))] [] (if b then ZD 0 (wv W) else ZD (wv W) 0) [] := by
  have h := lof_fn hW hl
  have z := dgz
  cases b with
  | false =>
    simp only [Bool.false_eq_true, if_false, ZD, z]
    refine fn1N_of pl32 (by kernel_rfl) Tryz.call32 Tryz.func32 rfl (by kernel_rfl) rfl [.cell 4 35] (by kernel_rfl) fun Q hQ => ?_
    simp (maxSteps := 1000000) (disch := (first | omega | (simp only [lnA, List.length_map, List.length_range, true_and, and_true]; (try omega); done) | fail)) only [go_sem, Int.reduceEq, Int.reduceToNat, Nat.reduceAdd, Nat.reduceMul, Nat.reduceEqDiff, ↓reduceIte]
    refine callV0 (h) rfl rfl ?_
    simp (maxSteps := 1000000) (disch := (first | omega | (simp only [lnA, List.length_map, List.length_range, true_and, and_true]; (try omega); done) | fail)) only [go_sem, Int.reduceEq, Int.reduceToNat, Nat.reduceAdd, Nat.reduceMul, Nat.reduceEqDiff, ↓reduceIte]
    exact endW [] hQ
  | true =>
    simp only [if_true, ZD, z]
    refine fn1N_of pl32 (by kernel_rfl) Tryz.call32 Tryz.func32 rfl (by kernel_rfl) rfl [.cell 4 35] (by kernel_rfl) fun Q hQ => ?_
    simp (maxSteps := 1000000) (disch := (first | omega | (simp only [lnA, List.length_map, List.length_range, true_and, and_true]; (try omega); done) | fail)) only [go_sem, Int.reduceEq, Int.reduceToNat, Nat.reduceAdd, Nat.reduceMul, Nat.reduceEqDiff, ↓reduceIte]
    refine callV0 (h) rfl rfl ?_
    simp (maxSteps := 1000000) (disch := (first | omega | (simp only [lnA, List.length_map, List.length_range, true_and, and_true]; (try omega); done) | fail)) only [go_sem, Int.reduceEq, Int.reduceToNat, Nat.reduceAdd, Nat.reduceMul, Nat.reduceEqDiff, ↓reduceIte]
    exact endW [] hQ
theorem zadd_fn {a b c d : Nat} (ha : (dg a).length ≤ 1000000) (hb : (dg b).length ≤ 1000000) (hc : (dg c).length ≤ 1000000) (hd : (dg d).length ≤ 1000000) : Fn1 Tryz.prog 91 [ZD a b, ZD c d] [] (ZD (a + c) (b + d)) [] := by
  have h1 := ladd_fn (a := a) (b := c) (by omega) (by omega)
  have h2 := ladd_fn (a := b) (b := d) (by omega) (by omega)
  refine fn1N_of pl91 (by kernel_rfl) Tryz.call91 Tryz.func91 rfl (by kernel_rfl) rfl [.cell 4 35] (by kernel_rfl) fun Q hQ => ?_
  repeat (first | (refine callV0 (h1) rfl rfl ?_) | (refine callV0 (h2) rfl rfl ?_) | (simp (maxSteps := 1000000) (disch := (first | omega | (simp only [lnA, List.length_map, List.length_range, true_and, and_true]; (try omega); done) | fail)) only [go_sem, Int.reduceEq, Int.reduceToNat, Nat.reduceAdd, Nat.reduceMul, Nat.reduceEqDiff, ↓reduceIte]))
  exact endW [] hQ
theorem zmul_fn {a b c d : Nat} (ha : (dg a).length ≤ 400000) (hb : (dg b).length ≤ 400000) (hc : (dg c).length ≤ 400000) (hd : (dg d).length ≤ 400000) : Fn1 Tryz.prog 90 [ZD a b, ZD c d] [] (ZD (a * c + b * d) (a * d + b * c)) [] := by
  have l1 := dg_mul a c
  have l2 := dg_mul b d
  have l3 := dg_mul a d
  have l4 := dg_mul b c
  have h1 := lmul_fn (a := a) (b := c) (by omega) (by omega)
  have h2 := lmul_fn (a := b) (b := d) (by omega) (by omega)
  have h3 := lmul_fn (a := a) (b := d) (by omega) (by omega)
  have h4 := lmul_fn (a := b) (b := c) (by omega) (by omega)
  have h5 := ladd_fn (a := a * c) (b := b * d) (by omega) (by omega)
  have h6 := ladd_fn (a := a * d) (b := b * c) (by omega) (by omega)
  refine fn1N_of pl90 (by kernel_rfl) Tryz.call90 Tryz.func90 rfl (by kernel_rfl) rfl [.cell 4 35] (by kernel_rfl) fun Q hQ => ?_
  generalize a * c + b * d = u1 at *
  generalize a * d + b * c = u2 at *
  generalize a * c = v1 at *
  generalize b * d = v2 at *
  generalize a * d = v3 at *
  generalize b * c = v4 at *
  repeat (first | (refine callV0 (h1) rfl rfl ?_) | (refine callV0 (h2) rfl rfl ?_) | (refine callV0 (h3) rfl rfl ?_) | (refine callV0 (h4) rfl rfl ?_) | (refine callV0 (h5) rfl rfl ?_) | (refine callV0 (h6) rfl rfl ?_) | (simp (maxSteps := 1000000) (disch := (first | omega | (simp only [lnA, List.length_map, List.length_range, true_and, and_true]; (try omega); done) | fail)) only [go_sem, Int.reduceEq, Int.reduceToNat, Nat.reduceAdd, Nat.reduceMul, Nat.reduceEqDiff, ↓reduceIte]))
  exact endW [] hQ
theorem zabs_fn {a b : Nat} {x : Int} (hx : x = (a : Int) - b) (ha : (dg a).length ≤ 1000000) (hb : (dg b).length ≤ 1000000) : Fn1 Tryz.prog 95 [ZD a b] [] (DV x.natAbs) [] := by
  have h1 := lcmp_fn (a := a) (b := b) (by omega) (by omega)
  by_cases h : b ≤ a
  · have e : 0 ≤ cmpI a b := by unfold cmpI; rw [if_neg (by omega)]; split <;> decide
    have h2 := lsub_fn (a := a) (b := b) h (by omega)
    rw [show a - b = x.natAbs by omega] at h2
    refine fn1N_of pl95 (by kernel_rfl) Tryz.call95 Tryz.func95 rfl (by kernel_rfl) rfl [.tmp 2] (by kernel_rfl) fun Q hQ => ?_
    repeat (first | (refine callV0 (h1) rfl rfl ?_) | (refine callV0 (h2) rfl rfl ?_) | (simp (maxSteps := 1000000) (disch := (first | omega | (simp only [lnA, List.length_map, List.length_range, true_and, and_true]; (try omega); done) | fail)) only [go_sem, decide_eq_true e, Int.reduceEq, Int.reduceToNat, Nat.reduceAdd, Nat.reduceMul, Nat.reduceEqDiff, ↓reduceIte]))
    exact endW [] hQ
  · have e : ¬ 0 ≤ cmpI a b := by unfold cmpI; rw [if_pos (by omega)]; decide
    have h2 := lsub_fn (a := b) (b := a) (by omega) (by omega)
    rw [show b - a = x.natAbs by omega] at h2
    refine fn1N_of pl95 (by kernel_rfl) Tryz.call95 Tryz.func95 rfl (by kernel_rfl) rfl [.tmp 2] (by kernel_rfl) fun Q hQ => ?_
    repeat (first | (refine callV0 (h1) rfl rfl ?_) | (refine callV0 (h2) rfl rfl ?_) | (simp (maxSteps := 1000000) (disch := (first | omega | (simp only [lnA, List.length_map, List.length_range, true_and, and_true]; (try omega); done) | fail)) only [go_sem, decide_eq_false e, Int.reduceEq, Int.reduceToNat, Nat.reduceAdd, Nat.reduceMul, Nat.reduceEqDiff, ↓reduceIte]))
    exact endW [] hQ
theorem zneg_fn {a b : Nat} {x : Int} (hx : x = (a : Int) - b) (ha : (dg a).length ≤ 1000000) (hb : (dg b).length ≤ 1000000) : Fn1 Tryz.prog 94 [ZD a b] [] (.lit (.bool (decide (x < 0)))) [] := by
  have h1 := lcmp_fn (a := a) (b := b) (by omega) (by omega)
  have e : decide (cmpI a b < 0) = decide (x < 0) := by congr 1; unfold cmpI; refine propext ?_; split <;> (try split) <;> omega
  refine fn1N_of pl94 (by kernel_rfl) Tryz.call94 Tryz.func94 rfl (by kernel_rfl) rfl [.tmp 2] (by kernel_rfl) fun Q hQ => ?_
  repeat (first | (refine callV0 (h1) rfl rfl ?_) | (simp (maxSteps := 1000000) (disch := (first | omega | (simp only [lnA, List.length_map, List.length_range, true_and, and_true]; (try omega); done) | fail)) only [go_sem, e, Int.reduceEq, Int.reduceToNat, Nat.reduceAdd, Nat.reduceMul, Nat.reduceEqDiff, ↓reduceIte]))
  exact endW [] hQ
theorem decS_dg {n k : Nat} (h : (dg n).length ≤ k) : (decS n).length ≤ 4 * k + 1 := by
  rw [decS_len]
  by_cases h0 : n = 0
  · subst h0; have : nd10 0 ≤ 1 := (nd10_le (by decide)).2 (by decide)
    omega
  · have h1 : n < 10000 ^ (dg n).length := dgB_lt_pow (B := 10000) (by decide) n
    have h2 := dg_pos h0
    have h3 : nd10 n ≤ 4 * (dg n).length := (nd10_le (by omega)).2 (Nat.lt_of_lt_of_le h1 (by rw [Nat.pow_mul]; exact Nat.pow_le_pow_left (by decide) _))
    omega
theorem decS_wg {n k : Nat} (h : (wg n).length ≤ k) : (decS n).length ≤ 20 * k + 1 := by
  rw [decS_len]
  by_cases h0 : n = 0
  · subst h0; have : nd10 0 ≤ 1 := (nd10_le (by decide)).2 (by decide)
    omega
  · have := nd10_wg h0
    omega
theorem ztext_fn {a b : Nat} {x : Int} (hx : x = (a : Int) - b) (ha : (dg a).length ≤ 99999) (hb : (dg b).length ≤ 99999) : Fn1 Tryz.prog 64 [ZD a b] [] (.lit (.string (bs (zS x)))) [] := by
  have h1 := zneg_fn hx (by omega) (by omega)
  have h2 := zabs_fn hx (by omega) (by omega)
  have hl : (dg x.natAbs).length ≤ 100000 := by
    by_cases h : b ≤ a
    · exact Nat.le_trans (dg_mono (show x.natAbs ≤ a by omega)) (by omega)
    · exact Nat.le_trans (dg_mono (show x.natAbs ≤ b by omega)) (by omega)
  have h3 := rtext_fn (n := x.natAbs) hl
  have hsl := decS_dg hl
  unfold zS
  by_cases h : x < 0
  · rw [if_pos h]
    rw [decide_eq_true h] at h1
    refine fn1N_of pl64 (by kernel_rfl) Tryz.call64 Tryz.func64 rfl (by kernel_rfl) rfl [.tmp 2] (by kernel_rfl) fun Q hQ => ?_
    repeat (first | (refine callV0 (h1) rfl rfl ?_) | (refine callV0 (h2) rfl rfl ?_) | (refine callV0 (h3) rfl rfl ?_) | (simp (maxSteps := 1000000) (disch := (first | omega | (simp only [lnA, List.length_map, List.length_range, true_and, and_true]; (try omega); done) | fail)) only [go_sem, Int.reduceEq, Int.reduceToNat, Nat.reduceAdd, Nat.reduceMul, Nat.reduceEqDiff, ↓reduceIte]))
    exact endW [] hQ
  · rw [if_neg h]
    rw [decide_eq_false h] at h1
    refine fn1N_of pl64 (by kernel_rfl) Tryz.call64 Tryz.func64 rfl (by kernel_rfl) rfl [.tmp 2] (by kernel_rfl) fun Q hQ => ?_
    repeat (first | (refine callV0 (h1) rfl rfl ?_) | (refine callV0 (h2) rfl rfl ?_) | (refine callV0 (h3) rfl rfl ?_) | (simp (maxSteps := 1000000) (disch := (first | omega | (simp only [lnA, List.length_map, List.length_range, true_and, and_true]; (try omega); done) | fail)) only [go_sem, Int.reduceEq, Int.reduceToNat, Nat.reduceAdd, Nat.reduceMul, Nat.reduceEqDiff, ↓reduceIte]))
    exact endW [] hQ
theorem wtext_fn {x : Int} (hl : (wg x.natAbs).length ≤ 100000) : Fn1 Tryz.prog 55 [WV x] [] (.lit (.string (bs (zS x)))) [] := by
  have h3 := ntext_fn (n := x.natAbs) hl
  have hsl := decS_wg hl
  unfold zS
  by_cases h : x < 0
  · rw [if_pos h]
    refine fn1N_of pl55 (by kernel_rfl) Tryz.call55 Tryz.func55 rfl (by kernel_rfl) rfl [.tmp 2] (by kernel_rfl) fun Q hQ => ?_
    repeat (first | (refine callV0 (h3) rfl rfl ?_) | (simp (maxSteps := 1000000) (disch := (first | omega | (simp only [lnA, List.length_map, List.length_range, true_and, and_true]; (try omega); done) | fail)) only [go_sem, decide_eq_true h, Int.reduceEq, Int.reduceToNat, Nat.reduceAdd, Nat.reduceMul, Nat.reduceEqDiff, ↓reduceIte]))
    exact endW [] hQ
  · rw [if_neg h]
    refine fn1N_of pl55 (by kernel_rfl) Tryz.call55 Tryz.func55 rfl (by kernel_rfl) rfl [.tmp 2] (by kernel_rfl) fun Q hQ => ?_
    repeat (first | (refine callV0 (h3) rfl rfl ?_) | (simp (maxSteps := 1000000) (disch := (first | omega | (simp only [lnA, List.length_map, List.length_range, true_and, and_true]; (try omega); done) | fail)) only [go_sem, decide_eq_false h, Int.reduceEq, Int.reduceToNat, Nat.reduceAdd, Nat.reduceMul, Nat.reduceEqDiff, ↓reduceIte]))
    exact endW [] hQ
end Go.Proofs.YtnfmpphlkalbfaaGreatDoor

/-! Package whole: what laws 6 and 7 share. -/
namespace Go.Proofs.YtnfmpphlkalbfaaGreatDoor
open Go.Eng Go.Vx
set_option linter.unusedSimpArgs false
set_option linter.unusedVariables false
set_option maxRecDepth 100000
theorem zS_lit (n : Nat) (h : n < 10) : decS n = [UInt8.ofNat (48 + n)] := by
  have : ∀ n, n < 10 → decS n = [UInt8.ofNat (48 + n)] := fun n h => by
    rw [decS_small h]
  exact this n h
theorem dmul_len {a b k j l : Nat} (ha : (dg a).length ≤ k) (hb : (dg b).length ≤ j) (hl : k + j = l) : (dg (a * b)).length ≤ l := by
  subst hl
  exact Nat.le_trans (dg_mul _ _) (Nat.add_le_add ha hb)
end Go.Proofs.YtnfmpphlkalbfaaGreatDoor
