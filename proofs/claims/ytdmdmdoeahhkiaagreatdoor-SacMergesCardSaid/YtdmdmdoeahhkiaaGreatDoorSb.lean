import Derived.Test.YtdmdmdoeahhkiaaGreatDoorSa
import Derived.Test.YtdmdmdoeahhkiaaGreatDoorFw
namespace Go.Proofs.YtdmdmdoeahhkiaaGreatDoor
set_option linter.unusedVariables false
theorem ratR_run {L : List Bool} {k : Nat} : ∀ {f r p F : Nat}, f ≤ k → r ≠ 0 → r < 2 ^ k → 2 ^ (k - f) ∣ r → p ≤ L.length → L.length + 1 - p ≤ F →
    ratR L (2 ^ k) F r p = match (ratD (2 ^ k) f r).run L p with | some (b, q) => (b, 0, q, false) | none => (false, 8, L.length, true) := by
  intro f
  induction f with
  | zero =>
    intro r p F _ h0 h1 h2
    exact absurd (Nat.eq_zero_of_dvd_of_lt h2 (by simpa using h1)) h0
  | succ f ih =>
    intro r p F hk h0 h1 h2 hp hF
    obtain ⟨F, rfl⟩ : ∃ G, F = G + 1 := ⟨F - 1, by omega⟩
    have h3 := half_lt hk h2
    have hdk : 2 ^ (k - f) ∣ 2 ^ k := Nat.pow_dvd_pow 2 (by omega)
    rw [ratR_succ]
    unfold ratD
    generalize hD : 2 ^ k = D at *
    by_cases hge : D ≤ r + r
    · rw [if_pos hge, if_pos hge, run_ask]
      simp only [decide_eq_true hge]
      by_cases hpl : p < L.length
      · rw [if_pos hpl, if_pos hpl]
        cases hb : L.getD p false with
        | true =>
          by_cases hz : r + r - D = 0
          · rw [if_neg (by simp [hz]), if_pos rfl, if_pos hz]
            rfl
          · rw [if_pos ⟨rfl, hz⟩, if_pos rfl, if_neg hz]
            exact ih (by omega) hz (by omega) (Nat.dvd_sub h3 hdk) (by omega) (by omega)
        | false =>
          rw [if_neg (by simp), if_neg (by simp)]
          rfl
      · rw [if_neg hpl, if_neg hpl]
    · rw [if_neg hge, if_neg hge, run_ask]
      simp only [decide_eq_false hge]
      have hz : r + r ≠ 0 := by omega
      by_cases hpl : p < L.length
      · rw [if_pos hpl, if_pos hpl]
        cases hb : L.getD p false with
        | true =>
          rw [if_neg (by simp), if_pos rfl]
          rfl
        | false =>
          rw [if_pos ⟨rfl, hz⟩, if_neg (by simp), if_neg hz]
          exact ih (by omega) hz (by omega) h3 (by omega) (by omega)
      · rw [if_neg hpl, if_neg hpl]
theorem rndX_run {L : List Bool} {n k p : Nat} (hp : p ≤ L.length) : rndX L n (2 ^ k) p = match (rndD n k).run L p with | some (a, q) => ((a : Int), 0, q, false) | none => (0, 8, L.length, true) := by
  have hpos : 0 < 2 ^ k := Nat.pow_pos (by decide)
  have hlt := Nat.mod_lt n hpos
  unfold rndX rndD ratX
  rw [if_neg (by omega)]
  by_cases hz : n % 2 ^ k = 0
  · rw [if_pos hz, if_pos hz]
    simp [DT.run]
  · rw [if_neg hz, if_neg hz, if_neg (by omega)]
    have h := ratR_run (L := L) (k := k) (f := k) (r := n % 2 ^ k) (p := p) (F := L.length + 1 - p) (Nat.le_refl k) hz hlt (by rw [Nat.sub_self]; exact Nat.one_dvd _) hp (Nat.le_refl _)
    rw [h, run_bind]
    cases hr : (ratD (2 ^ k) k (n % 2 ^ k)).run L p with
    | none => simp
    | some x =>
      obtain ⟨b, q⟩ := x
      cases b <;> simp [bit, DT.run]
theorem ratD_end {L : List Bool} {D k r : Nat} : (ratD D (k + 1) r).run L L.length = none := by
  unfold ratD
  split
  · rw [run_ask, if_neg (Nat.lt_irrefl _)]
  · rw [run_ask, if_neg (Nat.lt_irrefl _)]
theorem rndD_end {L : List Bool} {n k : Nat} : (rndD n k).run L L.length = if n % 2 ^ k = 0 then some (n / 2 ^ k, L.length) else none := by
  unfold rndD
  have hpos : 0 < 2 ^ k := Nat.pow_pos (by decide)
  have hlt := Nat.mod_lt n hpos
  by_cases hz : n % 2 ^ k = 0
  · rw [if_pos hz, if_pos hz]
    rfl
  · rw [if_neg hz, if_neg hz, run_bind]
    cases k with
    | zero => omega
    | succ k => rw [ratD_end]
end Go.Proofs.YtdmdmdoeahhkiaaGreatDoor

namespace Go.Proofs.YtdmdmdoeahhkiaaGreatDoor
open Go.Eng Go.Vx
set_option linter.unusedSimpArgs false
set_option linter.unusedVariables false
set_option maxRecDepth 100000
theorem rndX_scale {L : List Bool} {a b g p : Nat} (hg : 0 < g) : rndX L (g * a) (g * b) p = rndX L a b p := by
  unfold rndX
  rw [Nat.mul_mod_mul_left, Nat.mul_div_mul_left _ _ hg, ratX_scale hg]
theorem rndX_frac {L : List Bool} {A B p : Nat} (hB : B ≠ 0) : rndX L (((A : Int) : Rat) / ((B : Int) : Rat)).num.natAbs (((A : Int) : Rat) / ((B : Int) : Rat)).den p = rndX L A B p := by
  have h := frac_eq (p := (A : Int)) (q := (B : Int)) (by omega)
  rw [decide_eq_false (show ¬ (A : Int) < 0 by omega), decide_eq_false (show ¬ (B : Int) < 0 by omega)] at h
  rw [← h, Int.natAbs_natCast, Int.natAbs_natCast]
  show rndX L (mkRat (A : Int) B).num.natAbs (mkRat (A : Int) B).den p = _
  rw [mkRat_numG hB, mkRat_denG hB, sg_abs, Int.natAbs_natCast]
  have hg : 0 < Nat.gcd A B := Nat.gcd_pos_of_pos_right _ (by omega)
  have h2 := rndX_scale (L := L) (a := A / Nat.gcd A B) (b := B / Nat.gcd A B) (p := p) hg
  rw [Nat.mul_div_cancel' (Nat.gcd_dvd_left A B), Nat.mul_div_cancel' (Nat.gcd_dvd_right A B)] at h2
  exact h2.symm
theorem frac_bounds {A B : Nat} (hB : B ≠ 0) (hA : A ≤ 1099511627776) : ¬ ((A : Int) : Rat) / ((B : Int) : Rat) < 0 ∧ ¬ ((1099511627776 : Int) : Rat) < ((A : Int) : Rat) / ((B : Int) : Rat) := by
  have hB' : (0 : Rat) < ((B : Int) : Rat) := Rat.intCast_pos.2 (by omega)
  constructor
  · rw [Rat.not_lt, ← Rat.num_nonneg]
    have := num_nonnegR (A := A) hB
    omega
  · rw [Rat.lt_div_iff hB', ← Rat.intCast_mul, Rat.intCast_lt_intCast]
    have := Nat.mul_le_mul_left 1099511627776 (show 1 ≤ B by omega)
    omega
end Go.Proofs.YtdmdmdoeahhkiaaGreatDoor

namespace Go.Proofs.YtdmdmdoeahhkiaaGreatDoor
open Go.Eng Go.Vx
set_option linter.unusedSimpArgs false
set_option linter.unusedVariables false
set_option maxRecDepth 100000
theorem ratioD_fn {L : List Bool} {P D p : Nat} (hL : L.length ≤ 1048576) (hD : ¬ (D = 0 ∨ D < P)) (hPD : P ≠ D) (hP : (wg P).length ≤ 500000) (hD1 : (wg D).length ≤ 500000) : Fn1 Tryz.prog 197 [.ref 0 0 0 0, NV P, NV D] [some (tpC L p true)]
    (.tup [.lit (.bool false), .lit (.int .i64 (if P = 0 then 0 else 8))]) [some (tpC L p true)] := by
  refine fn1N_of pl197 (by kernel_rfl) Tryz.call197 Tryz.func197 rfl (by kernel_rfl) rfl [.tmp 6, .tmp 7] (by kernel_rfl) fun Q hQ => ?_
  refine runW ?_
  refine callV0 (good_fn (P := P) (D := D) (by omega) (by omega)) rfl rfl ?_
  rw [decide_eq_true hD]
  refine runW ?_
  refine callV0 (zero_fn (n := P) (by omega)) rfl rfl ?_
  by_cases h2 : P = 0
  · rw [decide_eq_true h2]
    rw [if_pos h2] at hQ
    refine runW ?_
    exact endW [some 0] hQ
  · rw [decide_eq_false h2]
    rw [if_neg h2] at hQ
    refine runW ?_
    refine loopW (X := Unit) (st := fun z => ([(0, .ref 0 0 0 0), (4, .ref 1 0 0 0), (5, .ref 2 0 0 0), (8, .ref 3 0 0 0)], [some (tpC L p true), some (.cells [.row 1 ((nl (wg P)).map (ie .u64))]), some (.cells [.row 1 ((nl (wg D)).map (ie .u64))]), some (.cells [.row 1 ((nl (wg P)).map (ie .u64))])]))
      (inv := fun _ => True) (m := fun _ => 0) () [some 0, some 1, some 2, some 3] trivial ?_
    intro _ _
    have hc := cmpI_neg.2 (show P < D by omega)
    refine runW ?_
    refine callV0 (ncmp_fn (a := P) (b := D) (by omega) (by omega)) rfl rfl ?_
    simp (maxSteps := 1000000) (disch := (first | omega | (simp only [lnA, List.length_map, List.length_range, true_and, and_true]; (try omega); done) | fail)) only [go_sem, decide_eq_true hc, Int.reduceEq, Int.reduceToNat, Nat.reduceAdd, Nat.reduceMul, Nat.reduceEqDiff, ↓reduceIte]
    refine callW [some 0] [] (flipE_fn (L := L) (p := p) (d := true) hL (.inl rfl)) ?_
    refine runW ?_
    exact endW [some 0] hQ
end Go.Proofs.YtdmdmdoeahhkiaaGreatDoor
