import Derived.Test.YtdmdmdoeahhkiaaGreatDoorJe
namespace Go.Proofs.YtdmdmdoeahhkiaaGreatDoor
open Go.Eng Go.Vx
set_option linter.unusedSimpArgs false
set_option linter.unusedVariables false
set_option maxRecDepth 100000
theorem walkM_fn {M D S x y z : Nat} {a b c : Int} (hw : WB M D S) (hx : x ≤ 7) (hy : y ≤ 3) (hz : z ≤ 3) (hc : c % 4 = (z : Int)) : ∀ (f : Nat) (L : List Bool) (s : Bool × Bool × Nat × Nat), L.length + f = 11 →
    s.2.2.1 + 1048576 * 2 ^ f ≤ 1099511627776 → s.2.2.2 + 1048576 * 2 ^ f ≤ 1099511627776 →
    Fn1 Tryz.prog 39 (argsM L) (wkM M D S x y a b c s) (.tup []) (wkM M D S x y a b c (mTr ((actsD (SPof M D S) x y z).sub L) f s)) := by
  intro f
  induction f with
  | zero => intro L s h h1 h2; exact walkM_step hw hx hy hz hc h h1 h2 (fun g hg => absurd hg (by omega))
  | succ f ih =>
    intro L s h h1 h2
    refine walkM_step hw hx hy hz hc h h1 h2 (fun g hg v s' k1 k2 => ?_)
    obtain rfl : g = f := by omega
    exact ih (L ++ [v]) s' (by simp; omega) k1 k2
theorem sub_nil {α : Type} (t : DT α) : t.sub [] = t := by cases t <;> rfl
theorem sacMeans_fn {a b c n0 n1 n2 : Int} : Fn1 Tryz.prog 7 [.agg [.lit (.int .i64 a), .lit (.int .i64 b), .lit (.int .i64 c)], .agg [.lit (.int .i64 n0), .lit (.int .i64 n1), .lit (.int .i64 n2)]] [] (.lit (.bool true)) [] := by
  obtain ⟨M, D, S, hw, hM, hS, hsm⟩ := small19_fn (a := a) (b := b) (c := c)
  obtain ⟨x, hx, hx7⟩ : ∃ m : Nat, n0 % 8 = (m : Int) ∧ m ≤ 7 := ⟨(n0 % 8).toNat, by omega, by omega⟩
  obtain ⟨y, hy, hy3⟩ : ∃ m : Nat, n1 % 4 = (m : Int) ∧ m ≤ 3 := ⟨(n1 % 4).toNat, by omega, by omega⟩
  obtain ⟨z, hz, hz3⟩ : ∃ m : Nat, n2 % 4 = (m : Int) ∧ m ≤ 3 := ⟨(n2 % 4).toNat, by omega, by omega⟩
  have hwk := walkM_fn (a := n0) (b := n1) hw hx7 hy3 hz3 hz 11 [] (false, false, 0, 0) rfl (by decide) (by decide)
  rw [sub_nil] at hwk
  have hme := means_end (P := SPof M D S) (x := x) (y := y) (z := z)
  have hle := mTr_le (t := actsD (SPof M D S) x y z) (f := 11) (B := 1048576) (C := 0) (s := (false, false, 0, 0)) (all_mono (fun r hr => ⟨valS_le hw.pw hr 0, valS_le hw.pw hr 1⟩) (actsD_all hw.pw)) (Nat.le_refl _) (Nat.le_refl _)
  generalize mTr (actsD (SPof M D S) x y z) 11 (false, false, 0, 0) = R at *
  obtain ⟨r1, r2, r3, r4⟩ := R
  dsimp only at hme hle
  refine fn1N_of pl7 (by kernel_rfl) Tryz.call7 Tryz.func7 rfl (by kernel_rfl) rfl [.tmp 4] (by kernel_rfl) fun Q hQ => ?_
  refine runW ?_
  refine callV0 (awake19_fn) rfl rfl ?_
  refine runW ?_
  refine callV0 (hsm) rfl rfl ?_
  simp (maxSteps := 1000000) (disch := (first | omega | (simp only [lnA, List.length_map, List.length_range, true_and, and_true]; (try omega); done) | fail)) only [go_sem, hx, hy, Int.reduceEq, Int.reduceToNat, Nat.reduceAdd, Nat.reduceMul, Nat.reduceEqDiff, ↓reduceIte]
  refine callW [some 0, some 6, some 2, some 3, some 1, some 7, some 5, some 4] [] (hwk) ?_
  cases r2 with
  | true =>
    refine runW ?_
    exact endW [] hQ
  | false =>
    cases r1 with
    | true =>
      refine runW ?_
      exact endW [] hQ
    | false =>
      obtain ⟨h1, h2⟩ := hme rfl rfl
      subst h1 h2
      have e1 : ((2 * (x + z) * 2048 : Nat) : Int) = 2 * ((x : Int) + (z : Int)) * 2048 := by simp
      have e2 : ((2 * y * 2048 : Nat) : Int) = 2 * (y : Int) * 2048 := by simp
      simp (maxSteps := 1000000) (disch := (first | omega | (simp only [lnA, List.length_map, List.length_range, true_and, and_true]; (try omega); done) | fail)) only [go_sem, hz, e1, e2, eq_self, decide_true, Int.reduceEq, Int.reduceToNat, Nat.reduceAdd, Nat.reduceMul, Nat.reduceEqDiff, ↓reduceIte]
      exact endW [] hQ
end Go.Proofs.YtdmdmdoeahhkiaaGreatDoor
