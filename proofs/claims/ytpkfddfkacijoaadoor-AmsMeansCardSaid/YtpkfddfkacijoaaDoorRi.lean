import Derived.Test.YtpkfddfkacijoaaDoorFw
import Derived.Test.YtpkfddfkacijoaaDoorRh
import Derived.Test.YtpkfddfkacijoaaDoorNp
import Derived.Test.YtpkfddfkacijoaaDoorRj
import Derived.Test.YtpkfddfkacijoaaDoorLa
import Derived.Test.YtpkfddfkacijoaaDoorFb
import Derived.Test.YtpkfddfkacijoaaDoorTb
namespace Go.Proofs.YtpkfddfkacijoaaDoor
open Go.Eng Go.Vx
set_option linter.unusedSimpArgs false
set_option linter.unusedVariables false
set_option maxRecDepth 100000
theorem xlog_fn {N : Nat} {n : Int} (h : max 0 (min n 1048576) = (N : Int)) : Fn1 Tryd.prog 35 [.lit (.int .i64 n)] [] (.lit (.int .i64 ((N * lgN (max 1 N) : Nat) : Int))) [] := by
  refine fn1N_of pl35 (by kernel_rfl) Tryd.call35 Tryd.func35 rfl (by kernel_rfl) rfl [.tmp 2] (by kernel_rfl) fun Q hQ => ?_
  have hN : N ≤ 1048576 := by omega
  have hl := lgN_le (n := max 1 N) (by omega) (by omega)
  have hm : N * lgN (max 1 N) ≤ 1048576 * (41 * 268435456) := Nat.mul_le_mul hN (by omega)
  have hc : (N : Int) * ((lgN (max 1 N) : Nat) : Int) = ((N * lgN (max 1 N) : Nat) : Int) := by simp
  simp (maxSteps := 1000000) (disch := (first | omega | (simp only [lnA, List.length_map, List.length_range, true_and, and_true]; (try omega); done) | fail)) only [go_sem, h, Int.reduceEq, Int.reduceToNat, Nat.reduceAdd, Nat.reduceMul, Nat.reduceEqDiff, ↓reduceIte]
  refine callV0 (log2_fn (N := max 1 N) (n := (N : Int)) (by omega)) rfl rfl ?_
  simp (maxSteps := 1000000) (disch := (first | omega | (simp only [lnA, List.length_map, List.length_range, true_and, and_true]; (try omega); done) | fail)) only [go_sem, hc, Int.reduceEq, Int.reduceToNat, Nat.reduceAdd, Nat.reduceMul, Nat.reduceEqDiff, ↓reduceIte]
  exact endW [] hQ
end Go.Proofs.YtpkfddfkacijoaaDoor

namespace Go.Proofs.YtpkfddfkacijoaaDoor
open Go.Eng Go.Vx
set_option linter.unusedSimpArgs false
set_option linter.unusedVariables false
set_option maxRecDepth 100000
def xl (N : Nat) : Int := ((N * lgN (max 1 N) : Nat) : Int)
theorem xl_le {N : Nat} (h : N ≤ 1048576) : 0 ≤ xl N ∧ xl N ≤ 11542724608000000 := by
  have hl := lgN_le (n := max 1 N) (by omega) (by omega)
  have hm : N * lgN (max 1 N) ≤ 1048576 * (41 * 268435456) := Nat.mul_le_mul h (by omega)
  unfold xl
  omega
theorem xlogx_fn {N : Nat} {n : Int} (h : max 0 (min n 1048576) = (N : Int)) : Fn1 Tryd.prog 35 [.lit (.int .i64 n)] [] (.lit (.int .i64 (xl N))) [] := xlog_fn h
theorem xlogn_fn {N : Nat} (h2 : N ≤ 1048576) : Fn1 Tryd.prog 35 [.lit (.int .i64 (N : Int))] [] (.lit (.int .i64 (xl N))) [] := xlogx_fn (by omega)
end Go.Proofs.YtpkfddfkacijoaaDoor

namespace Go.Proofs.YtpkfddfkacijoaaDoor
open Go.Eng Go.Vx
set_option linter.unusedSimpArgs false
set_option linter.unusedVariables false
set_option maxRecDepth 100000
theorem belowR_end {L : List Bool} {n w : Nat} : ∀ f q, q ≤ L.length → q ≤ (belowR L n w f q).2.2.1 ∧ (belowR L n w f q).2.2.1 ≤ L.length
  | 0, q, h => ⟨h, Nat.le_refl _⟩
  | f + 1, q, h => by
    unfold belowR
    split
    · split
      · exact ⟨Nat.le_add_right _ _, by assumption⟩
      · obtain ⟨h1, h2⟩ := belowR_end (n := n) (w := w) f (q + w) (by assumption)
        exact ⟨by omega, h2⟩
    · exact ⟨h, Nat.le_refl _⟩
theorem belowX_end {L : List Bool} {n p : Nat} (h : p ≤ L.length) : p ≤ (belowX L n p).2.2.1 ∧ (belowX L n p).2.2.1 ≤ L.length := belowR_end _ _ h
theorem belowX_cases {L : List Bool} {n p : Nat} (hn : 0 < n) : belowX L n p = (0, 8, L.length, true) ∨ ∃ x q, x < n ∧ belowX L n p = (x, 0, q, false) := by
  unfold belowX
  generalize bl (n - 1) = w
  generalize L.length + 1 - p = f
  induction f generalizing p with
  | zero => exact .inl rfl
  | succ f ih =>
    unfold belowR
    split
    · split
      · rename_i h; exact .inr ⟨_, _, h, rfl⟩
      · exact ih
    · exact .inl rfl
def outV (N took : Nat) (e : Int) : V := .agg [.lit (.int .u64 (N : Int)), .lit (.int .i64 (took : Int)), .lit (.int .i64 e)]
attribute [go_sem] outV
end Go.Proofs.YtpkfddfkacijoaaDoor
