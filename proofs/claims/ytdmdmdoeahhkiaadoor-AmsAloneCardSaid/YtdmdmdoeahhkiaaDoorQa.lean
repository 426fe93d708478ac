import Derived.Test.YtdmdmdoeahhkiaaDoorFb
import Derived.Test.YtdmdmdoeahhkiaaDoorN2
import Derived.Test.YtdmdmdoeahhkiaaDoorTb
import Derived.Test.YtdmdmdoeahhkiaaDoorUa
import Derived.Test.YtdmdmdoeahhkiaaDoorZq
namespace Go.Proofs.YtdmdmdoeahhkiaaDoor
open Go.Eng Go.Vx
set_option linter.unusedSimpArgs false
set_option linter.unusedVariables false
set_option maxRecDepth 100000
end Go.Proofs.YtdmdmdoeahhkiaaDoor

namespace Go.Proofs.YtdmdmdoeahhkiaaDoor
open Go.Eng Go.Vx
set_option linter.unusedSimpArgs false
set_option linter.unusedVariables false
set_option maxRecDepth 100000
theorem belowR_end {L : List Bool} {n w : Nat} : ∀ f q, q ≤ L.length → q ≤ (belowR L n w f q).2.2.1 ∧ (belowR L n w f q).2.2.1 ≤ L.length
  | 0, q, h => ⟨h, Nat.le_refl _⟩
  | f + 1, q, h => by
    unfold belowR
    split
    · split
      · exact ⟨Nat.le_add_right _ _, by assumption⟩
      · obtain ⟨h1, h2⟩ := belowR_end (n := n) (w := w) f (q + w) (by assumption)
        exact ⟨by omega, h2⟩
    · exact ⟨h, Nat.le_refl _⟩
theorem belowX_end {L : List Bool} {n p : Nat} (h : p ≤ L.length) : p ≤ (belowX L n p).2.2.1 ∧ (belowX L n p).2.2.1 ≤ L.length := belowR_end _ _ h
theorem belowX_cases {L : List Bool} {n p : Nat} (hn : 0 < n) : belowX L n p = (0, 8, L.length, true) ∨ ∃ x q, x < n ∧ belowX L n p = (x, 0, q, false) := by
  unfold belowX
  generalize bl (n - 1) = w
  generalize L.length + 1 - p = f
  induction f generalizing p with
  | zero => exact .inl rfl
  | succ f ih =>
    unfold belowR
    split
    · split
      · rename_i h; exact .inr ⟨_, _, h, rfl⟩
      · exact ih
    · exact .inl rfl
def outV (N took : Nat) (e : Int) : V := .agg [.lit (.int .u64 (N : Int)), .lit (.int .i64 (took : Int)), .lit (.int .i64 e)]
attribute [go_sem] outV
end Go.Proofs.YtdmdmdoeahhkiaaDoor

namespace Go.Proofs.YtdmdmdoeahhkiaaDoor
open Go.Eng Go.Vx
set_option linter.unusedSimpArgs false
set_option linter.unusedVariables false
set_option maxRecDepth 100000
end Go.Proofs.YtdmdmdoeahhkiaaDoor

namespace Go.Proofs.YtdmdmdoeahhkiaaDoor
open Go.Eng Go.Vx
set_option linter.unusedSimpArgs false
set_option linter.unusedVariables false
set_option maxRecDepth 100000
def QD (p m d : Nat) : V := .agg [.row 1 ((nl (dg p)).map (ie .i64)), .row 1 ((nl (dg m)).map (ie .i64)), .row 1 ((nl (dg d)).map (ie .i64))]
attribute [go_sem] QD
def qS (x : Rat) : List UInt8 := zS x.num ++ (if x.den = 1 then [] else 47 :: decS x.den)
end Go.Proofs.YtdmdmdoeahhkiaaDoor
