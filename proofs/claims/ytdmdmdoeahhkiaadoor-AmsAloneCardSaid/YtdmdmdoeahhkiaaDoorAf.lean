import Derived.Test.YtdmdmdoeahhkiaaDoorAe
import Derived.Test.YtdmdmdoeahhkiaaDoorQa
namespace Go.Proofs.YtdmdmdoeahhkiaaDoor
open Go.Eng Go.Vx
set_option linter.unusedSimpArgs false
set_option linter.unusedVariables false
set_option maxRecDepth 100000
def rfC (X : List (Nat × Nat)) (N : Nat) (L : List Bool) (p : Nat) (e : Int) : List V := [.row 2 (X.map sV), .lit (.int .i64 (N : Int)), .row 1 (L.map be), .lit (.int .i64 (p : Int)), .lit (.int .i64 e)]
def rfV (X : List (Nat × Nat)) (N : Nat) (L : List Bool) (p : Nat) (e : Int) : V := .agg (rfC X N L p e)
attribute [go_sem] rfC rfV
def updX (L : List Bool) (N key : Nat) (X : List (Nat × Nat)) (p : Nat) : List (Nat × Nat) × Nat × Int := match updL L (N + 1) key X p with | some r => (r.1, r.2, 0) | none => (X, L.length, 8)
end Go.Proofs.YtdmdmdoeahhkiaaDoor
