import Derived.Test.YtfkpfhjfjnnbbaaDoorRa
import Derived.Test.YtfkpfhjfjnnbbaaDoorE6
/-! Package tallymarkref05: sums, differences, products of decimal digits. -/
namespace Go.Proofs.YtfkpfhjfjnnbbaaDoor
open Go.Eng Go.Vx
set_option linter.unusedSimpArgs false
set_option linter.unusedVariables false
set_option maxRecDepth 100000
/-- A number of the document: its digits, told as unchanged. -/
def dg (n : Nat) : List Nat := dgB 10000 n
def DV (n : Nat) : V := .row 1 ((nl (dg n)).map (ie .i64))
attribute [go_sem] DV
end Go.Proofs.YtfkpfhjfjnnbbaaDoor
