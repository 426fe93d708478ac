import Derived.Test.YtdmdmdoeahhkiaaGreatDoorSm
namespace Go.Proofs.YtdmdmdoeahhkiaaGreatDoor
open Go.Eng Go.Vx
set_option linter.unusedSimpArgs false
set_option linter.unusedVariables false
set_option maxRecDepth 100000
def W5 (M D S n : Nat) (x y : SS) (L : List Bool) (p : Nat) (d : Bool) : St := [some (saO M D S 3 n x.2.1 x.2.2), some (tpC L p d), some (saO M D S 4 n y.2.1 y.2.2), some (.row 2 (x.1.map cV)), some (.row 2 (y.1.map cV))]
attribute [go_sem] W5
end Go.Proofs.YtdmdmdoeahhkiaaGreatDoor

namespace Go.Proofs.YtdmdmdoeahhkiaaGreatDoor
set_option linter.unusedSimpArgs false
set_option linter.unusedVariables false
def mergeR (M D S : Nat) (L : List Bool) (d : Bool) (x y : SS) (p : Nat) : SS × Int × Nat × Bool := outG x L d ((mergeD (SPof M D S) x y).run L p)
end Go.Proofs.YtdmdmdoeahhkiaaGreatDoor
