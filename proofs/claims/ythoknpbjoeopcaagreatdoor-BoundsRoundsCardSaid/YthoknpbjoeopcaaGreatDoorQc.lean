import Derived.Test.YthoknpbjoeopcaaGreatDoorQb
/-! Law 7: a fixed fact; RatSums, RatField. -/
namespace Go.Proofs.YthoknpbjoeopcaaGreatDoor
open Go.Eng Go.Vx
set_option linter.unusedSimpArgs false
set_option linter.unusedVariables false
set_option maxRecDepth 100000
theorem RS_small {z : Int} (h : z.natAbs < 18446744073709551616) : RS 1 (z : Rat) := RS_int (wg_one h) (by decide)
end Go.Proofs.YthoknpbjoeopcaaGreatDoor
