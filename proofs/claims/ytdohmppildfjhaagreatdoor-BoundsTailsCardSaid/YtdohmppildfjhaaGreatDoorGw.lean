import Derived.Test.YtdohmppildfjhaaGreatDoorGp
namespace Go.Proofs.YtdohmppildfjhaaGreatDoor
set_option maxRecDepth 100000
theorem chk_31 : ((List.range 15).all fun m => (List.range 16).all fun n => chk 3 1 (m + 1) (n + 1)) = true := by decide +kernel
theorem chk_32 : ((List.range 15).all fun m => (List.range 16).all fun n => chk 3 2 (m + 1) (n + 1)) = true := by decide +kernel
end Go.Proofs.YtdohmppildfjhaaGreatDoor
