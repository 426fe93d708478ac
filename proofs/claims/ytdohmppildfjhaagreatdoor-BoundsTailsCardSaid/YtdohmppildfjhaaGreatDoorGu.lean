import Derived.Test.YtdohmppildfjhaaGreatDoorGp
namespace Go.Proofs.YtdohmppildfjhaaGreatDoor
set_option maxRecDepth 100000
theorem chk_13 : ((List.range 15).all fun m => (List.range 16).all fun n => chk 1 3 (m + 1) (n + 1)) = true := by decide +kernel
theorem chk_14 : ((List.range 15).all fun m => (List.range 16).all fun n => chk 1 4 (m + 1) (n + 1)) = true := by decide +kernel
end Go.Proofs.YtdohmppildfjhaaGreatDoor
