import Derived.Test.YtdohmppildfjhaaGreatDoorGp
namespace Go.Proofs.YtdohmppildfjhaaGreatDoor
set_option maxRecDepth 100000
theorem chk_20 : ((List.range 15).all fun m => (List.range 16).all fun n => chk 2 0 (m + 1) (n + 1)) = true := by decide +kernel
theorem chk_21 : ((List.range 15).all fun m => (List.range 16).all fun n => chk 2 1 (m + 1) (n + 1)) = true := by decide +kernel
end Go.Proofs.YtdohmppildfjhaaGreatDoor
