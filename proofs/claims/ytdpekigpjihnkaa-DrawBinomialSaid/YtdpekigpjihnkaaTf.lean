import Derived.Test.YtdpekigpjihnkaaTe
/-! Package tallymarklaw11: plain laws. -/
namespace Go.Proofs.Ytdpekigpjihnkaa
def belowOk (n : Nat) : Bool := let r := treeX (askB n) 12; (List.range 64).all (fun i => if i < n then r.1.getD i 0 == r.1.getD 0 0 else r.1.getD i 0 == 0) && ((n : Int) * r.1.getD 0 0 + r.2 == 4096)
theorem belowOks : (List.range 16).all (fun n => belowOk (n + 1)) = true := by decide +kernel
/-- The ways to k of Y, one from the other, as the law's loop counts them. -/
def waysL (Y : Nat) : Nat → Int
  | 0 => 1
  | k + 1 => waysL Y k * ((Y : Int) - k) / (k + 1)
def binOk (Y : Nat) : Bool := let r := treeX (askY Y) 8; r.2 == 0 && r.1.getD (Y + 1) 0 == 0 && (List.range (Y + 1)).all fun k => r.1.getD k 0 == waysL Y k * 2 ^ (8 - Y)
theorem binOks : (List.range 8).all binOk = true := by decide +kernel
end Go.Proofs.Ytdpekigpjihnkaa
