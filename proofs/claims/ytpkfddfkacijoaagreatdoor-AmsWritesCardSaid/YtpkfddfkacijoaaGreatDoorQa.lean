import Derived.Test.YtpkfddfkacijoaaGreatDoorFb
import Derived.Test.YtpkfddfkacijoaaGreatDoorLb
import Derived.Test.YtpkfddfkacijoaaGreatDoorN2
import Derived.Test.YtpkfddfkacijoaaGreatDoorZ1
namespace Go.Proofs.YtpkfddfkacijoaaGreatDoor
open Go.Eng Go.Vx
set_option linter.unusedSimpArgs false
set_option linter.unusedVariables false
set_option maxRecDepth 100000
theorem rnumE_fn {B : List Int} {p w : Nat} (hI : IsB B) (hB : B.length ≤ 1099511627776) (hw : w ≤ 64) (hp : 8 * B.length < p + w) (hp2 : p ≤ 8 * B.length) : Fn1 Tryz.prog 50 [.ref 0 0 0 0, .lit (.int .i64 (w : Int))] [some (rdC B p)] (.tup [.lit (.int .u64 0), .lit (.int .i64 5)]) [some (rdC B p)] := by
  refine fn1N_of pl50 (by kernel_rfl) Tryz.call50 Tryz.func50 rfl (by kernel_rfl) rfl [.tmp 4, .tmp 5] (by kernel_rfl) fun Q hQ => ?_
  simp (maxSteps := 1000000) (disch := (first | omega | (simp only [lnA, List.length_map, List.length_range, true_and, and_true]; (try omega); done) | fail)) only [go_sem, Int.reduceEq, Int.reduceToNat, Nat.reduceAdd, Nat.reduceMul, Nat.reduceEqDiff, ↓reduceIte]
  refine callV0 (bgood_fn) rfl rfl ?_
  rw [decide_eq_true (show (0 : Int) ≤ (w : Int) ∧ (w : Int) ≤ 64 by omega)]
  simp (maxSteps := 1000000) (disch := (first | omega | (simp only [lnA, List.length_map, List.length_range, true_and, and_true]; (try omega); done) | fail)) only [go_sem, Bool.not_true, Int.reduceEq, Int.reduceToNat, Nat.reduceAdd, Nat.reduceMul, Nat.reduceEqDiff, ↓reduceIte]
  refine callW [some 0] [] (left_fn (p := p) hB (by omega)) ?_
  simp (maxSteps := 1000000) (disch := (first | omega | (simp only [lnA, List.length_map, List.length_range, true_and, and_true]; (try omega); done) | fail)) only [go_sem, Int.reduceEq, Int.reduceToNat, Nat.reduceAdd, Nat.reduceMul, Nat.reduceEqDiff, ↓reduceIte]
  exact endW [some 0] hQ
end Go.Proofs.YtpkfddfkacijoaaGreatDoor

namespace Go.Proofs.YtpkfddfkacijoaaGreatDoor
open Go.Eng Go.Vx
set_option linter.unusedSimpArgs false
set_option linter.unusedVariables false
set_option maxRecDepth 100000
end Go.Proofs.YtpkfddfkacijoaaGreatDoor

namespace Go.Proofs.YtpkfddfkacijoaaGreatDoor
open Go.Eng Go.Vx
set_option linter.unusedSimpArgs false
set_option linter.unusedVariables false
set_option maxRecDepth 100000
def ZD (p m : Nat) : V := .agg [.row 1 ((nl (dg p)).map (ie .i64)), .row 1 ((nl (dg m)).map (ie .i64))]
attribute [go_sem] ZD
def zS (z : Int) : List UInt8 := if z < 0 then 45 :: decS z.natAbs else decS z.natAbs
theorem decS_wg {n k : Nat} (h : (wg n).length ≤ k) : (decS n).length ≤ 20 * k + 1 := by
  rw [decS_len]
  by_cases h0 : n = 0
  · subst h0; have : nd10 0 ≤ 1 := (nd10_le (by decide)).2 (by decide)
    omega
  · have := nd10_wg h0
    omega
theorem wtext_fn {x : Int} (hl : (wg x.natAbs).length ≤ 100000) : Fn1 Tryz.prog 85 [WV x] [] (.lit (.string (bs (zS x)))) [] := by
  have h3 := ntext_fn (n := x.natAbs) hl
  have hsl := decS_wg hl
  unfold zS
  by_cases h : x < 0
  · rw [if_pos h]
    refine fn1N_of pl85 (by kernel_rfl) Tryz.call85 Tryz.func85 rfl (by kernel_rfl) rfl [.tmp 2] (by kernel_rfl) fun Q hQ => ?_
    repeat (first | (refine callV0 (h3) rfl rfl ?_) | (simp (maxSteps := 1000000) (disch := (first | omega | (simp only [lnA, List.length_map, List.length_range, true_and, and_true]; (try omega); done) | fail)) only [go_sem, decide_eq_true h, Int.reduceEq, Int.reduceToNat, Nat.reduceAdd, Nat.reduceMul, Nat.reduceEqDiff, ↓reduceIte]))
    exact endW [] hQ
  · rw [if_neg h]
    refine fn1N_of pl85 (by kernel_rfl) Tryz.call85 Tryz.func85 rfl (by kernel_rfl) rfl [.tmp 2] (by kernel_rfl) fun Q hQ => ?_
    repeat (first | (refine callV0 (h3) rfl rfl ?_) | (simp (maxSteps := 1000000) (disch := (first | omega | (simp only [lnA, List.length_map, List.length_range, true_and, and_true]; (try omega); done) | fail)) only [go_sem, decide_eq_false h, Int.reduceEq, Int.reduceToNat, Nat.reduceAdd, Nat.reduceMul, Nat.reduceEqDiff, ↓reduceIte]))
    exact endW [] hQ
end Go.Proofs.YtpkfddfkacijoaaGreatDoor

namespace Go.Proofs.YtpkfddfkacijoaaGreatDoor
open Go.Eng Go.Vx
set_option linter.unusedSimpArgs false
set_option linter.unusedVariables false
set_option maxRecDepth 100000
end Go.Proofs.YtpkfddfkacijoaaGreatDoor

namespace Go.Proofs.YtpkfddfkacijoaaGreatDoor
open Go.Eng Go.Vx
set_option linter.unusedSimpArgs false
set_option linter.unusedVariables false
set_option maxRecDepth 100000
def QD (p m d : Nat) : V := .agg [.row 1 ((nl (dg p)).map (ie .i64)), .row 1 ((nl (dg m)).map (ie .i64)), .row 1 ((nl (dg d)).map (ie .i64))]
attribute [go_sem] QD
def qS (x : Rat) : List UInt8 := zS x.num ++ (if x.den = 1 then [] else 47 :: decS x.den)
end Go.Proofs.YtpkfddfkacijoaaGreatDoor
