import Derived.Test.YtpkfddfkacijoaaGreatDoorYe
import Derived.Test.YtpkfddfkacijoaaGreatDoorN2
namespace Go.Proofs.YtpkfddfkacijoaaGreatDoor
open Go.Eng Go.Vx
set_option linter.unusedSimpArgs false
set_option linter.unusedVariables false
set_option maxRecDepth 100000
theorem sla24 {ob : Ob} {k : Nat} {F : FV} (h : 24 ≤ obN ob) (hk : k ≤ 24) : slaV Tryz.prog 214 0 none (some (.lit (.int .i64 (k : Int)))) [some ob] F = F true (.sl 0 1 0 k) := by
 rw [slaV_of (n := 24) (et := 5) (z := 1) (by kernel_rfl) (ob := ob) rfl (by omega)]
 simp only [bdoK, bdK]
 rw [if_pos (by omega)]
 simp
@[go_sem] theorem rc24 : rowC ((List.replicate 24 (0 : Int)).map (ie .u8)) = some [.lit (.int .u8 0), .lit (.int .u8 0), .lit (.int .u8 0), .lit (.int .u8 0), .lit (.int .u8 0), .lit (.int .u8 0), .lit (.int .u8 0), .lit (.int .u8 0), .lit (.int .u8 0), .lit (.int .u8 0), .lit (.int .u8 0), .lit (.int .u8 0), .lit (.int .u8 0), .lit (.int .u8 0), .lit (.int .u8 0), .lit (.int .u8 0), .lit (.int .u8 0), .lit (.int .u8 0), .lit (.int .u8 0), .lit (.int .u8 0), .lit (.int .u8 0), .lit (.int .u8 0), .lit (.int .u8 0), .lit (.int .u8 0)] := (rfl)
theorem ch_bytes (l : List Nat) : (l.map ch).map (fun n => UInt8.ofNat n.toNat) = decB l := by
 unfold decB
 rw [List.map_map]
 rfl
theorem uint10_fn {u : Nat} (h : u < 18446744073709551616) : Fn1 Tryz.prog 123 [.lit (.int .u64 (u : Int)), .lit (.int .i64 10)] [] (.lit (.string (bs (decS u)))) [] := by
 refine fn1N_of pl123 (by kernel_rfl) Tryz.call123 Tryz.func123 rfl (by kernel_rfl) rfl [.tmp 4] (by kernel_rfl) fun Q hQ => ?_
 by_cases h1 : u < 100
 ·
  refine runW ?_
  refine callV0 (small_fn10 h1) rfl rfl ?_
  refine runW ?_
  exact endW [] hQ
 ·
  have hn := numDigits_fn (d := u) (by omega) h
  have hl := nd10_lt u
  have hle : nd10 u ≤ 20 := (nd10_le (by decide)).2 (by omega)
  have hlen := decL_len (nd10 u) u
  have hlt := decL_lt (nd10 u) u
  have hf := fmt10_fn (L := List.replicate 24 0) (n := nd10 u) (u := u) (by rw [List.length_replicate]; omega) (by decide) hl h
  have hA := fun F => sla24 (ob := .cells [.lit (.int .u8 0), .lit (.int .u8 0), .lit (.int .u8 0), .lit (.int .u8 0), .lit (.int .u8 0), .lit (.int .u8 0), .lit (.int .u8 0), .lit (.int .u8 0), .lit (.int .u8 0), .lit (.int .u8 0), .lit (.int .u8 0), .lit (.int .u8 0), .lit (.int .u8 0), .lit (.int .u8 0), .lit (.int .u8 0), .lit (.int .u8 0), .lit (.int .u8 0), .lit (.int .u8 0), .lit (.int .u8 0), .lit (.int .u8 0), .lit (.int .u8 0), .lit (.int .u8 0), .lit (.int .u8 0), .lit (.int .u8 0)]) (k := nd10 u) (F := F) (by decide) (by omega)
  have hB := fun F => sla24 (ob := .row 1 (((decL (nd10 u) u).map ch ++ (List.replicate 24 0).drop (nd10 u)).map (ie .u8))) (k := nd10 u) (F := F) (by simp only [obN, List.length_map, List.length_append, hlen, List.length_drop, List.length_replicate]; omega) (by omega)
  unfold decS at hQ
  generalize nd10 u = n at *
  refine runW ?_
  refine callV0 (hn) rfl rfl ?_
  simp (maxSteps := 1000000) (disch := (first | omega | (simp only [lnA, List.length_map, List.length_range, true_and, and_true]; (try omega); done) | fail)) only [go_sem, hA, Int.reduceEq, Int.reduceToNat, Nat.reduceAdd, Nat.reduceMul, Nat.reduceEqDiff, ↓reduceIte]
  refine callW [some 0] [] (hf) ?_
  simp (maxSteps := 1000000) (disch := (first | omega | (simp only [lnA, List.length_map, List.length_range, true_and, and_true]; (try omega); done) | fail)) only [go_sem, hB, Int.reduceEq, Int.reduceToNat, Nat.reduceAdd, Nat.reduceMul, Nat.reduceEqDiff, ↓reduceIte]
  have hm : ((decL n u).map ch).length = n := by rw [List.length_map]; exact hlen
  rw [List.take_left' hm, ch_bytes]
  exact endW [] hQ
theorem fuint_fn {u : Nat} (h : u < 18446744073709551616) : Fn1 Tryz.prog 97 [.lit (.int .u64 (u : Int)), .lit (.int .i64 10)] [] (.lit (.string (bs (decS u)))) [] := by
 refine fn1N_of pl97 (by kernel_rfl) Tryz.call97 Tryz.func97 rfl (by kernel_rfl) rfl [.tmp 4] (by kernel_rfl) fun Q hQ => ?_
 refine runW ?_
 refine callV0 (uint10_fn h) rfl rfl ?_
 refine runW ?_
 exact endW [] hQ
end Go.Proofs.YtpkfddfkacijoaaGreatDoor

namespace Go.Proofs.YtpkfddfkacijoaaGreatDoor
open Go.Eng Go.Vx
set_option linter.unusedSimpArgs false
set_option linter.unusedVariables false
set_option maxRecDepth 100000
theorem slHasPrefix_fn {S p : List UInt8} (hS : S.length ≤ 9223372036854775807) (hp : p.length ≤ 9223372036854775807) : Fn1 Tryz.prog 155 [.lit (.string (bs S)), .lit (.string (bs p))] [] (.lit (.bool (decide (p.length ≤ S.length ∧ S.take p.length = p)))) [] := by
 refine fn1N_of pl155 (by kernel_rfl) Tryz.call155 Tryz.func155 rfl (by kernel_rfl) rfl [.tmp 4] (by kernel_rfl) fun Q hQ => ?_
 by_cases h : p.length ≤ S.length
 ·
  have e : decide (p.length ≤ S.length ∧ S.take p.length = p) = decide (S.take p.length = p) := by simp [h]
  rw [e] at hQ
  simp (maxSteps := 1000000) (disch := (first | omega | (simp only [lnA, List.length_map, List.length_range, true_and, and_true]; (try omega); done) | fail)) only [go_sem, List.drop_zero, Int.reduceEq, Int.reduceToNat, Nat.reduceAdd, Nat.reduceMul, Nat.reduceEqDiff, ↓reduceIte]
  exact endW [] hQ
 ·
  rw [decide_eq_false (fun e => h e.1)] at hQ
  refine runW ?_
  exact endW [] hQ
theorem hasPrefix_fn {S p : List UInt8} (hS : S.length ≤ 9223372036854775807) (hp : p.length ≤ 9223372036854775807) : Fn1 Tryz.prog 125 [.lit (.string (bs S)), .lit (.string (bs p))] [] (.lit (.bool (decide (p.length ≤ S.length ∧ S.take p.length = p)))) [] := by
 refine fn1N_of pl125 (by kernel_rfl) Tryz.call125 Tryz.func125 rfl (by kernel_rfl) rfl [.tmp 4] (by kernel_rfl) fun Q hQ => ?_
 refine runW ?_
 refine callV0 (slHasPrefix_fn hS hp) rfl rfl ?_
 refine runW ?_
 exact endW [] hQ
theorem hasPrefixB_fn {S p : List UInt8} {b : Bool} (hS : decide (S.length ≤ 9223372036854775807) = true) (hp : decide (p.length ≤ 9223372036854775807) = true) (hb : decide (p.length ≤ S.length ∧ S.take p.length = p) = b) : Fn1 Tryz.prog 125 [.lit (.string (bs S)), .lit (.string (bs p))] [] (.lit (.bool b)) [] := by
 rw [← hb]
 exact hasPrefix_fn (of_decide_eq_true hS) (of_decide_eq_true hp)
theorem bmul_fn {x y : Nat} (hx : x < 18446744073709551616) (hy : y < 18446744073709551616) : Fn1 Tryz.prog 124 [.lit (.int .u64 (x : Int)), .lit (.int .u64 (y : Int))] [] (.tup [.lit (.int .u64 ((x * y / 18446744073709551616 : Nat) : Int)), .lit (.int .u64 ((x * y % 18446744073709551616 : Nat) : Int))]) [] := by
 refine fn1N_of pl124 (by kernel_rfl) Tryz.call124 Tryz.func124 rfl (by kernel_rfl) rfl [.tmp 4, .tmp 5] (by kernel_rfl) fun Q hQ => ?_
 refine runW ?_
 refine callV0 (mul64_fn (x := x) (y := y) hx hy) rfl rfl ?_
 refine runW ?_
 exact endW [] hQ
theorem repeat0_fn {c : Nat} (hc : c ≤ 64) : Fn1 Tryz.prog 98 [.lit (.string (bs [48])), .lit (.int .i64 (c : Int))] [] (.lit (.string (bs (List.replicate c 48)))) [] := by
 refine fn1N_of pl98 (by kernel_rfl) Tryz.call98 Tryz.func98 rfl (by kernel_rfl) rfl [.tmp 4] (by kernel_rfl) fun Q hQ => ?_
 by_cases h0 : c = 0
 ·
  subst h0
  refine runW ?_
  exact endW [] hQ
 ·
  by_cases h1 : c = 1
  ·
   subst h1
   refine runW ?_
   exact endW [] hQ
  ·
   have hm := bmul_fn (x := 1) (y := c) (by decide) (by omega)
   rw [Nat.one_mul, Nat.div_eq_of_lt (by omega), Nat.mod_eq_of_lt (by omega)] at hm
   refine runW ?_
   have hg : ((([48] : List UInt8).getD 0 0).toNat : Int) = 48 := rfl
   refine callV0 (hm) rfl rfl ?_
   simp (maxSteps := 1000000) (disch := (first | omega | (simp only [lnA, List.length_map, List.length_range, true_and, and_true]; (try omega); done) | fail)) only [go_sem, hg, Int.reduceEq, Int.reduceToNat, Nat.reduceAdd, Nat.reduceMul, Nat.reduceEqDiff, ↓reduceIte]
   refine callV0 (hasPrefixB_fn (b := false) (by kernel_rfl) (by kernel_rfl) (by kernel_rfl)) rfl rfl ?_
   refine runW ?_
   refine callV0 (hasPrefixB_fn (b := false) (by kernel_rfl) (by kernel_rfl) (by kernel_rfl)) rfl rfl ?_
   refine runW ?_
   refine callV0 (hasPrefixB_fn (b := true) (by kernel_rfl) (by kernel_rfl) (by kernel_rfl)) rfl rfl ?_
   refine runW ?_
   have hend : EndV 0 Q (.lit (.string (bs (List.replicate c 48)))) [] := by exact endW [] hQ
   refine cast (congrArg (fun l => EndV 0 Q (.lit (.string (bs l))) []) ?_) hend
   show List.replicate c 48 = List.take c (List.replicate 64 48)
   rw [List.take_replicate, Nat.min_eq_left hc]
end Go.Proofs.YtpkfddfkacijoaaGreatDoor
