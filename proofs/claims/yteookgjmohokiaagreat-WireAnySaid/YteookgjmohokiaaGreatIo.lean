import Derived.Test.YteookgjmohokiaaGreatIn
namespace Go.Proofs.YteookgjmohokiaaGreat
open Go.Eng Go.Vx
set_option linter.unusedSimpArgs false
set_option linter.unusedVariables false
set_option maxRecDepth 100000
theorem nmX_good {L : List Bool} {p : Nat} {e : Int} (h : 1 ≤ (nmX L p e).1 ∧ (nmX L p e).1 ≤ 256) : e = 0 ∧ (nmX L p e).2.2 = 0 := by
  have hl := gX_lt (L := L) (p := p)
  unfold nmX at *
  split at h
  · rename_i h1
    refine ⟨h1, ?_⟩
    rw [if_pos h1]
    split at h
    · rename_i h2
      rw [if_pos h2]
      split at h
      · rename_i h3
        exfalso
        dsimp only at h
        have : IntKind.i64.wrap (((gX L p).1 : Int) - 1) = ((gX L p).1 : Int) - 1 ∨ IntKind.i64.wrap (((gX L p).1 : Int) - 1) = ((gX L p).1 : Int) - 1 - 18446744073709551616 := by
          simp [IntKind.wrap, IntKind.bits, IntKind.signed]
          omega
        omega
      · rename_i h3
        rw [if_neg h3]
    · omega
  · omega
def itN (t : Int) : V := .agg [.lit (.int .i64 t), .lit (.int .i64 0), .lit (.int .i64 0), .lit (.int .i64 0), .lit (.int .i64 0), .lit (.int .i64 0), .lit (.bool false), .lit (.pointer none), .lit (.pointer none), .lit (.pointer none), .lit (.pointer none)]
def itC (v : Nat) : V := .agg [.lit (.int .i64 4), .lit (.int .i64 0), .lit (.int .i64 0), .lit (.int .i64 0), .lit (.int .i64 0), .lit (.int .i64 0), .lit (.bool false), .lit (.pointer none), .lit (.pointer none), .ref v 0 0 0, .lit (.pointer none)]
attribute [go_sem] itN itC

set_option maxHeartbeats 4000000 in
theorem bodyReg_fn {B : List Int} {K A Z : Int} {p p1 q : Nat} {e1 er s1 s2 : Int} {f : Bool} (hI : IsB B) (hB : B.length ≤ 1099511627776) (hp : p ≤ 8 * B.length) (h1 : prX (bitsOf B) p 0 = ((K, A, Z), p1, e1))
    (hr : Fn1 Tryz.prog 68 [.agg [.lit (.int .i64 K), .lit (.int .i64 A), .lit (.int .i64 Z)], .ref 0 0 0 0] [some (rdC B p1)] (.tup [.agg [.lit (.int .i64 s1), .lit (.int .i64 s2), .lit (.bool f)], .lit (.int .i64 er)]) [some (rdC B q)]) :
    Fn1 Tryz.prog 38 [.ref 0 0 0 0, .lit (.int .i64 1)] [some (wrdC 1 0), some (rdC B p)] (.agg [.lit (.int .i64 1), .lit (.int .i64 K), .lit (.int .i64 A), .lit (.int .i64 Z), .lit (.int .i64 s1), .lit (.int .i64 s2), .lit (.bool f), .lit (.pointer none), .lit (.pointer none), .lit (.pointer none), .lit (.pointer none)])
      [some (wrdC 1 (if e1 = 0 then er else e1)), some (rdC B q)] := by
  have hbl := bitsOf_len B
  have r1 := wreg_fn (p := p) (e := 0) hI hB (by omega)
  have l1 := prX_le (L := bitsOf B) (p := p) (e := 0) (by omega)
  rw [h1] at r1 l1
  dsimp only at r1 l1
  refine fn1N_of pl38 (by kernel_rfl) Tryz.call38 Tryz.func38 rfl (by kernel_rfl) rfl [.cell 4 52] (by kernel_rfl) fun Q hQ => ?_
  by_cases he : e1 = 0
  · rw [if_pos he] at hQ
    subst he
    refine runW ?_
    refine callW [some 0, some 1] [] (r1) ?_
    refine runW ?_
    refine callW [some 1] [] (hr) ?_
    refine runW ?_
    exact endW [some 0, some 1] hQ
  · rw [if_neg he] at hQ
    refine runW ?_
    refine callW [some 0, some 1] [] (r1) ?_
    refine runW ?_
    refine callW [some 1] [] (hr) ?_
    refine runW ?_
    exact endW [some 0, some 1] hQ

set_option maxHeartbeats 4000000 in
theorem bodyArr_bad {B : List Int} {K A Z n : Int} {p p1 p2 q : Nat} {e1 e2 er : Int} (hI : IsB B) (hB : B.length ≤ 1099511627776) (hp : p ≤ 8 * B.length) (h1 : prX (bitsOf B) p 0 = ((K, A, Z), p1, e1)) (h2 : nmX (bitsOf B) p1 e1 = (n, p2, e2))
    (hr : Fn1 Tryz.prog 69 [.ref 0 0 0 0, .agg [.lit (.int .i64 K), .lit (.int .i64 A), .lit (.int .i64 Z)], .lit (.int .i64 n)] [some (rdC B p2)] (.tup [.lit (.pointer none), .lit (.int .i64 er)]) [some (rdC B q)]) :
    Fn1 Tryz.prog 38 [.ref 0 0 0 0, .lit (.int .i64 2)] [some (wrdC 1 0), some (rdC B p)] (itN 2) [some (wrdC 1 (if e2 = 0 then er else e2)), some (rdC B q)] := by
  have hbl := bitsOf_len B
  have r1 := wreg_fn (p := p) (e := 0) hI hB (by omega)
  have l1 := prX_le (L := bitsOf B) (p := p) (e := 0) (by omega)
  rw [h1] at r1 l1
  dsimp only at r1 l1
  have r2 := wnum_fn (p := p1) (e := e1) hI hB (by omega)
  have l2 := nmX_le (L := bitsOf B) (p := p1) (e := e1) l1
  rw [h2] at r2 l2
  dsimp only at r2 l2
  refine fn1N_of pl38 (by kernel_rfl) Tryz.call38 Tryz.func38 rfl (by kernel_rfl) rfl [.cell 4 52] (by kernel_rfl) fun Q hQ => ?_
  by_cases he : e2 = 0
  · rw [if_pos he] at hQ
    subst he
    refine runW ?_
    refine callW [some 0, some 1] [] (r1) ?_
    simp (maxSteps := 1000000) (disch := (first | omega | (simp only [lnA, List.length_map, List.length_range, true_and, and_true]; (try omega); done) | fail)) only [go_sem, and_self, and_true, Int.reduceEq, Int.reduceToNat, Nat.reduceAdd, Nat.reduceMul, Nat.reduceEqDiff, ↓reduceIte]
    repeat' refine And.intro ?_ ?_
    all_goals
      refine callW [some 0, some 1] [] (r2) ?_
      simp (maxSteps := 1000000) (disch := (first | omega | (simp only [lnA, List.length_map, List.length_range, true_and, and_true]; (try omega); done) | fail)) only [go_sem, and_self, and_true, Int.reduceEq, Int.reduceToNat, Nat.reduceAdd, Nat.reduceMul, Nat.reduceEqDiff, ↓reduceIte]
      repeat' refine And.intro ?_ ?_
      all_goals
        refine callW [some 1] [] (hr) ?_
        refine runW ?_
        exact endW [some 0, some 1] hQ
  · rw [if_neg he] at hQ
    refine runW ?_
    refine callW [some 0, some 1] [] (r1) ?_
    simp (maxSteps := 1000000) (disch := (first | omega | (simp only [lnA, List.length_map, List.length_range, true_and, and_true]; (try omega); done) | fail)) only [go_sem, and_self, and_true, Int.reduceEq, Int.reduceToNat, Nat.reduceAdd, Nat.reduceMul, Nat.reduceEqDiff, ↓reduceIte]
    repeat' refine And.intro ?_ ?_
    all_goals
      refine callW [some 0, some 1] [] (r2) ?_
      simp (maxSteps := 1000000) (disch := (first | omega | (simp only [lnA, List.length_map, List.length_range, true_and, and_true]; (try omega); done) | fail)) only [go_sem, and_self, and_true, Int.reduceEq, Int.reduceToNat, Nat.reduceAdd, Nat.reduceMul, Nat.reduceEqDiff, ↓reduceIte]
      repeat' refine And.intro ?_ ?_
      all_goals
        refine callW [some 1] [] (hr) ?_
        refine runW ?_
        exact endW [some 0, some 1] hQ

set_option maxHeartbeats 4000000 in
theorem bodyArr_ok {B : List Int} {K A Z n : Int} {p p1 p2 q : Nat} {e1 e2 : Int} {k a b n0 : Nat} {l : List SR} (hI : IsB B) (hB : B.length ≤ 1099511627776) (hp : p ≤ 8 * B.length) (h1 : prX (bitsOf B) p 0 = ((K, A, Z), p1, e1)) (h2 : nmX (bitsOf B) p1 e1 = (n, p2, e2))
    (hr : Fn1 Tryz.prog 69 [.ref 0 0 0 0, .agg [.lit (.int .i64 K), .lit (.int .i64 A), .lit (.int .i64 Z)], .lit (.int .i64 n)] [some (rdC B p2)] (.tup [.ref 1 0 0 0, .lit (.int .i64 0)]) [some (rdC B q), some (caC 2 k a b), some (vcC 3 n0 (wd k a b)), some (vcR n0 (wd k a b) (packN (wd k a b) (l.map (nuO k a b))))]) :
    Fn1 Tryz.prog 38 [.ref 0 0 0 0, .lit (.int .i64 2)] [some (wrdC 1 0), some (rdC B p)] (itA 2) [some (wrdC 1 (if e2 = 0 then 0 else e2)), some (rdC B q), some (caC 3 k a b), some (vcC 4 n0 (wd k a b)), some (vcR n0 (wd k a b) (packN (wd k a b) (l.map (nuO k a b))))] := by
  have hbl := bitsOf_len B
  have r1 := wreg_fn (p := p) (e := 0) hI hB (by omega)
  have l1 := prX_le (L := bitsOf B) (p := p) (e := 0) (by omega)
  rw [h1] at r1 l1
  dsimp only at r1 l1
  have r2 := wnum_fn (p := p1) (e := e1) hI hB (by omega)
  have l2 := nmX_le (L := bitsOf B) (p := p1) (e := e1) l1
  rw [h2] at r2 l2
  dsimp only at r2 l2
  refine fn1N_of pl38 (by kernel_rfl) Tryz.call38 Tryz.func38 rfl (by kernel_rfl) rfl [.cell 4 52] (by kernel_rfl) fun Q hQ => ?_
  by_cases he : e2 = 0
  · rw [if_pos he] at hQ
    subst he
    refine runW ?_
    refine callW [some 0, some 1] [] (r1) ?_
    simp (maxSteps := 1000000) (disch := (first | omega | (simp only [lnA, List.length_map, List.length_range, true_and, and_true]; (try omega); done) | fail)) only [go_sem, and_self, and_true, Int.reduceEq, Int.reduceToNat, Nat.reduceAdd, Nat.reduceMul, Nat.reduceEqDiff, ↓reduceIte]
    repeat' refine And.intro ?_ ?_
    all_goals
      refine callW [some 0, some 1] [] (r2) ?_
      simp (maxSteps := 1000000) (disch := (first | omega | (simp only [lnA, List.length_map, List.length_range, true_and, and_true]; (try omega); done) | fail)) only [go_sem, and_self, and_true, Int.reduceEq, Int.reduceToNat, Nat.reduceAdd, Nat.reduceMul, Nat.reduceEqDiff, ↓reduceIte]
      repeat' refine And.intro ?_ ?_
      all_goals
        refine callW [some 1] [] (hr) ?_
        refine runW ?_
        exact endW [some 0, some 1, some 4, some 5, some 6] hQ
  · rw [if_neg he] at hQ
    refine runW ?_
    refine callW [some 0, some 1] [] (r1) ?_
    simp (maxSteps := 1000000) (disch := (first | omega | (simp only [lnA, List.length_map, List.length_range, true_and, and_true]; (try omega); done) | fail)) only [go_sem, and_self, and_true, Int.reduceEq, Int.reduceToNat, Nat.reduceAdd, Nat.reduceMul, Nat.reduceEqDiff, ↓reduceIte]
    repeat' refine And.intro ?_ ?_
    all_goals
      refine callW [some 0, some 1] [] (r2) ?_
      simp (maxSteps := 1000000) (disch := (first | omega | (simp only [lnA, List.length_map, List.length_range, true_and, and_true]; (try omega); done) | fail)) only [go_sem, and_self, and_true, Int.reduceEq, Int.reduceToNat, Nat.reduceAdd, Nat.reduceMul, Nat.reduceEqDiff, ↓reduceIte]
      repeat' refine And.intro ?_ ?_
      all_goals
        refine callW [some 1] [] (hr) ?_
        refine runW ?_
        exact endW [some 0, some 1, some 4, some 5, some 6] hQ

set_option maxHeartbeats 4000000 in
theorem bodySac_bad {B : List Int} {M D S n : Int} {p p1 p2 p3 p4 q : Nat} {e1 e2 e3 e4 er : Int} (hI : IsB B) (hB : B.length ≤ 1099511627776) (hp : p ≤ 8 * B.length) (h1 : nmX (bitsOf B) p 0 = (M, p1, e1)) (h2 : nmX (bitsOf B) p1 e1 = (D, p2, e2)) (h3 : nmX (bitsOf B) p2 e2 = (S, p3, e3)) (h4 : nmX (bitsOf B) p3 e3 = (n, p4, e4))
    (hr : Fn1 Tryz.prog 71 [.ref 0 0 0 0, .agg [.lit (.int .i64 M), .lit (.int .i64 D), .lit (.int .i64 S)], .lit (.int .i64 n)] [some (rdC B p4)] (.tup [.lit (.pointer none), .lit (.int .i64 er)]) [some (rdC B q)]) :
    Fn1 Tryz.prog 38 [.ref 0 0 0 0, .lit (.int .i64 3)] [some (wrdC 1 0), some (rdC B p)] (itN 3) [some (wrdC 1 (if e4 = 0 then er else e4)), some (rdC B q)] := by
  have hbl := bitsOf_len B
  have r1 := wnum_fn (p := p) (e := 0) hI hB (by omega)
  have l1 := nmX_le (L := bitsOf B) (p := p) (e := 0) (by omega)
  rw [h1] at r1 l1
  dsimp only at r1 l1
  have r2 := wnum_fn (p := p1) (e := e1) hI hB (by omega)
  have l2 := nmX_le (L := bitsOf B) (p := p1) (e := e1) l1
  rw [h2] at r2 l2
  dsimp only at r2 l2
  have r3 := wnum_fn (p := p2) (e := e2) hI hB (by omega)
  have l3 := nmX_le (L := bitsOf B) (p := p2) (e := e2) l2
  rw [h3] at r3 l3
  dsimp only at r3 l3
  have r4 := wnum_fn (p := p3) (e := e3) hI hB (by omega)
  have l4 := nmX_le (L := bitsOf B) (p := p3) (e := e3) l3
  rw [h4] at r4 l4
  dsimp only at r4 l4
  refine fn1N_of pl38 (by kernel_rfl) Tryz.call38 Tryz.func38 rfl (by kernel_rfl) rfl [.cell 4 52] (by kernel_rfl) fun Q hQ => ?_
  by_cases he : e4 = 0
  · rw [if_pos he] at hQ
    subst he
    refine runW ?_
    refine callW [some 0, some 1] [] (r1) ?_
    refine runW ?_
    refine callW [some 0, some 1] [] (r2) ?_
    refine runW ?_
    refine callW [some 0, some 1] [] (r3) ?_
    simp (maxSteps := 1000000) (disch := (first | omega | (simp only [lnA, List.length_map, List.length_range, true_and, and_true]; (try omega); done) | fail)) only [go_sem, and_self, and_true, Int.reduceEq, Int.reduceToNat, Nat.reduceAdd, Nat.reduceMul, Nat.reduceEqDiff, ↓reduceIte]
    repeat' refine And.intro ?_ ?_
    all_goals
      refine callW [some 0, some 1] [] (r4) ?_
      simp (maxSteps := 1000000) (disch := (first | omega | (simp only [lnA, List.length_map, List.length_range, true_and, and_true]; (try omega); done) | fail)) only [go_sem, and_self, and_true, Int.reduceEq, Int.reduceToNat, Nat.reduceAdd, Nat.reduceMul, Nat.reduceEqDiff, ↓reduceIte]
      repeat' refine And.intro ?_ ?_
      all_goals
        refine callW [some 1] [] (hr) ?_
        refine runW ?_
        exact endW [some 0, some 1] hQ
  · rw [if_neg he] at hQ
    refine runW ?_
    refine callW [some 0, some 1] [] (r1) ?_
    refine runW ?_
    refine callW [some 0, some 1] [] (r2) ?_
    refine runW ?_
    refine callW [some 0, some 1] [] (r3) ?_
    simp (maxSteps := 1000000) (disch := (first | omega | (simp only [lnA, List.length_map, List.length_range, true_and, and_true]; (try omega); done) | fail)) only [go_sem, and_self, and_true, Int.reduceEq, Int.reduceToNat, Nat.reduceAdd, Nat.reduceMul, Nat.reduceEqDiff, ↓reduceIte]
    repeat' refine And.intro ?_ ?_
    all_goals
      refine callW [some 0, some 1] [] (r4) ?_
      simp (maxSteps := 1000000) (disch := (first | omega | (simp only [lnA, List.length_map, List.length_range, true_and, and_true]; (try omega); done) | fail)) only [go_sem, and_self, and_true, Int.reduceEq, Int.reduceToNat, Nat.reduceAdd, Nat.reduceMul, Nat.reduceEqDiff, ↓reduceIte]
      repeat' refine And.intro ?_ ?_
      all_goals
        refine callW [some 1] [] (hr) ?_
        refine runW ?_
        exact endW [some 0, some 1] hQ

set_option maxHeartbeats 4000000 in
theorem bodySac_ok {B : List Int} {M D S n : Int} {p p1 p2 p3 p4 q : Nat} {e1 e2 e3 e4 : Int} {m0 d0 s0 : Nat} {st : SS} (hI : IsB B) (hB : B.length ≤ 1099511627776) (hp : p ≤ 8 * B.length) (h1 : nmX (bitsOf B) p 0 = (M, p1, e1)) (h2 : nmX (bitsOf B) p1 e1 = (D, p2, e2)) (h3 : nmX (bitsOf B) p2 e2 = (S, p3, e3)) (h4 : nmX (bitsOf B) p3 e3 = (n, p4, e4))
    (hr : Fn1 Tryz.prog 71 [.ref 0 0 0 0, .agg [.lit (.int .i64 M), .lit (.int .i64 D), .lit (.int .i64 S)], .lit (.int .i64 n)] [some (rdC B p4)] (.tup [.ref 1 0 0 0, .lit (.int .i64 0)]) [some (rdC B q), some (saC m0 d0 s0 st)]) :
    Fn1 Tryz.prog 38 [.ref 0 0 0 0, .lit (.int .i64 3)] [some (wrdC 1 0), some (rdC B p)] (itS 2) [some (wrdC 1 (if e4 = 0 then 0 else e4)), some (rdC B q), some (saC m0 d0 s0 st)] := by
  have hbl := bitsOf_len B
  have r1 := wnum_fn (p := p) (e := 0) hI hB (by omega)
  have l1 := nmX_le (L := bitsOf B) (p := p) (e := 0) (by omega)
  rw [h1] at r1 l1
  dsimp only at r1 l1
  have r2 := wnum_fn (p := p1) (e := e1) hI hB (by omega)
  have l2 := nmX_le (L := bitsOf B) (p := p1) (e := e1) l1
  rw [h2] at r2 l2
  dsimp only at r2 l2
  have r3 := wnum_fn (p := p2) (e := e2) hI hB (by omega)
  have l3 := nmX_le (L := bitsOf B) (p := p2) (e := e2) l2
  rw [h3] at r3 l3
  dsimp only at r3 l3
  have r4 := wnum_fn (p := p3) (e := e3) hI hB (by omega)
  have l4 := nmX_le (L := bitsOf B) (p := p3) (e := e3) l3
  rw [h4] at r4 l4
  dsimp only at r4 l4
  refine fn1N_of pl38 (by kernel_rfl) Tryz.call38 Tryz.func38 rfl (by kernel_rfl) rfl [.cell 4 52] (by kernel_rfl) fun Q hQ => ?_
  by_cases he : e4 = 0
  · rw [if_pos he] at hQ
    subst he
    refine runW ?_
    refine callW [some 0, some 1] [] (r1) ?_
    refine runW ?_
    refine callW [some 0, some 1] [] (r2) ?_
    refine runW ?_
    refine callW [some 0, some 1] [] (r3) ?_
    simp (maxSteps := 1000000) (disch := (first | omega | (simp only [lnA, List.length_map, List.length_range, true_and, and_true]; (try omega); done) | fail)) only [go_sem, and_self, and_true, Int.reduceEq, Int.reduceToNat, Nat.reduceAdd, Nat.reduceMul, Nat.reduceEqDiff, ↓reduceIte]
    repeat' refine And.intro ?_ ?_
    all_goals
      refine callW [some 0, some 1] [] (r4) ?_
      simp (maxSteps := 1000000) (disch := (first | omega | (simp only [lnA, List.length_map, List.length_range, true_and, and_true]; (try omega); done) | fail)) only [go_sem, and_self, and_true, Int.reduceEq, Int.reduceToNat, Nat.reduceAdd, Nat.reduceMul, Nat.reduceEqDiff, ↓reduceIte]
      repeat' refine And.intro ?_ ?_
      all_goals
        refine callW [some 1] [] (hr) ?_
        refine runW ?_
        exact endW [some 0, some 1, some 4] hQ
  · rw [if_neg he] at hQ
    refine runW ?_
    refine callW [some 0, some 1] [] (r1) ?_
    refine runW ?_
    refine callW [some 0, some 1] [] (r2) ?_
    refine runW ?_
    refine callW [some 0, some 1] [] (r3) ?_
    simp (maxSteps := 1000000) (disch := (first | omega | (simp only [lnA, List.length_map, List.length_range, true_and, and_true]; (try omega); done) | fail)) only [go_sem, and_self, and_true, Int.reduceEq, Int.reduceToNat, Nat.reduceAdd, Nat.reduceMul, Nat.reduceEqDiff, ↓reduceIte]
    repeat' refine And.intro ?_ ?_
    all_goals
      refine callW [some 0, some 1] [] (r4) ?_
      simp (maxSteps := 1000000) (disch := (first | omega | (simp only [lnA, List.length_map, List.length_range, true_and, and_true]; (try omega); done) | fail)) only [go_sem, and_self, and_true, Int.reduceEq, Int.reduceToNat, Nat.reduceAdd, Nat.reduceMul, Nat.reduceEqDiff, ↓reduceIte]
      repeat' refine And.intro ?_ ?_
      all_goals
        refine callW [some 1] [] (hr) ?_
        refine runW ?_
        exact endW [some 0, some 1, some 4] hQ

set_option maxHeartbeats 4000000 in
theorem bodyCms_bad {B : List Int} {R C K A Z : Int} {p p1 p2 p3 q : Nat} {e1 e2 e3 er : Int} (hI : IsB B) (hB : B.length ≤ 1099511627776) (hp : p ≤ 8 * B.length) (h1 : nmX (bitsOf B) p 0 = (R, p1, e1)) (h2 : nmX (bitsOf B) p1 e1 = (C, p2, e2)) (h3 : prX (bitsOf B) p2 e2 = ((K, A, Z), p3, e3))
    (hr : Fn1 Tryz.prog 72 [.ref 0 0 0 0, .agg [.lit (.int .i64 R), .lit (.int .i64 C), .lit (.int .i64 K), .lit (.int .i64 A), .lit (.int .i64 Z)]] [some (rdC B p3)] (.tup [.lit (.pointer none), .lit (.int .i64 er)]) [some (rdC B q)]) :
    Fn1 Tryz.prog 38 [.ref 0 0 0 0, .lit (.int .i64 4)] [some (wrdC 1 0), some (rdC B p)] (itN 4) [some (wrdC 1 (if e3 = 0 then er else e3)), some (rdC B q)] := by
  have hbl := bitsOf_len B
  have r1 := wnum_fn (p := p) (e := 0) hI hB (by omega)
  have l1 := nmX_le (L := bitsOf B) (p := p) (e := 0) (by omega)
  rw [h1] at r1 l1
  dsimp only at r1 l1
  have r2 := wnum_fn (p := p1) (e := e1) hI hB (by omega)
  have l2 := nmX_le (L := bitsOf B) (p := p1) (e := e1) l1
  rw [h2] at r2 l2
  dsimp only at r2 l2
  have r3 := wreg_fn (p := p2) (e := e2) hI hB (by omega)
  have l3 := prX_le (L := bitsOf B) (p := p2) (e := e2) l2
  rw [h3] at r3 l3
  dsimp only at r3 l3
  refine fn1N_of pl38 (by kernel_rfl) Tryz.call38 Tryz.func38 rfl (by kernel_rfl) rfl [.cell 4 52] (by kernel_rfl) fun Q hQ => ?_
  by_cases he : e3 = 0
  · rw [if_pos he] at hQ
    subst he
    refine runW ?_
    refine callW [some 0, some 1] [] (r1) ?_
    refine runW ?_
    refine callW [some 0, some 1] [] (r2) ?_
    simp (maxSteps := 1000000) (disch := (first | omega | (simp only [lnA, List.length_map, List.length_range, true_and, and_true]; (try omega); done) | fail)) only [go_sem, and_self, and_true, Int.reduceEq, Int.reduceToNat, Nat.reduceAdd, Nat.reduceMul, Nat.reduceEqDiff, ↓reduceIte]
    repeat' refine And.intro ?_ ?_
    all_goals
      refine callW [some 0, some 1] [] (r3) ?_
      simp (maxSteps := 1000000) (disch := (first | omega | (simp only [lnA, List.length_map, List.length_range, true_and, and_true]; (try omega); done) | fail)) only [go_sem, and_self, and_true, Int.reduceEq, Int.reduceToNat, Nat.reduceAdd, Nat.reduceMul, Nat.reduceEqDiff, ↓reduceIte]
      repeat' refine And.intro ?_ ?_
      all_goals
        refine callW [some 1] [] (hr) ?_
        refine runW ?_
        exact endW [some 0, some 1] hQ
  · rw [if_neg he] at hQ
    refine runW ?_
    refine callW [some 0, some 1] [] (r1) ?_
    refine runW ?_
    refine callW [some 0, some 1] [] (r2) ?_
    simp (maxSteps := 1000000) (disch := (first | omega | (simp only [lnA, List.length_map, List.length_range, true_and, and_true]; (try omega); done) | fail)) only [go_sem, and_self, and_true, Int.reduceEq, Int.reduceToNat, Nat.reduceAdd, Nat.reduceMul, Nat.reduceEqDiff, ↓reduceIte]
    repeat' refine And.intro ?_ ?_
    all_goals
      refine callW [some 0, some 1] [] (r3) ?_
      simp (maxSteps := 1000000) (disch := (first | omega | (simp only [lnA, List.length_map, List.length_range, true_and, and_true]; (try omega); done) | fail)) only [go_sem, and_self, and_true, Int.reduceEq, Int.reduceToNat, Nat.reduceAdd, Nat.reduceMul, Nat.reduceEqDiff, ↓reduceIte]
      repeat' refine And.intro ?_ ?_
      all_goals
        refine callW [some 1] [] (hr) ?_
        refine runW ?_
        exact endW [some 0, some 1] hQ

set_option maxHeartbeats 4000000 in
theorem bodyCms_ok {B : List Int} {R C K A Z : Int} {p p1 p2 p3 q : Nat} {e1 e2 e3 : Int} {r0 c0 k a b T : Nat} {l : List RW} (hI : IsB B) (hB : B.length ≤ 1099511627776) (hp : p ≤ 8 * B.length) (h1 : nmX (bitsOf B) p 0 = (R, p1, e1)) (h2 : nmX (bitsOf B) p1 e1 = (C, p2, e2)) (h3 : prX (bitsOf B) p2 e2 = ((K, A, Z), p3, e3))
    (hr : Fn1 Tryz.prog 72 [.ref 0 0 0 0, .agg [.lit (.int .i64 R), .lit (.int .i64 C), .lit (.int .i64 K), .lit (.int .i64 A), .lit (.int .i64 Z)]] [some (rdC B p3)] (.tup [.ref 1 0 0 0, .lit (.int .i64 0)]) [some (rdC B q), some (cmC r0 c0 k a b l T)]) :
    Fn1 Tryz.prog 38 [.ref 0 0 0 0, .lit (.int .i64 4)] [some (wrdC 1 0), some (rdC B p)] (itC 2) [some (wrdC 1 (if e3 = 0 then 0 else e3)), some (rdC B q), some (cmC r0 c0 k a b l T)] := by
  have hbl := bitsOf_len B
  have r1 := wnum_fn (p := p) (e := 0) hI hB (by omega)
  have l1 := nmX_le (L := bitsOf B) (p := p) (e := 0) (by omega)
  rw [h1] at r1 l1
  dsimp only at r1 l1
  have r2 := wnum_fn (p := p1) (e := e1) hI hB (by omega)
  have l2 := nmX_le (L := bitsOf B) (p := p1) (e := e1) l1
  rw [h2] at r2 l2
  dsimp only at r2 l2
  have r3 := wreg_fn (p := p2) (e := e2) hI hB (by omega)
  have l3 := prX_le (L := bitsOf B) (p := p2) (e := e2) l2
  rw [h3] at r3 l3
  dsimp only at r3 l3
  refine fn1N_of pl38 (by kernel_rfl) Tryz.call38 Tryz.func38 rfl (by kernel_rfl) rfl [.cell 4 52] (by kernel_rfl) fun Q hQ => ?_
  by_cases he : e3 = 0
  · rw [if_pos he] at hQ
    subst he
    refine runW ?_
    refine callW [some 0, some 1] [] (r1) ?_
    refine runW ?_
    refine callW [some 0, some 1] [] (r2) ?_
    simp (maxSteps := 1000000) (disch := (first | omega | (simp only [lnA, List.length_map, List.length_range, true_and, and_true]; (try omega); done) | fail)) only [go_sem, and_self, and_true, Int.reduceEq, Int.reduceToNat, Nat.reduceAdd, Nat.reduceMul, Nat.reduceEqDiff, ↓reduceIte]
    repeat' refine And.intro ?_ ?_
    all_goals
      refine callW [some 0, some 1] [] (r3) ?_
      simp (maxSteps := 1000000) (disch := (first | omega | (simp only [lnA, List.length_map, List.length_range, true_and, and_true]; (try omega); done) | fail)) only [go_sem, and_self, and_true, Int.reduceEq, Int.reduceToNat, Nat.reduceAdd, Nat.reduceMul, Nat.reduceEqDiff, ↓reduceIte]
      repeat' refine And.intro ?_ ?_
      all_goals
        refine callW [some 1] [] (hr) ?_
        refine runW ?_
        exact endW [some 0, some 1, some 4] hQ
  · rw [if_neg he] at hQ
    refine runW ?_
    refine callW [some 0, some 1] [] (r1) ?_
    refine runW ?_
    refine callW [some 0, some 1] [] (r2) ?_
    simp (maxSteps := 1000000) (disch := (first | omega | (simp only [lnA, List.length_map, List.length_range, true_and, and_true]; (try omega); done) | fail)) only [go_sem, and_self, and_true, Int.reduceEq, Int.reduceToNat, Nat.reduceAdd, Nat.reduceMul, Nat.reduceEqDiff, ↓reduceIte]
    repeat' refine And.intro ?_ ?_
    all_goals
      refine callW [some 0, some 1] [] (r3) ?_
      simp (maxSteps := 1000000) (disch := (first | omega | (simp only [lnA, List.length_map, List.length_range, true_and, and_true]; (try omega); done) | fail)) only [go_sem, and_self, and_true, Int.reduceEq, Int.reduceToNat, Nat.reduceAdd, Nat.reduceMul, Nat.reduceEqDiff, ↓reduceIte]
      repeat' refine And.intro ?_ ?_
      all_goals
        refine callW [some 1] [] (hr) ?_
        refine runW ?_
        exact endW [some 0, some 1, some 4] hQ

set_option maxHeartbeats 4000000 in
theorem bodyAms_bad {B : List Int} {K P C : Int} {p p1 p2 p3 q : Nat} {e1 e2 e3 er : Int} (hI : IsB B) (hB : B.length ≤ 1099511627776) (hp : p ≤ 8 * B.length) (h1 : nmX (bitsOf B) p 0 = (K, p1, e1)) (h2 : nmX (bitsOf B) p1 e1 = (P, p2, e2)) (h3 : nmX (bitsOf B) p2 e2 = (C, p3, e3))
    (hr : Fn1 Tryz.prog 73 [.ref 0 0 0 0, .agg [.lit (.int .i64 K), .lit (.int .i64 P), .lit (.int .i64 C)]] [some (rdC B p3)] (.tup [.lit (.pointer none), .lit (.int .i64 er)]) [some (rdC B q)]) :
    Fn1 Tryz.prog 38 [.ref 0 0 0 0, .lit (.int .i64 5)] [some (wrdC 1 0), some (rdC B p)] (itN 5) [some (wrdC 1 (if e3 = 0 then er else e3)), some (rdC B q)] := by
  have hbl := bitsOf_len B
  have r1 := wnum_fn (p := p) (e := 0) hI hB (by omega)
  have l1 := nmX_le (L := bitsOf B) (p := p) (e := 0) (by omega)
  rw [h1] at r1 l1
  dsimp only at r1 l1
  have r2 := wnum_fn (p := p1) (e := e1) hI hB (by omega)
  have l2 := nmX_le (L := bitsOf B) (p := p1) (e := e1) l1
  rw [h2] at r2 l2
  dsimp only at r2 l2
  have r3 := wnum_fn (p := p2) (e := e2) hI hB (by omega)
  have l3 := nmX_le (L := bitsOf B) (p := p2) (e := e2) l2
  rw [h3] at r3 l3
  dsimp only at r3 l3
  refine fn1N_of pl38 (by kernel_rfl) Tryz.call38 Tryz.func38 rfl (by kernel_rfl) rfl [.cell 4 52] (by kernel_rfl) fun Q hQ => ?_
  by_cases he : e3 = 0
  · rw [if_pos he] at hQ
    subst he
    refine runW ?_
    refine callW [some 0, some 1] [] (r1) ?_
    refine runW ?_
    refine callW [some 0, some 1] [] (r2) ?_
    simp (maxSteps := 1000000) (disch := (first | omega | (simp only [lnA, List.length_map, List.length_range, true_and, and_true]; (try omega); done) | fail)) only [go_sem, and_self, and_true, Int.reduceEq, Int.reduceToNat, Nat.reduceAdd, Nat.reduceMul, Nat.reduceEqDiff, ↓reduceIte]
    repeat' refine And.intro ?_ ?_
    all_goals
      refine callW [some 0, some 1] [] (r3) ?_
      simp (maxSteps := 1000000) (disch := (first | omega | (simp only [lnA, List.length_map, List.length_range, true_and, and_true]; (try omega); done) | fail)) only [go_sem, and_self, and_true, Int.reduceEq, Int.reduceToNat, Nat.reduceAdd, Nat.reduceMul, Nat.reduceEqDiff, ↓reduceIte]
      repeat' refine And.intro ?_ ?_
      all_goals
        refine callW [some 1] [] (hr) ?_
        refine runW ?_
        exact endW [some 0, some 1] hQ
  · rw [if_neg he] at hQ
    refine runW ?_
    refine callW [some 0, some 1] [] (r1) ?_
    refine runW ?_
    refine callW [some 0, some 1] [] (r2) ?_
    simp (maxSteps := 1000000) (disch := (first | omega | (simp only [lnA, List.length_map, List.length_range, true_and, and_true]; (try omega); done) | fail)) only [go_sem, and_self, and_true, Int.reduceEq, Int.reduceToNat, Nat.reduceAdd, Nat.reduceMul, Nat.reduceEqDiff, ↓reduceIte]
    repeat' refine And.intro ?_ ?_
    all_goals
      refine callW [some 0, some 1] [] (r3) ?_
      simp (maxSteps := 1000000) (disch := (first | omega | (simp only [lnA, List.length_map, List.length_range, true_and, and_true]; (try omega); done) | fail)) only [go_sem, and_self, and_true, Int.reduceEq, Int.reduceToNat, Nat.reduceAdd, Nat.reduceMul, Nat.reduceEqDiff, ↓reduceIte]
      repeat' refine And.intro ?_ ?_
      all_goals
        refine callW [some 1] [] (hr) ?_
        refine runW ?_
        exact endW [some 0, some 1] hQ

set_option maxHeartbeats 4000000 in
theorem bodyAms_ok {B : List Int} {K P C : Int} {p p1 p2 p3 q : Nat} {e1 e2 e3 : Int} {X : List (Nat × Nat)} {T : Nat} (hI : IsB B) (hB : B.length ≤ 1099511627776) (hp : p ≤ 8 * B.length) (h1 : nmX (bitsOf B) p 0 = (K, p1, e1)) (h2 : nmX (bitsOf B) p1 e1 = (P, p2, e2)) (h3 : nmX (bitsOf B) p2 e2 = (C, p3, e3))
    (hr : Fn1 Tryz.prog 73 [.ref 0 0 0 0, .agg [.lit (.int .i64 K), .lit (.int .i64 P), .lit (.int .i64 C)]] [some (rdC B p3)] (.tup [.ref 1 0 0 0, .lit (.int .i64 0)]) [some (rdC B q), some (amC K P C X T)]) :
    Fn1 Tryz.prog 38 [.ref 0 0 0 0, .lit (.int .i64 5)] [some (wrdC 1 0), some (rdC B p)] (itM 2) [some (wrdC 1 (if e3 = 0 then 0 else e3)), some (rdC B q), some (amC K P C X T)] := by
  have hbl := bitsOf_len B
  have r1 := wnum_fn (p := p) (e := 0) hI hB (by omega)
  have l1 := nmX_le (L := bitsOf B) (p := p) (e := 0) (by omega)
  rw [h1] at r1 l1
  dsimp only at r1 l1
  have r2 := wnum_fn (p := p1) (e := e1) hI hB (by omega)
  have l2 := nmX_le (L := bitsOf B) (p := p1) (e := e1) l1
  rw [h2] at r2 l2
  dsimp only at r2 l2
  have r3 := wnum_fn (p := p2) (e := e2) hI hB (by omega)
  have l3 := nmX_le (L := bitsOf B) (p := p2) (e := e2) l2
  rw [h3] at r3 l3
  dsimp only at r3 l3
  refine fn1N_of pl38 (by kernel_rfl) Tryz.call38 Tryz.func38 rfl (by kernel_rfl) rfl [.cell 4 52] (by kernel_rfl) fun Q hQ => ?_
  by_cases he : e3 = 0
  · rw [if_pos he] at hQ
    subst he
    refine runW ?_
    refine callW [some 0, some 1] [] (r1) ?_
    refine runW ?_
    refine callW [some 0, some 1] [] (r2) ?_
    simp (maxSteps := 1000000) (disch := (first | omega | (simp only [lnA, List.length_map, List.length_range, true_and, and_true]; (try omega); done) | fail)) only [go_sem, and_self, and_true, Int.reduceEq, Int.reduceToNat, Nat.reduceAdd, Nat.reduceMul, Nat.reduceEqDiff, ↓reduceIte]
    repeat' refine And.intro ?_ ?_
    all_goals
      refine callW [some 0, some 1] [] (r3) ?_
      simp (maxSteps := 1000000) (disch := (first | omega | (simp only [lnA, List.length_map, List.length_range, true_and, and_true]; (try omega); done) | fail)) only [go_sem, and_self, and_true, Int.reduceEq, Int.reduceToNat, Nat.reduceAdd, Nat.reduceMul, Nat.reduceEqDiff, ↓reduceIte]
      repeat' refine And.intro ?_ ?_
      all_goals
        refine callW [some 1] [] (hr) ?_
        refine runW ?_
        exact endW [some 0, some 1, some 4] hQ
  · rw [if_neg he] at hQ
    refine runW ?_
    refine callW [some 0, some 1] [] (r1) ?_
    refine runW ?_
    refine callW [some 0, some 1] [] (r2) ?_
    simp (maxSteps := 1000000) (disch := (first | omega | (simp only [lnA, List.length_map, List.length_range, true_and, and_true]; (try omega); done) | fail)) only [go_sem, and_self, and_true, Int.reduceEq, Int.reduceToNat, Nat.reduceAdd, Nat.reduceMul, Nat.reduceEqDiff, ↓reduceIte]
    repeat' refine And.intro ?_ ?_
    all_goals
      refine callW [some 0, some 1] [] (r3) ?_
      simp (maxSteps := 1000000) (disch := (first | omega | (simp only [lnA, List.length_map, List.length_range, true_and, and_true]; (try omega); done) | fail)) only [go_sem, and_self, and_true, Int.reduceEq, Int.reduceToNat, Nat.reduceAdd, Nat.reduceMul, Nat.reduceEqDiff, ↓reduceIte]
      repeat' refine And.intro ?_ ?_
      all_goals
        refine callW [some 1] [] (hr) ?_
        refine runW ?_
        exact endW [some 0, some 1, some 4] hQ

theorem bodyX_fn {B : List Int} {p : Nat} {t : Int} (h : t ≠ 1 ∧ t ≠ 2 ∧ t ≠ 3 ∧ t ≠ 4 ∧ t ≠ 5) : Fn1 Tryz.prog 38 [.ref 0 0 0 0, .lit (.int .i64 t)] [some (wrdC 1 0), some (rdC B p)] (itN t) [some (wrdC 1 13), some (rdC B p)] := by
  obtain ⟨h1, h2, h3, h4, h5⟩ := h
  refine fn1N_of pl38 (by kernel_rfl) Tryz.call38 Tryz.func38 rfl (by kernel_rfl) rfl [.cell 4 52] (by kernel_rfl) fun Q hQ => ?_
  refine runW ?_
  exact endW [some 0, some 1] hQ

end Go.Proofs.YteookgjmohokiaaGreat
