import Derived.Test.YteookgjmohokiaaGreatIc
import Derived.Test.YteookgjmohokiaaGreatWj
namespace Go.Proofs.YteookgjmohokiaaGreat
open Go.Eng Go.Vx
set_option linter.unusedSimpArgs false
set_option linter.unusedVariables false
set_option maxRecDepth 100000
def wrdC (v : Nat) (e : Int) : Ob := .cells [.ref v 0 0 0, .lit (.int .i64 e)]
attribute [go_sem] wrdC
def nmX (L : List Bool) (p : Nat) (e : Int) : Int × Nat × Int :=
  if e = 0 then
    (if (gX L p).2.2 = 0 then (if 1048576 < (gX L p).1 then (IntKind.i64.wrap (((gX L p).1 : Int) - 1), (gX L p).2.1, 13) else (((gX L p).1 : Int) - 1, (gX L p).2.1, 0))
     else (0, (gX L p).2.1, (gX L p).2.2))
  else (0, p, e)
theorem nmX_le {L : List Bool} {p : Nat} {e : Int} (h : p ≤ L.length) : (nmX L p e).2.1 ≤ L.length := by
  have := gX_le h
  unfold nmX
  split
  · split
    · split <;> exact this
    · exact this
  · exact h
set_option maxHeartbeats 1000000 in
theorem wnum_fn {B : List Int} {p : Nat} {e : Int} (hI : IsB B) (hB : B.length ≤ 1099511627776) (hp : p ≤ 8 * B.length) : Fn1 Tryz.prog 70 [.ref 0 0 0 0] [some (wrdC 1 e), some (rdC B p)]
    (.lit (.int .i64 (nmX (bitsOf B) p e).1)) [some (wrdC 1 (nmX (bitsOf B) p e).2.2), some (rdC B (nmX (bitsOf B) p e).2.1)] := by
  have g := gamma_fn hI hB hp
  have hlt := gX_lt (L := bitsOf B) (p := p)
  have hpos := gX_pos (L := bitsOf B) (p := p)
  have herr := gX_err (L := bitsOf B) (p := p)
  unfold nmX
  generalize gX (bitsOf B) p = v at *
  obtain ⟨n, q, f⟩ := v
  dsimp only at g hlt hpos herr
  refine fn1N_of pl70 (by kernel_rfl) Tryz.call70 Tryz.func70 rfl (by kernel_rfl) rfl [.tmp 2] (by kernel_rfl) fun Q hQ => ?_
  by_cases he : e = 0
  · subst he
    rw [if_pos rfl] at hQ
    dsimp only at hQ
    by_cases hf : f = 0
    · subst hf
      rw [if_pos rfl] at hQ
      have hn := hpos rfl
      have hmin : min (n : Int) 1 = 1 := by omega
      by_cases hn2 : 1048576 < n
      · rw [if_pos hn2] at hQ
        dsimp only at hQ
        refine runW ?_
        refine callW [some 1] [] (g) ?_
        simp (maxSteps := 1000000) (disch := (first | omega | (simp only [lnA, List.length_map, List.length_range, true_and, and_true]; (try omega); done) | fail)) only [go_sem, hmin, Int.reduceEq, Int.reduceToNat, Nat.reduceAdd, Nat.reduceMul, Nat.reduceEqDiff, ↓reduceIte]
        exact endW [some 0, some 1] hQ
      · rw [if_neg hn2] at hQ
        dsimp only at hQ
        refine runW ?_
        refine callW [some 1] [] (g) ?_
        simp (maxSteps := 1000000) (disch := (first | omega | (simp only [lnA, List.length_map, List.length_range, true_and, and_true]; (try omega); done) | fail)) only [go_sem, hmin, Int.reduceEq, Int.reduceToNat, Nat.reduceAdd, Nat.reduceMul, Nat.reduceEqDiff, ↓reduceIte]
        exact endW [some 0, some 1] hQ
    · rw [if_neg hf] at hQ
      obtain rfl := herr hf
      dsimp only at hQ
      refine runW ?_
      refine callW [some 1] [] (g) ?_
      refine runW ?_
      rw [show ((0 : Nat) : Int) - min ((0 : Nat) : Int) 1 = 0 from rfl]
      exact endW [some 0, some 1] hQ
  · rw [if_neg he] at hQ
    dsimp only at hQ
    refine runW ?_
    exact endW [some 0, some 1] hQ
def prX (L : List Bool) (p : Nat) (e : Int) : (Int × Int × Int) × Nat × Int :=
  (((nmX L p e).1, (nmX L (nmX L p e).2.1 (nmX L p e).2.2).1, (nmX L (nmX L (nmX L p e).2.1 (nmX L p e).2.2).2.1 (nmX L (nmX L p e).2.1 (nmX L p e).2.2).2.2).1), (nmX L (nmX L (nmX L p e).2.1 (nmX L p e).2.2).2.1 (nmX L (nmX L p e).2.1 (nmX L p e).2.2).2.2).2)
theorem prX_le {L : List Bool} {p : Nat} {e : Int} (h : p ≤ L.length) : (prX L p e).2.1 ≤ L.length := nmX_le (nmX_le (nmX_le h))
theorem wreg_fn {B : List Int} {p : Nat} {e : Int} (hI : IsB B) (hB : B.length ≤ 1099511627776) (hp : p ≤ 8 * B.length) : Fn1 Tryz.prog 67 [.ref 0 0 0 0] [some (wrdC 1 e), some (rdC B p)]
    (.agg [.lit (.int .i64 (prX (bitsOf B) p e).1.1), .lit (.int .i64 (prX (bitsOf B) p e).1.2.1), .lit (.int .i64 (prX (bitsOf B) p e).1.2.2)]) [some (wrdC 1 (prX (bitsOf B) p e).2.2), some (rdC B (prX (bitsOf B) p e).2.1)] := by
  have hbl := bitsOf_len B
  have n1 := wnum_fn (e := e) hI hB hp
  have l1 := nmX_le (L := bitsOf B) (e := e) (p := p) (by omega)
  unfold prX
  generalize nmX (bitsOf B) p e = v at *
  obtain ⟨x1, p1, e1⟩ := v
  dsimp only at n1 l1
  have n2 := wnum_fn (e := e1) hI hB (show p1 ≤ 8 * B.length by omega)
  have l2 := nmX_le (L := bitsOf B) (e := e1) (p := p1) l1
  generalize nmX (bitsOf B) p1 e1 = v at *
  obtain ⟨x2, p2, e2⟩ := v
  dsimp only at n2 l2
  have n3 := wnum_fn (e := e2) hI hB (show p2 ≤ 8 * B.length by omega)
  dsimp only
  generalize nmX (bitsOf B) p2 e2 = v at *
  obtain ⟨x3, p3, e3⟩ := v
  dsimp only at n3 ⊢
  refine fn1N_of pl67 (by kernel_rfl) Tryz.call67 Tryz.func67 rfl (by kernel_rfl) rfl [.cell 2 43] (by kernel_rfl) fun Q hQ => ?_
  refine runW ?_
  refine callW [some 0, some 1] [] (n1) ?_
  refine runW ?_
  refine callW [some 0, some 1] [] (n2) ?_
  refine runW ?_
  refine callW [some 0, some 1] [] (n3) ?_
  refine runW ?_
  exact endW [some 0, some 1] hQ
end Go.Proofs.YteookgjmohokiaaGreat
