import Derived.Test.YtpkfddfkacijoaaGreatDoorSr
import Derived.Test.YtpkfddfkacijoaaGreatDoorVx
import Derived.Test.YtpkfddfkacijoaaGreatDoorSi
namespace Go.Proofs.YtpkfddfkacijoaaGreatDoor
set_option linter.unusedSimpArgs false
set_option linter.unusedVariables false
def lvR (P : SP) (L : List Bool) : Nat → SS → Nat → Int → SS × Nat × Int
 | 0, st, p, e => (st, p, e)
 | k + 1, st, p, e => if e = 0 then lvR P L k ((rsR P L st.2.1 (-1) st.1 0 (0, 0) p e).1.1, st.2.1 + 1, st.2.2) (rsR P L st.2.1 (-1) st.1 0 (0, 0) p e).2.1 (rsR P L st.2.1 (-1) st.1 0 (0, 0) p e).2.2 else (st, p, e)
def tgA (L : List Bool) (x y : SS) (i p : Nat) (e : Int) : Nat × Nat × Int := rnR L (wth (x.1.getD i (0, 0)) x.2.1) (x.2.1 * max (x.1.getD i (0, 0)).2 (y.1.getD i (0, 0)).2) p e
def tgB (L : List Bool) (x y : SS) (i p : Nat) (e : Int) : Nat × Nat × Int := rnR L (wth (y.1.getD i (0, 0)) x.2.1) (x.2.1 * max (x.1.getD i (0, 0)).2 (y.1.getD i (0, 0)).2) (tgA L x y i p e).2.1 (tgA L x y i p e).2.2
def tgR (L : List Bool) (x y : SS) (i p : Nat) (e : Int) : Cell × Nat × Int := (((tgA L x y i p e).1 + (tgB L x y i p e).1, max (x.1.getD i (0, 0)).2 (y.1.getD i (0, 0)).2), (tgB L x y i p e).2)
def mgR (P : SP) (L : List Bool) : Nat → Nat → SS → SS → Nat → Int → SS × Nat × Int
 | 0, _, x, y, p, e => ((x.1, x.2.1, x.2.2 || y.2.2), p, e)
 | k + 1, i, x, y, p, e => mgR P L k (i + 1) (mgS P L i x y p e).2.1 (mgS P L i x y p e).1 (mgS P L i x y p e).2.2.1 (mgS P L i x y p e).2.2.2
where
 mgS (P : SP) (L : List Bool) (i : Nat) (x y : SS) (p : Nat) (e : Int) : SS × SS × Nat × Int :=
  ((lvR P L (x.2.1 - y.2.1) y p e).1,
   ftR P L i (fuelF P x.2.1 (tgR L x (lvR P L (x.2.1 - y.2.1) y p e).1 i (lvR P L (x.2.1 - y.2.1) y p e).2.1 (lvR P L (x.2.1 - y.2.1) y p e).2.2).1.2 + 1) x (tgR L x (lvR P L (x.2.1 - y.2.1) y p e).1 i (lvR P L (x.2.1 - y.2.1) y p e).2.1 (lvR P L (x.2.1 - y.2.1) y p e).2.2).1
    (tgR L x (lvR P L (x.2.1 - y.2.1) y p e).1 i (lvR P L (x.2.1 - y.2.1) y p e).2.1 (lvR P L (x.2.1 - y.2.1) y p e).2.2).2.1 (tgR L x (lvR P L (x.2.1 - y.2.1) y p e).1 i (lvR P L (x.2.1 - y.2.1) y p e).2.1 (lvR P L (x.2.1 - y.2.1) y p e).2.2).2.2)
def meR (P : SP) (L : List Bool) (x y : SS) (p : Nat) : SS × Nat × Int := mgR P L x.1.length 0 (lvR P L (y.2.1 - x.2.1) x p 0).1 y (lvR P L (y.2.1 - x.2.1) x p 0).2.1 (lvR P L (y.2.1 - x.2.1) x p 0).2.2
end Go.Proofs.YtpkfddfkacijoaaGreatDoor

namespace Go.Proofs.YtpkfddfkacijoaaGreatDoor
open Go.Eng Go.Vx
set_option linter.unusedSimpArgs false
set_option linter.unusedVariables false
set_option maxRecDepth 100000
theorem pow_le40 {k : Nat} (h : k ≤ 40) : 2 ^ k ≤ 1099511627776 := Nat.le_trans (Nat.pow_le_pow_right (by decide) h) (by decide)
theorem size_fn {k : Nat} (hk : k ≤ 40) : Fn1 Tryz.prog 133 [.lit (.int .i64 (k : Int))] [] (.lit (.int .i64 ((2 ^ k : Nat) : Int))) [] := by
 refine fn1N_of pl133 (by kernel_rfl) Tryz.call133 Tryz.func133 rfl (by kernel_rfl) rfl [.tmp 2] (by kernel_rfl) fun Q hQ => ?_
 refine runW ?_
 refine loopW (X := Nat × Nat) (st := fun x => ([(0, .lit (.int .i64 (k : Int))), (3, .lit (.int .i64 (x.2 : Int))), (4, .lit (.int .i64 (x.1 : Int)))], []))
  (inv := fun x => x.1 ≤ k ∧ x.2 = 2 ^ x.1) (m := fun x => k - x.1) (0, 1) [] ⟨Nat.zero_le _, rfl⟩ ?_
 rintro ⟨i, n⟩ ⟨hi, hn⟩
 dsimp only at hi hn ⊢
 have h1 := pow_le40 (k := i) (by omega)
 rw [← hn] at h1
 have h2 : 2 ^ (i + 1) = 2 * n := by rw [Nat.pow_succ, Nat.mul_comm, ← hn]
 by_cases h : i < k
 ·
  refine runW ?_
  refine nextW (i + 1, 2 * n) [] ⟨by dsimp only; omega, h2.symm⟩ (by dsimp only; omega)
 ·
  obtain rfl : i = k := by omega
  rw [← hn] at hQ
  refine runW ?_
  exact endW [] hQ
theorem two_fn {k : Nat} (hk : k ≤ 40) : Fn1 Tryz.prog 102 [.lit (.int .i64 (k : Int))] [] (.lit (.int .i64 ((2 ^ k : Nat) : Int))) [] := by
 have z := size_fn hk
 refine fn1N_of pl102 (by kernel_rfl) Tryz.call102 Tryz.func102 rfl (by kernel_rfl) rfl [.tmp 2] (by kernel_rfl) fun Q hQ => ?_
 generalize 2 ^ k = n at *
 refine runW ?_
 refine callV0 (z) rfl rfl ?_
 refine runW ?_
 exact endW [] hQ
def rsC (M D S : Nat) (st : SS) (L : List Bool) (p : Nat) (e : Int) : List V :=
 [.lit (.int .i64 (M : Int)), .lit (.int .i64 (D : Int)), .lit (.int .i64 (S : Int)), .row 2 (st.1.map cV), .lit (.int .i64 (st.2.1 : Int)), .lit (.bool st.2.2), .row 1 (L.map be), .lit (.int .i64 (p : Int)), .lit (.int .i64 e)]
def rsV (M D S : Nat) (st : SS) (L : List Bool) (p : Nat) (e : Int) : V := .agg (rsC M D S st L p e)
attribute [go_sem] rsC rsV
theorem rnR_N {L : List Bool} {n k p : Nat} (hp : p ≤ L.length) : rnR L n k p 0 = ((rndN L n (2 ^ k) p).1, (rndN L n (2 ^ k) p).2.2.1, (rndN L n (2 ^ k) p).2.1) := by
 have h := rndX_run (L := L) (n := n) (k := k) hp
 rw [rndX_N] at h
 unfold rnR
 rw [if_pos rfl]
 generalize rndN L n (2 ^ k) p = N at h ⊢
 obtain ⟨N1, N2, N3, N4⟩ := N
 dsimp only at h ⊢
 cases hr : (rndD n k).run L p with
 | none =>
  rw [hr] at h
  simp only [Prod.mk.injEq] at h
  obtain ⟨h1, h2, h3, h4⟩ := h
  rw [h2, h3, show N1 = 0 by omega]
 | some x =>
  obtain ⟨a, q⟩ := x
  rw [hr] at h
  simp only [Prod.mk.injEq] at h
  obtain ⟨h1, h2, h3, h4⟩ := h
  rw [h2, h3, show N1 = a by omega]
theorem rround_fn {M D S : Nat} {st : SS} {L : List Bool} {p n k : Nat} {e : Int} (hL : L.length ≤ 1048576) (hp : p ≤ L.length) (hn : n ≤ 1099511627776) (hk : k ≤ 32) : Fn1 Tryz.prog 100 [rsV M D S st L p e, .lit (.int .i64 (n : Int)), .lit (.int .i64 (k : Int))] []
  (.tup [rsV M D S st L (rnR L n k p e).2.1 (rnR L n k p e).2.2, .lit (.int .i64 ((rnR L n k p e).1 : Int))]) [] := by
 have z := two_fn (k := k) (by omega)
 have hpos : 2 ^ k ≠ 0 := Nat.ne_of_gt (Nat.pow_pos (by decide))
 have hle : 2 ^ k ≤ 4294967296 := Nat.le_trans (Nat.pow_le_pow_right (by decide) hk) (by decide)
 have r := refRound_fn (L := L) (p := p) (P := n) (D := 2 ^ k) hpos hle hn hp hL
 have hq := rnR_q (L := L) (n := n) (k := k) (p := p) (e := e) hp
 have hv := rnR_le (L := L) (n := n) (k := k) (p := p) (e := e)
 refine fn1N_of pl100 (by kernel_rfl) Tryz.call100 Tryz.func100 rfl (by kernel_rfl) rfl [.cell 6 66, .tmp 7] (by kernel_rfl) fun Q hQ => ?_
 by_cases he : e = 0
 ·
  subst he
  rw [rnR_N hp] at hQ hq hv
  generalize 2 ^ k = dd at *
  obtain ⟨q, hqq⟩ : ∃ q, (rndN L n dd p).2.2.1 = p + q := ⟨(rndN L n dd p).2.2.1 - p, by have := hq.2.1; dsimp only at this; omega⟩
  generalize rndN L n dd p = x at *
  obtain ⟨x1, x2, x3, x4⟩ := x
  dsimp only at hqq hq hv r hQ
  subst hqq
  rw [Nat.add_sub_cancel_left] at r
  refine runW ?_
  refine callV0 (z) rfl rfl ?_
  refine runW ?_
  refine callV0 (r) rfl rfl ?_
  refine runW ?_
  exact endW [] hQ
 ·
  rw [rnR_err he] at hQ
  refine runW ?_
  exact endW [] hQ
theorem rworth_fn {c : Cell} {s : Nat} (hc : c.1 ≤ 16777216) (hs : s * c.2 ≤ 32) (hw : wth c s ≤ 1099511627776) : Fn1 Tryz.prog 72 [cA c, .lit (.int .i64 (s : Int))] [] (.lit (.int .i64 (wth c s : Int))) [] := by
 have z := two_fn (k := s * c.2) (by omega)
 have e : (s : Int) * (c.2 : Int) = ((s * c.2 : Nat) : Int) := by simp
 have e2 : (c.1 : Int) * ((2 ^ (s * c.2) : Nat) : Int) = ((c.1 * 2 ^ (s * c.2) : Nat) : Int) := by simp
 unfold wth at hw
 refine fn1N_of pl72 (by kernel_rfl) Tryz.call72 Tryz.func72 rfl (by kernel_rfl) rfl [.tmp 4] (by kernel_rfl) fun Q hQ => ?_
 unfold wth at hQ
 generalize 2 ^ (s * c.2) = pw at *
 generalize c.1 * pw = v at *
 generalize s * c.2 = k at *
 simp (maxSteps := 1000000) (disch := (first | omega | (simp only [lnA, List.length_map, List.length_range, true_and, and_true]; (try omega); done) | fail)) only [go_sem, e, Int.reduceEq, Int.reduceToNat, Nat.reduceAdd, Nat.reduceMul, Nat.reduceEqDiff, ↓reduceIte]
 refine callV0 (z) rfl rfl ?_
 simp (maxSteps := 1000000) (disch := (first | omega | (simp only [lnA, List.length_map, List.length_range, true_and, and_true]; (try omega); done) | fail)) only [go_sem, e2, Int.reduceEq, Int.reduceToNat, Nat.reduceAdd, Nat.reduceMul, Nat.reduceEqDiff, ↓reduceIte]
 exact endW [] hQ
theorem rput_fn {M D S i : Nat} {st : SS} {L : List Bool} {p : Nat} {e : Int} {c : Cell} (hi : i < st.1.length) (hX : st.1.length ≤ 256) : Fn1 Tryz.prog 132 [rsV M D S st L p e, .lit (.int .i64 (i : Int)), cA c] []
  (rsV M D S (st.1.set i (putS c), st.2) L p e) [] := by
 have es := cV_set (cs := st.1) (i := i) (c := putS c)
 unfold putS at es ⊢
 obtain ⟨cs, s, f⟩ := st
 dsimp only at hi hX es ⊢
 refine fn1N_of pl132 (by kernel_rfl) Tryz.call132 Tryz.func132 rfl (by kernel_rfl) rfl [.cell 6 66] (by kernel_rfl) fun Q hQ => ?_
 by_cases h0 : c.1 = 0
 ·
  rw [if_pos h0] at es hQ
  dsimp only at es
  rw [show ((0 : Nat) : Int) = 0 from rfl] at es
  have el : (cs.set i (c.1, 0)).length = cs.length := List.length_set
  have et : List.take cs.length (List.map cV (cs.set i (c.1, 0))) = List.map cV (cs.set i (c.1, 0)) := List.take_of_length_le (by rw [List.length_map, el]; exact Nat.le_refl _)
  have eq2 : cs.length ≤ (List.map cV (cs.set i (c.1, 0))).length := by rw [List.length_map, el]; exact Nat.le_refl _
  simp (maxSteps := 1000000) (disch := (first | omega | (simp only [lnA, List.length_map, List.length_range, true_and, and_true]; (try omega); done) | fail)) only [go_sem, es, Int.reduceEq, Int.reduceToNat, Nat.reduceAdd, Nat.reduceMul, Nat.reduceEqDiff, ↓reduceIte]
  exact endW [] hQ
 ·
  rw [if_neg h0] at es hQ
  have el : (cs.set i c).length = cs.length := List.length_set
  simp (maxSteps := 1000000) (disch := (first | omega | (simp only [lnA, List.length_map, List.length_range, true_and, and_true]; (try omega); done) | fail)) only [go_sem, es, Int.reduceEq, Int.reduceToNat, Nat.reduceAdd, Nat.reduceMul, Nat.reduceEqDiff, ↓reduceIte]
  exact endW [] hQ
end Go.Proofs.YtpkfddfkacijoaaGreatDoor
