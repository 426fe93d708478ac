import Derived.Test.YtdmdmdoeahhkiaaGreatDoorSx
import Derived.Test.YtdmdmdoeahhkiaaGreatDoorSn
namespace Go.Proofs.YtdmdmdoeahhkiaaGreatDoor
open Go.Eng Go.Vx
set_option linter.unusedSimpArgs false
set_option linter.unusedVariables false
set_option maxRecDepth 100000
theorem radd19_fn {M D S p i n : Nat} {st : SS} {L : List Bool} (hw : WB M D S) (hL : L.length ≤ 1048576) (hp : p ≤ L.length) (hX : st.1.length ≤ 256) (hi : i < st.1.length) (hs : SOk (SPof M D S) st) (hn : n ≤ 1048576) :
    Fn1 Tryz.prog 92 [rsV M D S st L p 0, .lit (.int .i64 (i : Int)), .lit (.int .i64 (n : Int))] []
    (rsV M D S (adR (SPof M D S) L st i n p).1 L (adR (SPof M D S) L st i n p).2.1 (adR (SPof M D S) L st i n p).2.2) [] := by
  have hpw := hw.pw
  have hm255 := hpw.m255
  have hd3 := hpw.d3
  have hPs : (SPof M D S).s = S := rfl
  have hS4 := hw.s4
  have hc := getD_ok hs.c i
  have hs2 := hs.s2
  obtain ⟨cs, s, fu⟩ := st
  dsimp only at hX hi hc hs2
  have hg0 : cs.getD i default = cs.getD i (0, 0) := by rw [List.getD_eq_getElem?_getD, List.getD_eq_getElem?_getD, List.getElem?_eq_getElem hi]; rfl
  unfold adR
  dsimp only
  generalize hcc : cs.getD i (0, 0) = c at hc ⊢
  have hg1 := hg0.trans hcc
  clear hg0
  obtain ⟨c1, c2, c3⟩ := hc
  have hsm := sm_le (s := s) (m := c.2) (by omega) (by omega)
  have e : (s : Int) * (c.2 : Int) = ((s * c.2 : Nat) : Int) := by simp
  have rr := rround_fn (M := M) (D := D) (S := S) (st := (cs, s, fu)) (L := L) (p := p) (n := n) (k := s * c.2) (e := 0) hL hp (by omega) (by omega)
  have hrq := rnR_q (L := L) (n := n) (k := s * c.2) (p := p) (e := 0) hp
  have hrl := (rnR_le (L := L) (n := n) (k := s * c.2) (p := p) (e := 0)).2
  generalize rnR L n (s * c.2) p 0 = x at *
  obtain ⟨x1, x2, x3⟩ := x
  dsimp only at rr hrq hrl
  have ft := rfit_fn (M := M) (D := D) (S := S) (st0 := (cs, s, fu)) (c0 := (c.1 + x1, c.2)) (p0 := x2) (e0 := x3) (i := i) (F := fuelF (SPof M D S) s c.2) hw hL hrq.1 hX hi (hs.g hpw) ⟨by dsimp only; omega, c2⟩ (fun _ => need_le _ _ _)
  generalize ftR (SPof M D S) L i (fuelF (SPof M D S) s c.2 + 1) (cs, s, fu) (c.1 + x1, c.2) x2 x3 = y at *
  generalize s * c.2 = k at *
  refine fn1N_of pl92 (by kernel_rfl) Tryz.call92 Tryz.func92 rfl (by kernel_rfl) rfl [.cell 6 79] (by kernel_rfl) fun Q hQ => ?_
  simp (maxSteps := 1000000) (disch := (first | omega | (simp only [lnA, List.length_map, List.length_range, true_and, and_true]; (try omega); done) | fail)) only [go_sem, hg1, e, Int.reduceEq, Int.reduceToNat, Nat.reduceAdd, Nat.reduceMul, Nat.reduceEqDiff, ↓reduceIte]
  refine callV0 (rr) rfl rfl ?_
  refine runW ?_
  refine callV0 (ft) rfl rfl ?_
  refine runW ?_
  exact endW [] hQ
set_option maxHeartbeats 4000000 in
theorem rlevel_fn {M D S p0 t : Nat} {st0 : SS} {L : List Bool} {e0 : Int} (hw : WB M D S) (hL : L.length ≤ 1048576) (hp0 : p0 ≤ L.length) (hX : st0.1.length ≤ 256) (hg : GOk (SPof M D S) st0 e0) (ht : t ≤ S) :
    Fn1 Tryz.prog 97 [rsV M D S st0 L p0 e0, .lit (.int .i64 (t : Int))] []
    (rsV M D S (lvR (SPof M D S) L (t - st0.2.1) st0 p0 e0).1 L (lvR (SPof M D S) L (t - st0.2.1) st0 p0 e0).2.1 (lvR (SPof M D S) L (t - st0.2.1) st0 p0 e0).2.2) [] := by
  have hpw := hw.pw
  have hPs : (SPof M D S).s = S := rfl
  have hS4 := hw.s4
  have hre := fun (cs : List Cell) (w : Nat) (f : Bool) (p : Nat) => rresc_fn (M := M) (D := D) (S := S) (cs := cs) (w := w) (f := f) (L := L) (i := (-1 : Int)) (own0 := (0, 0)) (p0 := p) (e0 := 0) hw hL
  generalize hP : SPof M D S = P at *
  obtain ⟨n, hn⟩ : ∃ n, st0.1.length = n := ⟨_, rfl⟩
  refine fn1N_of pl97 (by kernel_rfl) Tryz.call97 Tryz.func97 rfl (by kernel_rfl) rfl [.cell 4 79] (by kernel_rfl) fun Q hQ => ?_
  refine runW ?_
  refine loopW (X := SS × Nat × Int) (st := fun y => ([(1, .lit (.int .i64 (t : Int))), (2, .ref 0 0 0 0), (4, .ref 1 0 0 0)], [some (.cells (rsC M D S y.1 L y.2.1 y.2.2)), some (.cells z9C)]))
    (inv := fun y => y.1.1.length = n ∧ y.2.1 ≤ L.length ∧ GOk P y.1 y.2.2 ∧ lvR P L (t - st0.2.1) st0 p0 e0 = lvR P L (t - y.1.2.1) y.1 y.2.1 y.2.2)
    (m := fun y => t - y.1.2.1) (st0, p0, e0) [some 0, some 1] ⟨hn, hp0, hg, rfl⟩ ?_
  rintro ⟨⟨cs, s, fu⟩, p, e⟩ ⟨hlen, hp, hgo, hrun⟩
  have hgs1 := hgo.s1
  have hgs2 := hgo.s2
  dsimp only at hlen hp hrun hgs1 hgs2 ⊢
  by_cases h1 : s < t
  · obtain ⟨k, hk⟩ : ∃ k, t - s = k + 1 := ⟨t - s - 1, by omega⟩
    have hk2 : t - (s + 1) = k := by omega
    by_cases he : e = 0
    · subst he
      have hso := hgo.k rfl
      have hsc := hso.c
      dsimp only at hsc
      rw [hk, lvR.eq_2, if_pos rfl] at hrun
      have rr := hre cs s fu p hp hgs1 (by omega) (by omega) hgo.l (fun _ => hsc) ⟨Nat.zero_le _, Nat.zero_le _⟩ (fun _ h => absurd h (by decide))
      have hgood := rs_good hpw (L := L) (p := p) (i := (-1 : Int)) (own := (0, 0)) hso (by dsimp only; omega) (fun h => absurd h (by decide))
      have hok := rsR_ok hpw (L := L) (w := s) (i := (-1 : Int)) (cs := cs) (k := 0) (own := (0, 0)) (p := p) (e := 0) hgs1 hgo.l (fun _ => hsc) ⟨Nat.zero_le _, Nat.zero_le _⟩ (fun _ h => absurd h (by decide))
      have hpp := rsR_p (P := P) (w := s) (i := (-1 : Int)) (cs := cs) (k := 0) (own := (0, 0)) (p := p) (e := 0) hp
      dsimp only at hrun hgood
      generalize rsR P L s (-1 : Int) cs 0 (0, 0) p 0 = x at *
      obtain ⟨⟨x1, x2⟩, x3, x4⟩ := x
      dsimp only at rr hrun hgood hok hpp
      rw [show cA (0, 0) = .agg [.lit (.int .i64 0), .lit (.int .i64 0)] from rfl] at rr
      refine runW ?_
      refine callV0 (rr) rfl rfl ?_
      refine runW ?_
      refine nextW ((x1, s + 1, fu), x3, x4) [some 0, some 1] ⟨by dsimp only; omega, hpp, ⟨hok.1, by dsimp only; omega, by dsimp only; omega, fun h => (hgood h).1⟩, by dsimp only; rw [hk2]; exact hrun⟩ (by dsimp only; omega)
    · rw [lvR_err he] at hrun
      rw [hrun] at hQ
      simp (maxSteps := 1000000) (disch := (first | omega | (simp only [lnA, List.length_map, List.length_range, true_and, and_true]; (try omega); done) | fail)) only [go_sem, decide_eq_false he, Int.reduceEq, Int.reduceToNat, Nat.reduceAdd, Nat.reduceMul, Nat.reduceEqDiff, ↓reduceIte]
      exact endW [] hQ
  · have hz : t - s = 0 := by omega
    rw [hz] at hrun
    have hrun2 : lvR P L (t - st0.2.1) st0 p0 e0 = ((cs, s, fu), p, e) := hrun
    rw [hrun2] at hQ
    refine runW ?_
    exact endW [] hQ
end Go.Proofs.YtdmdmdoeahhkiaaGreatDoor

namespace Go.Proofs.YtdmdmdoeahhkiaaGreatDoor
open Go.Eng Go.Vx
set_option linter.unusedSimpArgs false
set_option linter.unusedVariables false
set_option maxRecDepth 100000
structure Run19 (M D S n : Nat) (L : List Bool) (st : SS) (p : Nat) (d : Bool) : Prop where
  ok : SOk (SPof M D S) st
  len : st.1.length = n
  pl : p ≤ L.length
  dl : d = true → p = L.length
def aV (x : Int × Int) : List PV := [.lit (.int .i64 x.1), .lit (.int .i64 x.2)]
@[go_sem] theorem aV_eq {x : Int × Int} : aV x = [.lit (.int .i64 x.1), .lit (.int .i64 x.2)] := (rfl)
end Go.Proofs.YtdmdmdoeahhkiaaGreatDoor
