import Derived.Test.YtpkfddfkacijoaaGreatDoorSw
namespace Go.Proofs.YtpkfddfkacijoaaGreatDoor
open Go.Eng Go.Vx
set_option linter.unusedSimpArgs false
set_option linter.unusedVariables false
set_option maxRecDepth 100000
theorem rs_good {P : SP} (hP : PW P) {L : List Bool} {st : SS} {i : Int} {own : Cell} {p : Nat} (hs : SOk P st) (hss : st.2.1 < P.s) (ho : 0 ≤ i → own.2 ≤ P.d ∧ P.m < own.1) (h0 : (rsR P L st.2.1 i st.1 0 own p 0).2.2 = 0) :
  SOk P ((rsR P L st.2.1 i st.1 0 own p 0).1.1, st.2.1 + 1, st.2.2) ∧ (0 ≤ i → (rsR P L st.2.1 i st.1 0 own p 0).1.2.2 ≤ P.d) := by
 have hall := rsD_all hP.toPB hs.s1 i st.1 0 own hs.c ho
 rcases Lk_ok (Lk_rs (P := P) (L := L) (w := st.2.1) (i := i) (cs := st.1) (k := 0) (own := own) (p := p)) with h | h
 ·
  have h5 := all_run hall h.2
  exact ⟨⟨h5.1, by dsimp only; omega, by dsimp only; omega, fun h6 => by have := hs.f h6; omega⟩, fun h => (h5.2 h).1⟩
 ·
  rw [h0] at h; exact absurd h.1 (by decide)
theorem ftR_no {P : SP} {L : List Bool} {i f : Nat} {st : SS} {c : Cell} {p : Nat} {e : Int} (h : ¬ (P.m < c.1 ∧ e = 0)) : ftR P L i (f + 1) st c p e = ((st.1.set i (putS c), st.2), p, e) := by rw [ftR.eq_2, if_neg h]
theorem ftR_up {P : SP} {L : List Bool} {i f : Nat} {st : SS} {c : Cell} {p : Nat} (h : P.m < c.1) (h2 : c.2 < P.d) : ftR P L i (f + 1) st c p 0 = ftR P L i f st ((rnR L c.1 st.2.1 p 0).1, c.2 + 1) (rnR L c.1 st.2.1 p 0).2.1 (rnR L c.1 st.2.1 p 0).2.2 := by rw [ftR.eq_2, if_pos ⟨h, rfl⟩, if_pos h2]; rfl
theorem ftR_re {P : SP} {L : List Bool} {i f : Nat} {st : SS} {c : Cell} {p : Nat} (h : P.m < c.1) (h2 : ¬ c.2 < P.d) (h3 : st.2.1 < P.s) : ftR P L i (f + 1) st c p 0 = ftR P L i f ((rsR P L st.2.1 i st.1 0 c p 0).1.1, st.2.1 + 1, st.2.2) (rsR P L st.2.1 i st.1 0 c p 0).1.2 (rsR P L st.2.1 i st.1 0 c p 0).2.1 (rsR P L st.2.1 i st.1 0 c p 0).2.2 := by rw [ftR.eq_2, if_pos ⟨h, rfl⟩, if_neg h2, if_pos h3]
theorem ftR_fu {P : SP} {L : List Bool} {i f : Nat} {st : SS} {c : Cell} {p : Nat} (h : P.m < c.1) (h2 : ¬ c.2 < P.d) (h3 : ¬ st.2.1 < P.s) : ftR P L i (f + 1) st c p 0 = ftR P L i f (st.1, st.2.1, true) (P.m, c.2) p 0 := by rw [ftR.eq_2, if_pos ⟨h, rfl⟩, if_neg h2, if_neg h3]
theorem rsR_p {P : SP} {L : List Bool} {w : Nat} {i : Int} : ∀ {cs : List Cell} {k : Nat} {own : Cell} {p : Nat} {e : Int}, p ≤ L.length → (rsR P L w i cs k own p e).2.1 ≤ L.length := by
 intro cs
 induction cs with
 | nil => intro k own p e h; exact h
 | cons c cs ih =>
  intro k own p e h
  unfold rsR
  refine ih ?_
  unfold stR
  have hr : ∀ v s p e, p ≤ L.length → (scR P L v s p e).2.1 ≤ L.length := fun v s p e h => (rnR_q (L := L) (n := v) (k := s * modeOf P v s P.d 0) (p := p) (e := e) h).1
  split
  ·
   exact hr _ _ _ _ h
  ·
   unfold reR
   split
   ·
    exact (rnR_q (L := L) (p := (scR P L (wth c w) (w + 1) p e).2.1) (hr _ _ _ _ h)).1
   ·
    exact hr _ _ _ _ h
set_option maxHeartbeats 8000000 in
theorem rfit_fn {M D S p0 i F : Nat} {st0 : SS} {L : List Bool} {c0 : Cell} {e0 : Int} (hw : WB M D S) (hL : L.length ≤ 1048576) (hp0 : p0 ≤ L.length) (hX : st0.1.length ≤ 256) (hi : i < st0.1.length) (hg : GOk (SPof M D S) st0 e0)
  (hc0 : LOk (SPof M D S) c0) (hF : e0 = 0 → need (SPof M D S) st0.2.1 c0.2 ≤ F) :
  Fn1 Tryz.prog 101 [rsV M D S st0 L p0 e0, .lit (.int .i64 (i : Int)), cA c0] []
  (rsV M D S (ftR (SPof M D S) L i (F + 1) st0 c0 p0 e0).1 L (ftR (SPof M D S) L i (F + 1) st0 c0 p0 e0).2.1 (ftR (SPof M D S) L i (F + 1) st0 c0 p0 e0).2.2) [] := by
 have hpw := hw.pw
 have hPm : (SPof M D S).m = 2 ^ M - 1 := rfl
 have hPd : (SPof M D S).d = 2 ^ D - 1 := rfl
 have hPs : (SPof M D S).s = S := rfl
 have hM1 : 1 ≤ 2 ^ M := Nat.pow_pos (by decide)
 have hD1 : 1 ≤ 2 ^ D := Nat.pow_pos (by decide)
 have hm255 := hpw.m255
 have hd3 := hpw.d3
 have hS4 := hw.s4
 have t1 := two_fn (k := M) (by have := hw.m8; omega)
 have t2 := two_fn (k := D) (by have := hw.d2; omega)
 have hre := fun (cs : List Cell) (w : Nat) (f : Bool) (c : Cell) (p : Nat) => rresc_fn (M := M) (D := D) (S := S) (cs := cs) (w := w) (f := f) (L := L) (i := (i : Int)) (own0 := c) (p0 := p) (e0 := 0) hw hL
 have hMP : ((2 ^ M : Nat) : Int) - 1 = ((2 ^ M - 1 : Nat) : Int) := by omega
 generalize hP : SPof M D S = P at *
 rw [← hPm] at hMP
 generalize hMM : 2 ^ M = MM at *
 generalize hDD : 2 ^ D = DD at *
 obtain ⟨n, hn⟩ : ∃ n, st0.1.length = n := ⟨_, rfl⟩
 refine fn1N_of pl101 (by kernel_rfl) Tryz.call101 Tryz.func101 rfl (by kernel_rfl) rfl [.cell 6 66] (by kernel_rfl) fun Q hQ => ?_
 refine runW ?_
 refine callV0 (t1) rfl rfl ?_
 simp (maxSteps := 1000000) (disch := (first | omega | (simp only [lnA, List.length_map, List.length_range, true_and, and_true]; (try omega); done) | fail)) only [go_sem, hMP, Int.reduceEq, Int.reduceToNat, Nat.reduceAdd, Nat.reduceMul, Nat.reduceEqDiff, ↓reduceIte]
 refine loopW (X := Nat × SS × Cell × Nat × Int) (st := fun y => ([(1, .lit (.int .i64 (i : Int))), (3, .ref 0 0 0 0), (5, .ref 1 0 0 0), (6, .ref 2 0 0 0), (7, .lit (.int .i64 (P.m : Int)))],
   [some (.cells (rsC M D S y.2.1 L y.2.2.2.1 y.2.2.2.2)), some (.cells (clC y.2.2.1)), some (.cells z9C)]))
  (inv := fun y => y.2.1.1.length = n ∧ y.2.2.2.1 ≤ L.length ∧ LOk P y.2.2.1 ∧ GOk P y.2.1 y.2.2.2.2 ∧ (y.2.2.2.2 = 0 → P.m < y.2.2.1.1 → need P y.2.1.2.1 y.2.2.1.2 ≤ y.1) ∧ ftR P L i (F + 1) st0 c0 p0 e0 = ftR P L i (y.1 + 1) y.2.1 y.2.2.1 y.2.2.2.1 y.2.2.2.2)
  (m := fun y => y.1) (F, st0, c0, p0, e0) [some 0, some 1, some 2] ⟨hn, hp0, hc0, hg, fun h _ => hF h, rfl⟩ ?_
 rintro ⟨f, ⟨cs, s, fu⟩, c, p, e⟩ ⟨hlen, hp, hc, hgo, hnd, hrun⟩
 have hgs1 := hgo.s1
 have hgs2 := hgo.s2
 dsimp only at hlen hp hc hnd hrun hgs1 hgs2 ⊢
 obtain ⟨hc1, hc2⟩ := hc
 by_cases hgo1 : P.m < c.1
 ·
  by_cases he : e = 0
  ·
   subst he
   have hso := hgo.k rfl
   have hnd := hnd rfl hgo1
   have hsc := hso.c
   dsimp only at hsc
   obtain ⟨g, rfl⟩ : ∃ g, f = g + 1 := ⟨f - 1, by unfold need at hnd; omega⟩
   by_cases h2 : c.2 < P.d
   ·
    rw [ftR_up hgo1 h2] at hrun
    have rr := rround_fn (M := M) (D := D) (S := S) (st := (cs, s, fu)) (L := L) (p := p) (n := c.1) (k := s) (e := 0) hL hp (by omega) (by omega)
    have hrq := rnR_q (L := L) (n := c.1) (k := s) (p := p) (e := 0) hp
    have hrl := (rnR_le (L := L) (n := c.1) (k := s) (p := p) (e := 0)).1
    have hdv := div_pow_le (a := c.1) hgs1
    dsimp only at hrun
    generalize rnR L c.1 s p 0 = x at *
    obtain ⟨x1, x2, x3⟩ := x
    dsimp only at rr hrq hrl hrun
    refine runW ?_
    refine callV0 (t2) rfl rfl ?_
    refine runW ?_
    refine callV0 (rr) rfl rfl ?_
    refine runW ?_
    refine nextW (g, (cs, s, fu), (x1, c.2 + 1), x2, x3) [some 0, some 1, some 2] ⟨hlen, hrq.1, ⟨by dsimp only; omega, by dsimp only; omega⟩, ⟨hgo.l, hgs1, hgs2, fun _ => hso⟩, fun _ _ => by unfold need at hnd ⊢; dsimp only; omega, hrun⟩ (by dsimp only; omega)
   ·
    by_cases h3 : s < P.s
    ·
     rw [ftR_re hgo1 h2 h3] at hrun
     have rr := hre cs s fu c p hp hgs1 (by omega) (by omega) hgo.l (fun _ => hsc) ⟨hc1, hc2⟩ (fun _ _ => hgo1)
     have hgood := rs_good hpw (L := L) (p := p) (i := (i : Int)) (own := c) hso h3 (fun _ => ⟨hc2, hgo1⟩)
     have hok := rsR_ok hpw (L := L) (w := s) (i := (i : Int)) (cs := cs) (k := 0) (own := c) (p := p) (e := 0) hgs1 hgo.l (fun _ => hsc) ⟨hc1, hc2⟩ (fun _ _ => hgo1)
     have hpp := rsR_p (P := P) (w := s) (i := (i : Int)) (cs := cs) (k := 0) (own := c) (p := p) (e := 0) hp
     dsimp only at hrun hgood
     generalize rsR P L s (i : Int) cs 0 c p 0 = x at *
     obtain ⟨⟨x1, x2⟩, x3, x4⟩ := x
     dsimp only at rr hrun hgood hok hpp
     refine runW ?_
     refine callV0 (t2) rfl rfl ?_
     refine runW ?_
     refine callV0 (rr) rfl rfl ?_
     refine runW ?_
     refine nextW (g, (x1, s + 1, fu), x2, x3, x4) [some 0, some 1, some 2] ⟨by dsimp only; omega, hpp, hok.2.2, ⟨hok.1, by dsimp only; omega, by dsimp only; omega, fun h => (hgood h).1⟩, fun h _ => ?_, hrun⟩ (by dsimp only; omega)
     have := (hgood h).2 (by omega)
     unfold need at hnd ⊢
     dsimp only
     have : (P.s - s) * (P.d + 2) = (P.s - (s + 1)) * (P.d + 2) + (P.d + 2) := by
      rw [show P.s - s = P.s - (s + 1) + 1 by omega, Nat.add_mul, Nat.one_mul]
     omega
    ·
     rw [ftR_fu hgo1 h2 h3] at hrun
     refine runW ?_
     refine callV0 (t2) rfl rfl ?_
     refine runW ?_
     refine nextW (g, (cs, s, true), (P.m, c.2), p, 0) [some 0, some 1, some 2] ⟨hlen, hp, ⟨by dsimp only; omega, hc2⟩, ⟨hgo.l, hgs1, hgs2, fun _ => ⟨hsc, hgs1, hgs2, fun _ => by dsimp only; omega⟩⟩, fun _ h => absurd h (Nat.lt_irrefl _), hrun⟩ (by dsimp only; omega)
  ·
   rw [ftR_no (fun h => he h.2)] at hrun
   rw [hrun] at hQ
   have pt := rput_fn (M := M) (D := D) (S := S) (i := i) (st := (cs, s, fu)) (L := L) (p := p) (e := e) (c := c) (by dsimp only; omega) (by dsimp only; omega)
   simp (maxSteps := 1000000) (disch := (first | omega | (simp only [lnA, List.length_map, List.length_range, true_and, and_true]; (try omega); done) | fail)) only [go_sem, decide_eq_false he, Int.reduceEq, Int.reduceToNat, Nat.reduceAdd, Nat.reduceMul, Nat.reduceEqDiff, ↓reduceIte]
   refine callV0 (pt) rfl rfl ?_
   refine runW ?_
   exact endW [] hQ
 ·
  rw [ftR_no (fun h => hgo1 h.1)] at hrun
  rw [hrun] at hQ
  have pt := rput_fn (M := M) (D := D) (S := S) (i := i) (st := (cs, s, fu)) (L := L) (p := p) (e := e) (c := c) (by dsimp only; omega) (by dsimp only; omega)
  refine runW ?_
  refine callV0 (pt) rfl rfl ?_
  refine runW ?_
  exact endW [] hQ
end Go.Proofs.YtpkfddfkacijoaaGreatDoor
