import Derived.Test.YtpkfddfkacijoaaSm
namespace Go.Proofs.Ytpkfddfkacijoaa
open Go.Eng Go.Vx
set_option linter.unusedSimpArgs false
set_option linter.unusedVariables false
set_option maxRecDepth 100000
theorem lv_run {P : SP} {L : List Bool} {k p : Nat} {st : SS} : (lvD P (k + 1) st).run L p = match (rsD P st.2.1 (-1) st.1 0 (0, 0)).run L p with | some (r, q) => (lvD P k (r.1, st.2.1 + 1, st.2.2)).run L q | none => none := by
  rw [lvD.eq_2, run_bind]
  cases (rsD P st.2.1 (-1) st.1 0 (0, 0)).run L p with
  | none => rfl
  | some x => rfl
set_option maxHeartbeats 4000000 in
theorem slevel_fn {M D S p t : Nat} {st : SS} {d : Bool} {L : List Bool} (hw : WB M D S) (hL : L.length ≤ 1048576) (hp : p ≤ L.length) (hd : d = true → p = L.length) (hn : st.1.length ≤ 256)
    (hs : SOk (SPof M D S) st) (ht : t ≤ S) :
    FnR Try.prog 57 [.ref 0 0 0 0, .ref 1 0 0 0, .lit (.int .i64 (t : Int))] (W3 M D S st.1.length st.1 st.2.1 st.2.2 L p d)
    (outR L d ((lvD (SPof M D S) (t - st.2.1) st).run L p)) (fun x => .lit (.int .i64 x.2.1)) (fun x => W3 M D S st.1.length x.1.1 x.1.2.1 x.1.2.2 L x.2.2.1 x.2.2.2) := by
  have hpw := hw.pw
  have hre := fun (cs : List Cell) (s p' : Nat) (f : Bool) (h1 : p' ≤ L.length) (h2 : d = true → p' = L.length) (h3 : s ≤ 4) (h4 : cs.length ≤ 256) (h5 : ∀ c ∈ cs, COk (SPof M D S) c) => srescale_fn (M := M) (D := D) (S := S) (s := s) (p := p') (cs := cs) (f := f) (d := d) (L := L) (i := (-1 : Int)) (own := (0, 0)) hw hL h1 h2 h3 h4 h5 ⟨Nat.zero_le _, Nat.zero_le _⟩
  have hw4 := hw.s4
  have hPs : (SPof M D S).s = S := rfl
  generalize hP : SPof M D S = P at *
  generalize hn0 : st.1.length = n at *
  refine fnRN_of pl57 (by kernel_rfl) Try.call57 Try.func57 rfl (by kernel_rfl) rfl [.tmp 6] (by kernel_rfl) fun Q hQ => ?_
  refine runW ?_
  refine loopW (X := SS × Nat) (st := fun y => ([(0, .ref 0 0 0 0), (1, .ref 1 0 0 0), (2, .lit (.int .i64 (t : Int)))], W3 M D S n y.1.1 y.1.2.1 y.1.2.2 L y.2 d))
    (inv := fun y => y.1.1.length = n ∧ y.2 ≤ L.length ∧ (d = true → y.2 = L.length) ∧ SOk P y.1 ∧ (lvD P (t - st.2.1) st).run L p = (lvD P (t - y.1.2.1) y.1).run L y.2)
    (m := fun y => t - y.1.2.1) (st, p) [some 0, some 1, some 2] ⟨hn0, hp, hd, hs, rfl⟩ ?_
  rintro ⟨⟨cs, s, fu⟩, q⟩ ⟨hlen, hq, hdq, hs', hrun⟩
  have hss1 := hs'.s1
  have hss2 := hs'.s2
  have hsc := hs'.c
  dsimp only at hlen hq hdq hss1 hss2 hsc hrun ⊢
  by_cases h1 : s < t
  · obtain ⟨k, hk⟩ : ∃ k, t - s = k + 1 := ⟨t - s - 1, by omega⟩
    have hk2 : t - (s + 1) = k := by omega
    rw [hk, lv_run] at hrun
    have hr := hre cs s q fu hq hdq (by omega) (by omega) hsc
    rw [hlen] at hr
    have hall := rsD_all hpw.toPB hss1 (-1 : Int) cs 0 (0, 0) hsc (fun h => absurd h (by decide))
    have hlen2 := (mean_rs P s (-1 : Int) cs 0 (0, 0)).2.2.2
    dsimp only at hrun
    refine runW ?_
    refine callR [some 0, some 1, some 2] [] (hr) ?_
    rintro ⟨⟨Y, o'⟩, e, q', d'⟩ hx
    unfold outR at hx
    cases h4 : (rsD P s (-1 : Int) cs 0 (0, 0)).run L q with
    | none =>
      rw [h4] at hx hrun
      dsimp only at hx hrun
      rw [hrun] at hQ
      simp only [Prod.mk.injEq] at hx
      obtain ⟨rfl, rfl, rfl⟩ := hx
      refine runW ?_
      exact endW [some 0, some 1, some 2] (hQ ((Y, s + 1, fu), 8, L.length, true) rfl)
    | some r =>
      obtain ⟨⟨Y1, o1⟩, q1⟩ := r
      rw [h4] at hx hrun
      dsimp only at hx hrun
      simp only [Prod.mk.injEq] at hx
      obtain ⟨⟨rfl, rfl⟩, rfl, rfl, rfl⟩ := hx
      have hnx := dead_next hq hdq h4
      have a1 := (all_run hall h4).1
      have a3 := all_run hlen2 h4
      dsimp only at a1 a3
      refine runW ?_
      refine nextW ((Y, s + 1, fu), q') [some 0, some 1, some 2] ⟨by dsimp only; omega, hnx.1, hnx.2, ⟨a1, by dsimp only; omega, by dsimp only; omega, fun h => by have := hs'.f h; dsimp only at this; omega⟩, by dsimp only; rw [hk2]; exact hrun⟩ (by dsimp only; omega)
  · have hz : t - s = 0 := by omega
    rw [hz] at hrun
    have hrun2 : (lvD P (t - st.2.1) st).run L p = some ((cs, s, fu), q) := hrun
    rw [hrun2] at hQ
    refine runW ?_
    exact endW [some 0, some 1, some 2] (hQ ((cs, s, fu), 0, q, d) rfl)
def W5 (M D S n : Nat) (x y : SS) (L : List Bool) (p : Nat) (d : Bool) : St := [some (saO M D S 3 n x.2.1 x.2.2), some (tpC L p d), some (saO M D S 4 n y.2.1 y.2.2), some (.row 2 (x.1.map cV)), some (.row 2 (y.1.map cV))]
attribute [go_sem] W5
set_option maxHeartbeats 4000000 in
theorem stog_fn {M D S p i n : Nat} {x y : SS} {d : Bool} {L : List Bool} (hw : WB M D S) (hL : L.length ≤ 1048576) (hp : p ≤ L.length) (hd : d = true → p = L.length) (hn : n ≤ 256) (hi : i < n) (hx : x.1.length = n) (hy : y.1.length = n)
    (hsx : SOk (SPof M D S) x) (hsy : SOk (SPof M D S) y) :
    FnR Try.prog 58 [.ref 0 0 0 0, .ref 1 0 0 0, .ref 2 0 0 0, .lit (.int .i64 (i : Int))] (W5 M D S n x y L p d)
    (outR L d ((togD x y i).run L p)) (fun z => .tup [cA z.1, .lit (.int .i64 z.2.1)]) (fun z => W5 M D S n x y L z.2.2.1 z.2.2.2) := by
  have hpw := hw.pw
  have hd3 := hpw.d3
  have hm255 := hpw.m255
  have hw4 := hw.s4
  have hPs : (SPof M D S).s = S := rfl
  have hs2 := hsx.s2
  obtain ⟨cx, s, fx⟩ := x
  obtain ⟨cy, sy, fy⟩ := y
  have hgx0 : cx.getD i default = cx.getD i (0, 0) := by rw [List.getD_eq_getElem?_getD, List.getD_eq_getElem?_getD, List.getElem?_eq_getElem (by dsimp only at hx; omega)]; rfl
  have hgy0 : cy.getD i default = cy.getD i (0, 0) := by rw [List.getD_eq_getElem?_getD, List.getD_eq_getElem?_getD, List.getElem?_eq_getElem (by dsimp only at hy; omega)]; rfl
  have hcx := getD_ok hsx.c i
  have hcy := getD_ok hsy.c i
  have htg : (togD (cx, s, fx) (cy, sy, fy) i).run L p = match (rndD (wth (cx.getD i (0, 0)) s) (s * max (cx.getD i (0, 0)).2 (cy.getD i (0, 0)).2)).run L p with
      | some (a, q) => (match (rndD (wth (cy.getD i (0, 0)) s) (s * max (cx.getD i (0, 0)).2 (cy.getD i (0, 0)).2)).run L q with | some (b, q2) => some ((a + b, max (cx.getD i (0, 0)).2 (cy.getD i (0, 0)).2), q2) | none => none)
      | none => none := by
    unfold togD
    rw [run_bind]
    dsimp only
    cases (rndD (wth (cx.getD i (0, 0)) s) (s * max (cx.getD i (0, 0)).2 (cy.getD i (0, 0)).2)).run L p with
    | none => rfl
    | some r =>
      dsimp only
      rw [run_bind]
      cases (rndD (wth (cy.getD i (0, 0)) s) (s * max (cx.getD i (0, 0)).2 (cy.getD i (0, 0)).2)).run L r.2 with
      | none => rfl
      | some r => rfl
  dsimp only at hx hy hcx hcy hs2
  rw [htg]
  clear htg
  generalize hc1 : cx.getD i (0, 0) = c1 at hcx ⊢
  generalize hc2 : cy.getD i (0, 0) = c2 at hcy ⊢
  have hgx := hgx0.trans hc1
  have hgy := hgy0.trans hc2
  clear hgx0 hgy0
  obtain ⟨x1, x2, -⟩ := hcx
  obtain ⟨y1, y2, -⟩ := hcy
  have hmx : max (c1.2 : Int) (c2.2 : Int) = ((max c1.2 c2.2 : Nat) : Int) := by omega
  generalize hmm : max c1.2 c2.2 = mm at *
  have hwx := sworth_fn (c := c1) (s := s) (by omega) (by have := sm_le (s := s) (m := c1.2) (by omega) (by omega); omega)
  have hwy := sworth_fn (c := c2) (s := s) (by omega) (by have := sm_le (s := s) (m := c2.2) (by omega) (by omega); omega)
  have hvx := wth_le (c := c1) (s := s) (A := 255) (by omega) (by omega) (by omega)
  have hvy := wth_le (c := c2) (s := s) (A := 255) (by omega) (by omega) (by omega)
  have hsm := sm_le (s := s) (m := mm) (by omega) (by omega)
  have e : (s : Int) * (mm : Int) = ((s * mm : Nat) : Int) := by simp
  have r1 := sround_fn (L := L) (n := wth c1 s) (k := s * mm) (p := p) (d := d) hL hp hd (by omega) (by omega)
  have r2 := fun (q : Nat) (h1 : q ≤ L.length) (h2 : d = true → q = L.length) => sround_fn (L := L) (n := wth c2 s) (k := s * mm) (p := q) (d := d) hL h1 h2 (by omega) (by omega)
  cases h1 : (rndD (wth c1 s) (s * mm)).run L p with
  | none =>
    rw [outN_none h1] at r1
    generalize wth c1 s = v1 at *
    generalize wth c2 s = v2 at *
    generalize s * mm = k at *
    refine fnRN_of pl58 (by kernel_rfl) Try.call58 Try.func58 rfl (by kernel_rfl) rfl [.cell 8 103, .tmp 9] (by kernel_rfl) fun Q hQ => ?_
    simp (maxSteps := 1000000) (disch := (first | omega | (simp only [lnA, List.length_map, List.length_range, true_and, and_true]; (try omega); done) | fail)) only [go_sem, hgx, hgy, hmx, Int.reduceEq, Int.reduceToNat, Nat.reduceAdd, Nat.reduceMul, Nat.reduceEqDiff, ↓reduceIte]
    refine callV0 (hwx) rfl rfl ?_
    simp (maxSteps := 1000000) (disch := (first | omega | (simp only [lnA, List.length_map, List.length_range, true_and, and_true]; (try omega); done) | fail)) only [go_sem, e, Int.reduceEq, Int.reduceToNat, Nat.reduceAdd, Nat.reduceMul, Nat.reduceEqDiff, ↓reduceIte]
    refine callW [some 1] [] (r1) ?_
    refine runW ?_
    exact endW [some 0, some 1, some 2, some 3, some 4] (hQ ((0, 0), 8, L.length, true) rfl)
  | some r =>
    obtain ⟨a, q⟩ := r
    have hnx := dead_next hp hd h1
    have hnl := rnd_le h1
    rw [outN_some h1] at r1
    have r2 := r2 q hnx.1 hnx.2
    dsimp only
    cases h2 : (rndD (wth c2 s) (s * mm)).run L q with
    | none =>
      rw [outN_none h2] at r2
      generalize wth c1 s = v1 at *
      generalize wth c2 s = v2 at *
      generalize s * mm = k at *
      refine fnRN_of pl58 (by kernel_rfl) Try.call58 Try.func58 rfl (by kernel_rfl) rfl [.cell 8 103, .tmp 9] (by kernel_rfl) fun Q hQ => ?_
      simp (maxSteps := 1000000) (disch := (first | omega | (simp only [lnA, List.length_map, List.length_range, true_and, and_true]; (try omega); done) | fail)) only [go_sem, hgx, hgy, hmx, Int.reduceEq, Int.reduceToNat, Nat.reduceAdd, Nat.reduceMul, Nat.reduceEqDiff, ↓reduceIte]
      refine callV0 (hwx) rfl rfl ?_
      simp (maxSteps := 1000000) (disch := (first | omega | (simp only [lnA, List.length_map, List.length_range, true_and, and_true]; (try omega); done) | fail)) only [go_sem, e, Int.reduceEq, Int.reduceToNat, Nat.reduceAdd, Nat.reduceMul, Nat.reduceEqDiff, ↓reduceIte]
      refine callW [some 1] [] (r1) ?_
      refine runW ?_
      refine callV0 (hwy) rfl rfl ?_
      simp (maxSteps := 1000000) (disch := (first | omega | (simp only [lnA, List.length_map, List.length_range, true_and, and_true]; (try omega); done) | fail)) only [go_sem, e, Int.reduceEq, Int.reduceToNat, Nat.reduceAdd, Nat.reduceMul, Nat.reduceEqDiff, ↓reduceIte]
      refine callW [some 1] [] (r2) ?_
      refine runW ?_
      exact endW [some 0, some 1, some 2, some 3, some 4] (hQ ((a, mm), 8, L.length, true) rfl)
    | some r =>
      obtain ⟨b, q2⟩ := r
      have hnl2 := rnd_le h2
      rw [outN_some h2] at r2
      generalize wth c1 s = v1 at *
      generalize wth c2 s = v2 at *
      generalize s * mm = k at *
      refine fnRN_of pl58 (by kernel_rfl) Try.call58 Try.func58 rfl (by kernel_rfl) rfl [.cell 8 103, .tmp 9] (by kernel_rfl) fun Q hQ => ?_
      simp (maxSteps := 1000000) (disch := (first | omega | (simp only [lnA, List.length_map, List.length_range, true_and, and_true]; (try omega); done) | fail)) only [go_sem, hgx, hgy, hmx, Int.reduceEq, Int.reduceToNat, Nat.reduceAdd, Nat.reduceMul, Nat.reduceEqDiff, ↓reduceIte]
      refine callV0 (hwx) rfl rfl ?_
      simp (maxSteps := 1000000) (disch := (first | omega | (simp only [lnA, List.length_map, List.length_range, true_and, and_true]; (try omega); done) | fail)) only [go_sem, e, Int.reduceEq, Int.reduceToNat, Nat.reduceAdd, Nat.reduceMul, Nat.reduceEqDiff, ↓reduceIte]
      refine callW [some 1] [] (r1) ?_
      refine runW ?_
      refine callV0 (hwy) rfl rfl ?_
      simp (maxSteps := 1000000) (disch := (first | omega | (simp only [lnA, List.length_map, List.length_range, true_and, and_true]; (try omega); done) | fail)) only [go_sem, e, Int.reduceEq, Int.reduceToNat, Nat.reduceAdd, Nat.reduceMul, Nat.reduceEqDiff, ↓reduceIte]
      refine callW [some 1] [] (r2) ?_
      refine runW ?_
      exact endW [some 0, some 1, some 2, some 3, some 4] (hQ ((a + b, mm), 0, q2, d) rfl)
end Go.Proofs.Ytpkfddfkacijoaa
