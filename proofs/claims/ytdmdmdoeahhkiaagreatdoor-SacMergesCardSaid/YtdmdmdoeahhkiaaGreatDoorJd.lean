import Derived.Test.YtdmdmdoeahhkiaaGreatDoorSo
namespace Go.Proofs.YtdmdmdoeahhkiaaGreatDoor
open Go.Eng Go.Vx
set_option linter.unusedSimpArgs false
set_option linter.unusedVariables false
set_option maxRecDepth 100000
theorem lvR_p {P : SP} {L : List Bool} : ∀ {k : Nat} {st : SS} {p : Nat} {e : Int}, p ≤ L.length → (lvR P L k st p e).2.1 ≤ L.length := by
  intro k
  induction k with
  | zero => intro st p e h; exact h
  | succ k ih =>
    intro st p e h
    rw [lvR.eq_2]
    split
    · exact ih (rsR_p h)
    · exact h
theorem mg_step {P : SP} {L : List Bool} {k i : Nat} {x y y1 x1 : SS} {p p1 p2 p3 : Nat} {e e1 e2 e3 : Int} {c : Cell} (h1 : lvR P L (x.2.1 - y.2.1) y p e = (y1, p1, e1)) (h2 : tgR L x y1 i p1 e1 = (c, p2, e2)) (h3 : ftR P L i (fuelF P x.2.1 c.2 + 1) x c p2 e2 = (x1, p3, e3)) :
    mgR P L (k + 1) i x y p e = mgR P L k (i + 1) x1 y1 p3 e3 := by
  rw [mgR.eq_2]
  unfold mgR.mgS
  dsimp only
  rw [h1]
  dsimp only
  rw [h2]
  dsimp only
  rw [h3]
theorem ft_good {P : SP} (hP : PW P) {L : List Bool} {i f : Nat} {st : SS} {c : Cell} {p : Nat} {e : Int} (hg : GOk P st e) (hc : LOk P c) (hf : e = 0 → need P st.2.1 c.2 ≤ f) :
    GOk P (ftR P L i (f + 1) st c p e).1 (ftR P L i (f + 1) st c p e).2.2 ∧ (ftR P L i (f + 1) st c p e).1.1.length = st.1.length := by
  obtain ⟨a1, a2, a3, a4⟩ := ftR_g hP (L := L) (i := i) (p := p) hg hc hf
  refine ⟨⟨a1, Nat.le_trans hg.s1 a3, a4, fun h0 => ?_⟩, a2⟩
  have he : e = 0 := Classical.byContradiction fun he => by
    rw [ftR_err he] at h0
    exact he h0
  subst he
  rcases Lk_ok (Lk_ft hP (L := L) (i := i) (p := p) (hg.k rfl) hc.2 (hf rfl)) with h | h
  · exact (all_run (fitD_all hP.toPB i f st c (hg.k rfl) hc.2 (hf rfl)) h.2).1
  · rw [h.1] at h0; exact absurd h0 (by decide)
theorem ftR_p {P : SP} {L : List Bool} {i : Nat} : ∀ {f : Nat} {st : SS} {c : Cell} {p : Nat} {e : Int}, p ≤ L.length → (ftR P L i f st c p e).2.1 ≤ L.length := by
  intro f
  induction f with
  | zero => intro st c p e h; exact h
  | succ f ih =>
    intro st c p e h
    rw [ftR.eq_2]
    split
    · split
      · exact ih (rnR_q h).1
      · split
        · exact ih (rsR_p h)
        · exact ih h
    · exact h
set_option maxHeartbeats 16000000 in
theorem rmerge_fn {M D S n p0 pb : Nat} {x0 y0 : SS} {L Lb : List Bool} {eb : Int} (hw : WB M D S) (hL : L.length ≤ 1048576) (hp0 : p0 ≤ L.length) (hn : n ≤ 256) (hx : x0.1.length = n) (hy : y0.1.length = n)
    (hsx : SOk (SPof M D S) x0) (hsy : SOk (SPof M D S) y0) :
    Fn1 Tryz.prog 43 [rsV M D S x0 L p0 0, rsV M D S y0 Lb pb eb] []
    (rsV M D S (meR (SPof M D S) L x0 y0 p0).1 L (meR (SPof M D S) L x0 y0 p0).2.1 (meR (SPof M D S) L x0 y0 p0).2.2) [] := by
  have hpw := hw.pw
  have hPs : (SPof M D S).s = S := rfl
  have hm255 := hpw.m255
  have hd3 := hpw.d3
  have hS4 := hw.s4
  have hys2 := hsy.s2
  have hxs2 := hsx.s2
  have l1 := rlevel_fn (M := M) (D := D) (S := S) (p0 := p0) (t := y0.2.1) (st0 := x0) (L := L) (e0 := 0) hw hL hp0 (by omega) (hsx.g hpw) (by omega)
  have hlv := fun (st : SS) (t q : Nat) (e : Int) (h1 : q ≤ L.length) (h2 : st.1.length ≤ 256) (h3 : GOk (SPof M D S) st e) (h4 : t ≤ S) => rlevel_fn (M := M) (D := D) (S := S) (p0 := q) (t := t) (st0 := st) (L := L) (e0 := e) hw hL h1 h2 h3 h4
  have hrr := fun (st : SS) (q m k : Nat) (e : Int) (h1 : q ≤ L.length) (h2 : m ≤ 1099511627776) (h3 : k ≤ 32) => rround_fn (M := M) (D := D) (S := S) (st := st) (L := L) (p := q) (n := m) (k := k) (e := e) hL h1 h2 h3
  have hft := fun (st : SS) (c : Cell) (i q F : Nat) (e : Int) (h1 : q ≤ L.length) (h2 : st.1.length ≤ 256) (h3 : i < st.1.length) (h4 : GOk (SPof M D S) st e) (h5 : LOk (SPof M D S) c) (h6 : e = 0 → need (SPof M D S) st.2.1 c.2 ≤ F) => rfit_fn (M := M) (D := D) (S := S) (p0 := q) (i := i) (F := F) (st0 := st) (L := L) (c0 := c) (e0 := e) hw hL h1 h2 h3 h4 h5 h6
  generalize hP : SPof M D S = P at *
  have hl1g := lvR_g hpw (L := L) (k := y0.2.1 - x0.2.1) (st := x0) (p := p0) (e := 0) (hsx.g hpw) (by omega)
  have hl1p := lvR_p (P := P) (k := y0.2.1 - x0.2.1) (st := x0) (p := p0) (e := 0) hp0
  unfold meR
  rw [hx]
  generalize lvR P L (y0.2.1 - x0.2.1) x0 p0 0 = z at *
  obtain ⟨x1, p1, e1⟩ := z
  dsimp only at l1 hl1g hl1p ⊢
  obtain ⟨hg1, hlen1, -⟩ := hl1g
  rw [hx] at hlen1
  refine fn1N_of pl43 (by kernel_rfl) Tryz.call43 Tryz.func43 rfl (by kernel_rfl) rfl [.cell 4 79] (by kernel_rfl) fun Q hQ => ?_
  refine runW ?_
  refine callV0 (l1) rfl rfl ?_
  refine runW ?_
  refine loopW (X := Nat × SS × SS × Nat × Int × List Bool × Nat × Int) (st := fun u => ([(2, .ref 0 0 0 0), (3, .ref 1 0 0 0), (4, .ref 2 0 0 0), (5, .lit (.int .i64 (u.1 : Int)))],
      [some (.cells (rsC M D S u.2.1 L u.2.2.2.1 u.2.2.2.2.1)), some (.cells (rsC M D S u.2.2.1 u.2.2.2.2.2.1 u.2.2.2.2.2.2.1 u.2.2.2.2.2.2.2)), some (.cells z9C)]))
    (inv := fun u => u.1 ≤ n ∧ u.2.1.1.length = n ∧ u.2.2.1.1.length = n ∧ u.2.2.2.1 ≤ L.length ∧ GOk P u.2.1 u.2.2.2.2.1 ∧ GOk P u.2.2.1 u.2.2.2.2.1 ∧ mgR P L n 0 x1 y0 p1 e1 = mgR P L (n - u.1) u.1 u.2.1 u.2.2.1 u.2.2.2.1 u.2.2.2.2.1)
    (m := fun u => n - u.1) (0, x1, y0, p1, e1, Lb, pb, eb) [some 0, some 1, some 2] ⟨Nat.zero_le _, hlen1, hy, hl1p, hg1, hsy.g hpw, rfl⟩ ?_
  rintro ⟨i, ⟨cx, s, fx⟩, ⟨cy, sy, fy⟩, p, e, L2, p2, e2⟩ ⟨hi, hlx, hly, hp, hgx, hgy, hrun⟩
  have hgs1 := hgx.s1
  have hgs2 := hgx.s2
  have hgy1 := hgy.s1
  have hgy2 := hgy.s2
  dsimp only at hi hlx hly hp hrun hgs1 hgs2 hgy1 hgy2 ⊢
  by_cases hil : i < n
  · obtain ⟨k, hk⟩ : ∃ k, n - i = k + 1 := ⟨n - i - 1, by omega⟩
    have hk2 : n - (i + 1) = k := by omega
    rw [hk] at hrun
    have lv := hlv (cy, sy, fy) s p e hp (by dsimp only; omega) hgy (by omega)
    have hlg := lvR_g hpw (L := L) (k := s - sy) (st := (cy, sy, fy)) (p := p) (e := e) hgy (by dsimp only; omega)
    have hlp := lvR_p (P := P) (k := s - sy) (st := (cy, sy, fy)) (p := p) (e := e) hp
    have hms := fun (c : Cell) (x1 : SS) (p2 p3 : Nat) (e2 e3 : Int) => mg_step (P := P) (L := L) (k := k) (i := i) (x := (cx, s, fx)) (y := (cy, sy, fy)) (y1 := (lvR P L (s - sy) (cy, sy, fy) p e).1) (x1 := x1) (p := p) (p1 := (lvR P L (s - sy) (cy, sy, fy) p e).2.1) (p2 := p2) (p3 := p3) (e := e) (e1 := (lvR P L (s - sy) (cy, sy, fy) p e).2.2) (e2 := e2) (e3 := e3) (c := c) rfl
    dsimp only at lv
    generalize lvR P L (s - sy) (cy, sy, fy) p e = w at *
    obtain ⟨⟨cy1, sy1, fy1⟩, pw, ew⟩ := w
    obtain ⟨hgw, hlw, hew⟩ := hlg
    dsimp only at hgw hlw hew hlp hms lv
    rw [hly] at hlw
    have hgw1 := hgw.l
    have hgx1 := hgx.l
    dsimp only at hgw1 hgx1
    have hcx := hgx1 cx[i] (List.getElem_mem (by omega))
    have hcy := hgw1 cy1[i] (List.getElem_mem (by omega))
    have hgetx : cx.getD i default = cx[i] := by rw [List.getD_eq_getElem?_getD, List.getElem?_eq_getElem (by omega)]; rfl
    have hgety : cy1.getD i default = cy1[i] := by rw [List.getD_eq_getElem?_getD, List.getElem?_eq_getElem (by omega)]; rfl
    have hgetx0 : cx.getD i (0, 0) = cx[i] := by rw [List.getD_eq_getElem?_getD, List.getElem?_eq_getElem (by omega)]; rfl
    have hgety0 : cy1.getD i (0, 0) = cy1[i] := by rw [List.getD_eq_getElem?_getD, List.getElem?_eq_getElem (by omega)]; rfl
    have hsmall : ew = 0 → cx[i].1 ≤ 255 ∧ cy1[i].1 ≤ 255 := fun h => by
      have he : e = 0 := Classical.byContradiction fun he => hew he h
      have k1 := (hgx.k he).c
      have k2 := (hgw.k h).c
      dsimp only at k1 k2
      have a1 := k1 cx[i] (List.getElem_mem (by omega))
      have a2 := k2 cy1[i] (List.getElem_mem (by omega))
      exact ⟨Nat.le_trans a1.1 hm255, Nat.le_trans a2.1 hm255⟩
    have htg : ∀ c p2 e2, tgR L (cx, s, fx) (cy1, sy1, fy1) i pw ew = (c, p2, e2) ↔ ((( (rnR L (wth cx[i] s) (s * max cx[i].2 cy1[i].2) pw ew).1 + (rnR L (wth cy1[i] s) (s * max cx[i].2 cy1[i].2) (rnR L (wth cx[i] s) (s * max cx[i].2 cy1[i].2) pw ew).2.1 (rnR L (wth cx[i] s) (s * max cx[i].2 cy1[i].2) pw ew).2.2).1, max cx[i].2 cy1[i].2), (rnR L (wth cy1[i] s) (s * max cx[i].2 cy1[i].2) (rnR L (wth cx[i] s) (s * max cx[i].2 cy1[i].2) pw ew).2.1 (rnR L (wth cx[i] s) (s * max cx[i].2 cy1[i].2) pw ew).2.2).2) : Cell × Nat × Int) = (c, p2, e2) := by
      intro c p2 e2
      unfold tgR tgB tgA
      dsimp only
      rw [hgetx0, hgety0]
    clear hgetx0 hgety0
    generalize cx[i] = c1 at *
    generalize cy1[i] = c2 at *
    obtain ⟨a1, a2⟩ := hcx
    obtain ⟨b1, b2⟩ := hcy
    have wx := rworth_fn (c := c1) (s := s) a1 (by have := sm_le (s := s) (m := c1.2) (by omega) (by omega); omega) (Nat.le_trans (wth_le a1 (by omega) (by omega)) (by decide))
    have wy := rworth_fn (c := c2) (s := s) b1 (by have := sm_le (s := s) (m := c2.2) (by omega) (by omega); omega) (Nat.le_trans (wth_le b1 (by omega) (by omega)) (by decide))
    have vx := wth_le (c := c1) (s := s) (A := 16777216) a1 (by omega) (by omega)
    have vy := wth_le (c := c2) (s := s) (A := 16777216) b1 (by omega) (by omega)
    have vxs := fun (h : c1.1 ≤ 255) => wth_le (c := c1) (s := s) (A := 255) h (by omega) (by omega)
    have vys := fun (h : c2.1 ≤ 255) => wth_le (c := c2) (s := s) (A := 255) h (by omega) (by omega)
    obtain ⟨mm, hmm⟩ : ∃ mm, max c1.2 c2.2 = mm := ⟨_, rfl⟩
    have hmd : mm ≤ P.d := by omega
    have hsm := sm_le (s := s) (m := mm) (by omega) (by omega)
    have hsme : (s : Int) * (mm : Int) = ((s * mm : Nat) : Int) := by simp
    rw [hmm] at htg
    have r1 := hrr (cx, s, fx) pw (wth c1 s) (s * mm) ew hlp (by omega) (by omega)
    have q1 := rnR_q (L := L) (n := wth c1 s) (k := s * mm) (p := pw) (e := ew) hlp
    have u1 := (rnR_le (L := L) (n := wth c1 s) (k := s * mm) (p := pw) (e := ew)).2
    have z1 := fun (h : ew ≠ 0) => rnR_err (L := L) (n := wth c1 s) (k := s * mm) (p := pw) h
    generalize rnR L (wth c1 s) (s * mm) pw ew = g1 at *
    obtain ⟨n1, pa, ea⟩ := g1
    dsimp only at r1 q1 u1 z1 htg
    have r2 := hrr (cx, s, fx) pa (wth c2 s) (s * mm) ea q1.1 (by omega) (by omega)
    have q2 := rnR_q (L := L) (n := wth c2 s) (k := s * mm) (p := pa) (e := ea) q1.1
    have u2 := (rnR_le (L := L) (n := wth c2 s) (k := s * mm) (p := pa) (e := ea)).2
    have z2 := fun (h : ea ≠ 0) => rnR_err (L := L) (n := wth c2 s) (k := s * mm) (p := pa) h
    generalize rnR L (wth c2 s) (s * mm) pa ea = g2 at *
    obtain ⟨n2, pq, eq⟩ := g2
    dsimp only at r2 q2 u2 z2 htg
    have hc12 : n1 + n2 ≤ 16777216 := by
      by_cases h0 : ew = 0
      · have := hsmall h0
        have := vxs this.1
        have := vys (hsmall h0).2
        omega
      · have e1 := z1 h0
        injection e1 with e1 e3
        injection e3 with e3 e4
        have e2 := z2 (by rw [e4]; exact h0)
        injection e2 with e2 _
        omega
    have hgx' : GOk P (cx, s, fx) eq := ⟨hgx.l, hgs1, hgs2, fun h => by
      have he3 : ea = 0 := Classical.byContradiction fun h' => q2.2.2.2 h' h
      have he2 : ew = 0 := Classical.byContradiction fun h' => q1.2.2.2 h' he3
      exact hgx.k (Classical.byContradiction fun he => hew he he2)⟩
    have ft := hft (cx, s, fx) (n1 + n2, mm) i pq (fuelF P s mm) eq q2.1 (by dsimp only; omega) (by dsimp only; omega) hgx' ⟨hc12, hmd⟩ (fun _ => need_le _ _ _)
    have hfg := ft_good hpw (L := L) (i := i) (f := fuelF P s mm) (st := (cx, s, fx)) (c := (n1 + n2, mm)) (p := pq) (e := eq) hgx' ⟨hc12, hmd⟩ (fun _ => need_le _ _ _)
    have hfp := ftR_p (P := P) (L := L) (i := i) (f := fuelF P s mm + 1) (st := (cx, s, fx)) (c := (n1 + n2, mm)) (p := pq) (e := eq) q2.1
    have hst := fun (x1 : SS) (p3 : Nat) (e3 : Int) (h : ftR P L i (fuelF P s mm + 1) (cx, s, fx) (n1 + n2, mm) pq eq = (x1, p3, e3)) => hms (n1 + n2, mm) x1 pq p3 eq e3 ((htg _ _ _).2 rfl) h
    have hfe := ftR_err (P := P) (L := L) (i := i) (f := fuelF P s mm + 1) (st := (cx, s, fx)) (c := (n1 + n2, mm)) (p := pq) (e := eq)
    dsimp only at hfg hfe
    generalize ftR P L i (fuelF P s mm + 1) (cx, s, fx) (n1 + n2, mm) pq eq = g3 at *
    obtain ⟨⟨cx3, s3, fx3⟩, p3, e3⟩ := g3
    have hnx := hst _ _ _ rfl
    rw [hnx] at hrun
    dsimp only at ft hfg hfp hfe hrun
    have hgy' : GOk P (cy1, sy1, fy1) e3 := ⟨hgw.l, hgw.s1, hgw.s2, fun h => hgw.k (Classical.byContradiction fun h' => by
      have k1 := q1.2.2.2 h'
      have k2 := q2.2.2.2 k1
      have k3 := hfe k2
      injection k3 with _ k4
      exact k2 (by rw [← k4]; exact h))⟩
    rw [hlx] at hfg
    clear hms htg hst hnx hgx' z1 z2 vxs vys hsmall hfe hrr hft hlv
    generalize wth c1 s = v1 at *
    generalize wth c2 s = v2 at *
    generalize s * mm = sm at *
    refine runW ?_
    refine callV0 (lv) rfl rfl ?_
    by_cases hmx : c1.2 < c2.2
    · obtain rfl : mm = c2.2 := by omega
      simp (maxSteps := 1000000) (disch := (first | omega | (simp only [lnA, List.length_map, List.length_range, true_and, and_true]; (try omega); done) | fail)) only [go_sem, hgetx, hgety, Int.reduceEq, Int.reduceToNat, Nat.reduceAdd, Nat.reduceMul, Nat.reduceEqDiff, ↓reduceIte]
      refine callV0 (wx) rfl rfl ?_
      simp (maxSteps := 1000000) (disch := (first | omega | (simp only [lnA, List.length_map, List.length_range, true_and, and_true]; (try omega); done) | fail)) only [go_sem, hsme, Int.reduceEq, Int.reduceToNat, Nat.reduceAdd, Nat.reduceMul, Nat.reduceEqDiff, ↓reduceIte]
      refine callV0 (r1) rfl rfl ?_
      refine runW ?_
      refine callV0 (wy) rfl rfl ?_
      simp (maxSteps := 1000000) (disch := (first | omega | (simp only [lnA, List.length_map, List.length_range, true_and, and_true]; (try omega); done) | fail)) only [go_sem, hsme, Int.reduceEq, Int.reduceToNat, Nat.reduceAdd, Nat.reduceMul, Nat.reduceEqDiff, ↓reduceIte]
      refine callV0 (r2) rfl rfl ?_
      refine runW ?_
      refine callV0 (ft) rfl rfl ?_
      refine runW ?_
      refine nextW (i + 1, (cx3, s3, fx3), (cy1, sy1, fy1), p3, e3, L, pw, ew) [some 0, some 1, some 2] ⟨hil, hfg.2, hlw, hfp, hfg.1, hgy', by dsimp only; rw [hk2]; exact hrun⟩ (by dsimp only; omega)
    · obtain rfl : mm = c1.2 := by omega
      simp (maxSteps := 1000000) (disch := (first | omega | (simp only [lnA, List.length_map, List.length_range, true_and, and_true]; (try omega); done) | fail)) only [go_sem, hgetx, hgety, Int.reduceEq, Int.reduceToNat, Nat.reduceAdd, Nat.reduceMul, Nat.reduceEqDiff, ↓reduceIte]
      refine callV0 (wx) rfl rfl ?_
      simp (maxSteps := 1000000) (disch := (first | omega | (simp only [lnA, List.length_map, List.length_range, true_and, and_true]; (try omega); done) | fail)) only [go_sem, hsme, Int.reduceEq, Int.reduceToNat, Nat.reduceAdd, Nat.reduceMul, Nat.reduceEqDiff, ↓reduceIte]
      refine callV0 (r1) rfl rfl ?_
      refine runW ?_
      refine callV0 (wy) rfl rfl ?_
      simp (maxSteps := 1000000) (disch := (first | omega | (simp only [lnA, List.length_map, List.length_range, true_and, and_true]; (try omega); done) | fail)) only [go_sem, hsme, Int.reduceEq, Int.reduceToNat, Nat.reduceAdd, Nat.reduceMul, Nat.reduceEqDiff, ↓reduceIte]
      refine callV0 (r2) rfl rfl ?_
      refine runW ?_
      refine callV0 (ft) rfl rfl ?_
      refine runW ?_
      refine nextW (i + 1, (cx3, s3, fx3), (cy1, sy1, fy1), p3, e3, L, pw, ew) [some 0, some 1, some 2] ⟨hil, hfg.2, hlw, hfp, hfg.1, hgy', by dsimp only; rw [hk2]; exact hrun⟩ (by dsimp only; omega)
  · have hz : n - i = 0 := by omega
    rw [hz] at hrun
    have hrun2 : mgR P L n 0 x1 y0 p1 e1 = ((cx, s, fx || fy), p, e) := hrun
    rw [hrun2] at hQ
    cases fx with
    | true =>
      rw [Bool.true_or] at hQ
      refine runW ?_
      exact endW [] hQ
    | false =>
      rw [Bool.false_or] at hQ
      refine runW ?_
      exact endW [] hQ
end Go.Proofs.YtdmdmdoeahhkiaaGreatDoor
