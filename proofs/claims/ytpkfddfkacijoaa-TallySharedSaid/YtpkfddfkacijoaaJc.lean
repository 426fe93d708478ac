import Derived.Test.YtpkfddfkacijoaaSq
namespace Go.Proofs.Ytpkfddfkacijoaa
open Go.Eng Go.Vx
set_option linter.unusedSimpArgs false
set_option linter.unusedVariables false
set_option maxRecDepth 100000
theorem lv_len {P : SP} (hP : PB P) {L : List Bool} {k p q : Nat} {st r : SS} (hs : SOk P st) (hk : st.2.1 + k ≤ P.s) (h : (lvD P k st).run L p = some (r, q)) : SOk P r ∧ r.1.length = st.1.length ∧ r.2.1 = st.2.1 + k ∧ r.2.2 = st.2.2 := by
  have := all_run (lvD_all hP k st hs hk) h
  exact this
set_option maxHeartbeats 16000000 in
theorem smerge_fn {M D S n p : Nat} {x y : SS} {d : Bool} {L : List Bool} (hw : WB M D S) (hL : L.length ≤ 1048576) (hp : p ≤ L.length) (hd : d = true → p = L.length) (hn : 1 ≤ n ∧ n ≤ 256) (hx : x.1.length = n) (hy : y.1.length = n)
    (hsx : SOk (SPof M D S) x) (hsy : SOk (SPof M D S) y) :
    Fn1 Try.prog 25 [.ref 0 0 0 0, .ref 1 0 0 0, .ref 2 0 0 0] [some (saC M D S x), some (tpC L p d), some (saC M D S y)]
    (.lit (.int .i64 (mergeR M D S L d x y p).2.1)) [some (saC M D S (mergeR M D S L d x y p).1), some (tpC L (mergeR M D S L d x y p).2.2.1 (mergeR M D S L d x y p).2.2.2), some (saC M D S y)] := by
  have hpw := hw.pw
  have hPs : (SPof M D S).s = S := rfl
  have hnx : x.1 ≠ [] := fun e => by rw [e] at hx; simp at hx; omega
  have hny : y.1 ≠ [] := fun e => by rw [e] at hy; simp at hy; omega
  have c1 := sclone_fn (M := M) (D := D) (S := S) (st := x) (by omega) hnx
  have c2 := sclone_fn (M := M) (D := D) (S := S) (st := y) (by omega) hny
  have hxs2 := hsx.s2
  have hys2 := hsy.s2
  have lv1 := slevel_fn (M := M) (D := D) (S := S) (p := p) (t := y.2.1) (st := x) (d := d) (L := L) hw hL hp hd (by omega) hsx (by omega)
  have hlv := fun (st : SS) (t q : Nat) (h1 : q ≤ L.length) (h2 : d = true → q = L.length) (h3 : st.1.length ≤ 256) (h4 : SOk (SPof M D S) st) (h5 : t ≤ S) => slevel_fn (M := M) (D := D) (S := S) (p := q) (t := t) (st := st) (d := d) (L := L) hw hL h1 h2 h3 h4 h5
  have htg := fun (a b : SS) (i q : Nat) (h1 : q ≤ L.length) (h2 : d = true → q = L.length) (h3 : i < n) (h4 : a.1.length = n) (h5 : b.1.length = n) (h6 : SOk (SPof M D S) a) (h7 : SOk (SPof M D S) b) => stog_fn (M := M) (D := D) (S := S) (p := q) (i := i) (n := n) (x := a) (y := b) (d := d) (L := L) hw hL h1 h2 (by omega) h3 h4 h5 h6 h7
  have hft := fun (a : SS) (c : Cell) (i q : Nat) (h1 : q ≤ L.length) (h2 : d = true → q = L.length) (h3 : a.1.length ≤ 256) (h4 : i < a.1.length) (h5 : SOk (SPof M D S) a) (h6 : c.1 ≤ 16777216) (h7 : c.2 ≤ (SPof M D S).d) => sfit_fn (M := M) (D := D) (S := S) (p := q) (i := i) (F := fuelF (SPof M D S) a.2.1 c.2) (st := a) (d := d) (L := L) (c := c) hw hL h1 h2 h3 h4 h5 h6 h7 (need_le _ _ _)
  unfold mergeR
  rw [merge_run, hx]
  generalize hP : SPof M D S = P at *
  obtain ⟨cx, s, fx⟩ := x
  obtain ⟨cy, sy, fy⟩ := y
  dsimp only at hx hy c1 c2 hxs2 hys2 lv1 ⊢
  rw [hx] at c1 lv1
  rw [hy] at c2
  refine fn1N_of pl25 (by kernel_rfl) Try.call25 Try.func25 rfl (by kernel_rfl) rfl [.tmp 6] (by kernel_rfl) fun Q hQ => ?_
  simp (maxSteps := 1000000) (disch := (first | omega | (simp only [lnA, List.length_map, List.length_range, true_and, and_true]; (try omega); done) | fail)) only [go_sem, hx, hy, eq_self, decide_true, beq_self_eq_true, Bool.and_self, Bool.not_true, Int.reduceEq, Int.reduceToNat, Nat.reduceAdd, Nat.reduceMul, Nat.reduceEqDiff, ↓reduceIte]
  refine callF (c1) ?_
  refine runW ?_
  refine callF (c2) ?_
  refine runW ?_
  refine callR [some 3, some 1, some 4] [] (lv1) ?_
  rintro ⟨⟨cx1, s1, fx1⟩, e1, q1, d1⟩ hr
  unfold outR at hr
  cases h1 : (lvD P (sy - s) (cx, s, fx)).run L p with
  | none =>
    rw [h1] at hr hQ
    dsimp only [outG] at hr hQ
    simp only [Prod.mk.injEq] at hr
    obtain ⟨rfl, rfl, rfl⟩ := hr
    refine runW ?_
    exact endW [some 0, some 1, some 2] hQ
  | some r =>
    obtain ⟨⟨cx1', s1', fx1'⟩, q1'⟩ := r
    have hl1 := lv_len hpw.toPB hsx (by dsimp only; omega) h1
    have hdn := dead_next hp hd h1
    rw [h1] at hr hQ
    dsimp only at hr hQ hl1
    simp only [Prod.mk.injEq] at hr
    obtain ⟨⟨rfl, rfl, rfl⟩, rfl, rfl, rfl⟩ := hr
    obtain ⟨hs1, hlen1, -, -⟩ := hl1
    rw [hx] at hlen1
    simp (maxSteps := 1000000) (disch := (first | omega | (simp only [lnA, List.length_map, List.length_range, true_and, and_true]; (try omega); done) | fail)) only [go_sem, hlen1, Int.reduceEq, Int.reduceToNat, Nat.reduceAdd, Nat.reduceMul, Nat.reduceEqDiff, ↓reduceIte]
    refine loopW (X := Nat × SS × SS × Nat) (st := fun z => ([(0, .ref 0 0 0 0), (1, .ref 1 0 0 0), (2, .ref 2 0 0 0), (7, .ref 3 0 0 0), (8, .ref 5 0 0 0), (55, .lit (.int .i64 (n : Int))), (56, .lit (.int .i64 (z.1 : Int)))],
        [some (saC M D S (cx, s, fx)), some (tpC L z.2.2.2 d1), some (saC M D S (cy, sy, fy)), some (saO M D S 4 n z.2.1.2.1 z.2.1.2.2), some (.row 2 (z.2.1.1.map cV)), some (saO M D S 6 n z.2.2.1.2.1 z.2.2.1.2.2), some (.row 2 (z.2.2.1.1.map cV))]))
      (inv := fun z => z.1 ≤ n ∧ SOk P z.2.1 ∧ SOk P z.2.2.1 ∧ z.2.1.1.length = n ∧ z.2.2.1.1.length = n ∧ z.2.2.2 ≤ L.length ∧ (d1 = true → z.2.2.2 = L.length) ∧ (mgD P n 0 (cx1, s1, fx1) (cy, sy, fy)).run L q1 = (mgD P (n - z.1) z.1 z.2.1 z.2.2.1).run L z.2.2.2)
      (m := fun z => n - z.1) (0, (cx1, s1, fx1), (cy, sy, fy), q1) [some 0, some 1, some 2, some 3, some 4, some 5, some 6] ⟨Nat.zero_le _, hs1, hsy, hlen1, hy, hdn.1, hdn.2, rfl⟩ ?_
    rintro ⟨i, ⟨cs, s', fu⟩, ⟨ct, t', fv⟩, q⟩ ⟨hi, hsa, hsb, hla, hlb, hq, hdq, hrun⟩
    have hsa2 := hsa.s2
    have hsb2 := hsb.s2
    dsimp only at hi hla hlb hq hdq hrun hsa2 hsb2 ⊢
    by_cases hil : i < n
    · obtain ⟨k, hk⟩ : ∃ k, n - i = k + 1 := ⟨n - i - 1, by omega⟩
      have hk2 : n - (i + 1) = k := by omega
      rw [hk, mg_run] at hrun
      dsimp only at hrun
      have lv2 := hlv (ct, t', fv) s' q hq hdq (by dsimp only; omega) hsb (by omega)
      dsimp only at lv2
      rw [hlb] at lv2
      refine runW ?_
      refine callR [some 5, some 1, some 6] [] (lv2) ?_
      rintro ⟨⟨ct1, t1, fv1⟩, e2, q2, d2⟩ hr2
      unfold outR at hr2
      cases h2 : (lvD P (s' - t') (ct, t', fv)).run L q with
      | none =>
        rw [h2] at hr2 hrun
        dsimp only at hr2 hrun
        rw [hrun] at hQ
        dsimp only [outG] at hQ
        simp only [Prod.mk.injEq] at hr2
        obtain ⟨rfl, rfl, rfl⟩ := hr2
        refine runW ?_
        exact endW [some 0, some 1, some 2] hQ
      | some r2 =>
        obtain ⟨⟨a2, b2, f2⟩, q2'⟩ := r2
        have hl2 := lv_len hpw.toPB hsb (by dsimp only; omega) h2
        have hdn2 := dead_next hq hdq h2
        rw [h2] at hr2 hrun
        dsimp only at hr2 hrun hl2
        simp only [Prod.mk.injEq] at hr2
        obtain ⟨⟨rfl, rfl, rfl⟩, rfl, rfl, rfl⟩ := hr2
        obtain ⟨hsb1, hlb1, -, -⟩ := hl2
        rw [hlb] at hlb1
        have tg := htg (cs, s', fu) (ct1, t1, fv1) i q2 hdn2.1 hdn2.2 hil hla hlb1 hsa hsb1
        refine runW ?_
        refine callR [some 3, some 1, some 5, some 4, some 6] [] (tg) ?_
        rintro ⟨c, e3, q3, d3⟩ hr3
        unfold outR at hr3
        cases h3 : (togD (cs, s', fu) (ct1, t1, fv1) i).run L q2 with
        | none =>
          rw [h3] at hr3 hrun
          dsimp only at hr3 hrun
          rw [hrun] at hQ
          dsimp only [outG] at hQ
          simp only [Prod.mk.injEq] at hr3
          obtain ⟨rfl, rfl, rfl⟩ := hr3
          refine runW ?_
          exact endW [some 0, some 1, some 2] hQ
        | some r3 =>
          obtain ⟨c', q3'⟩ := r3
          have hcb := all_run (togD_all hpw hsa hsb1) h3
          have hdn3 := dead_next hdn2.1 hdn2.2 h3
          rw [h3] at hr3 hrun
          dsimp only at hr3 hrun
          simp only [Prod.mk.injEq] at hr3
          obtain ⟨rfl, rfl, rfl, rfl⟩ := hr3
          have ft := hft (cs, s', fu) c i q3 hdn3.1 hdn3.2 (by dsimp only; omega) (by dsimp only; omega) hsa hcb.1 hcb.2
          dsimp only at ft
          rw [hla] at ft
          refine runW ?_
          refine callR [some 3, some 1, some 4] [] (ft) ?_
          rintro ⟨⟨cs4, s4, fu4⟩, e4, q4, d4⟩ hr4
          unfold outR at hr4
          cases h4 : (fitD P i (fuelF P s' c.2) (cs, s', fu) c).run L q3 with
          | none =>
            rw [h4] at hr4 hrun
            dsimp only at hr4 hrun
            rw [hrun] at hQ
            dsimp only [outG] at hQ
            simp only [Prod.mk.injEq] at hr4
            obtain ⟨rfl, rfl, rfl⟩ := hr4
            refine runW ?_
            exact endW [some 0, some 1, some 2] hQ
          | some r4 =>
            obtain ⟨⟨a4, b4, f4⟩, q4'⟩ := r4
            have hfa := all_run (fitD_all hpw.toPB i _ (cs, s', fu) c hsa hcb.2 (need_le _ _ _)) h4
            have hfl := all_run (len_fit P i (fuelF P s' c.2) (cs, s', fu) c) h4
            have hdn4 := dead_next hdn3.1 hdn3.2 h4
            rw [h4] at hr4 hrun
            dsimp only at hr4 hrun hfa hfl
            simp only [Prod.mk.injEq] at hr4
            obtain ⟨⟨rfl, rfl, rfl⟩, rfl, rfl, rfl⟩ := hr4
            refine runW ?_
            refine nextW (i + 1, (cs4, s4, fu4), (ct1, t1, fv1), q4) [some 0, some 1, some 2, some 3, some 4, some 5, some 6] ⟨hil, hfa.1, hsb1, by dsimp only; omega, hlb1, hdn4.1, hdn4.2, by dsimp only; rw [hk2]; exact hrun⟩ (by dsimp only; omega)
    · have hz : n - i = 0 := by omega
      rw [hz] at hrun
      have hrun2 : (mgD P n 0 (cx1, s1, fx1) (cy, sy, fy)).run L q1 = some ((cs, s', fu || fv), q) := hrun
      rw [hrun2] at hQ
      dsimp only [outG] at hQ
      cases fu with
      | false =>
        rw [Bool.false_or] at hQ
        refine runW ?_
        exact endW [some 0, some 1, some 2] hQ
      | true =>
        rw [Bool.true_or] at hQ
        refine runW ?_
        exact endW [some 0, some 1, some 2] hQ
end Go.Proofs.Ytpkfddfkacijoaa
