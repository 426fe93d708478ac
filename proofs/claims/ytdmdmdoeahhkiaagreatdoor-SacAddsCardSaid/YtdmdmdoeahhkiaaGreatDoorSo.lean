import Derived.Test.YtdmdmdoeahhkiaaGreatDoorSm
namespace Go.Proofs.YtdmdmdoeahhkiaaGreatDoor
open Go.Eng Go.Vx
set_option linter.unusedSimpArgs false
set_option linter.unusedVariables false
set_option maxRecDepth 100000
structure Run19 (M D S n : Nat) (L : List Bool) (st : SS) (p : Nat) (d : Bool) : Prop where
  ok : SOk (SPof M D S) st
  len : st.1.length = n
  pl : p ≤ L.length
  dl : d = true → p = L.length
theorem sadd_any {M D S n p : Nat} {I N : Int} {st : SS} {d : Bool} {L : List Bool} (hw : WB M D S) (hL : L.length ≤ 1048576) (hn : n ≤ 256) (h : Run19 M D S n L st p d) :
    ∃ (st' : SS) (e : Int) (p' : Nat) (d' : Bool), Fn1 Tryz.prog 33 [.ref 0 0 0 0, .ref 1 0 0 0, .lit (.int .i64 I), .lit (.int .i64 N)] [some (saC M D S st), some (tpC L p d)] (.lit (.int .i64 e)) [some (saC M D S st'), some (tpC L p' d')] ∧
      Run19 M D S n L st' p' d' ∧ st.2.1 ≤ st'.2.1 := by
  obtain ⟨h1, h2, h3, h4⟩ := h
  by_cases hI : I < 0 ∨ (st.1.length : Int) ≤ I
  · exact ⟨st, _, p, d, saddI_fn (by omega) hI, ⟨h1, h2, h3, h4⟩, Nat.le_refl _⟩
  · obtain ⟨i, rfl⟩ : ∃ i : Nat, I = (i : Int) := ⟨I.toNat, by omega⟩
    by_cases hN : N < 0 ∨ 1048576 < N
    · exact ⟨st, _, p, d, saddN_fn (by omega) (by omega) hN, ⟨h1, h2, h3, h4⟩, Nat.le_refl _⟩
    · obtain ⟨m, rfl⟩ : ∃ m : Nat, N = (m : Int) := ⟨N.toNat, by omega⟩
      refine ⟨_, _, _, _, sadd_fn hw hL h3 h4 (by omega) (by omega) h1 (by omega), ?_⟩
      unfold addR
      cases hr : (addD (SPof M D S) st i m).run L p with
      | none => exact ⟨⟨h1, h2, Nat.le_refl _, fun _ => rfl⟩, Nat.le_refl _⟩
      | some r =>
        obtain ⟨a, q⟩ := r
        have a1 := all_run (addD_all hw.pw.toPB st i m h1) hr
        have a2 := all_run (len_add (SPof M D S) st i m) hr
        have a3 := dead_next h3 h4 hr
        exact ⟨⟨a1.1, a2.1.trans h2, a3.1, a3.2⟩, a1.2.1⟩
def aV (x : Int × Int) : List PV := [.lit (.int .i64 x.1), .lit (.int .i64 x.2)]
@[go_sem] theorem aV_eq {x : Int × Int} : aV x = [.lit (.int .i64 x.1), .lit (.int .i64 x.2)] := (rfl)
set_option maxHeartbeats 4000000 in
theorem sacBounds_fn {a b c : Int} {l : List (Int × Int)} {L0 : List Bool} (hl : l.length ≤ 9223372036854775807) (hL0 : L0.length ≤ 9223372036854775807) : Fn1 Tryz.prog 5 [.agg [.lit (.int .i64 a), .lit (.int .i64 b), .lit (.int .i64 c)], .row 2 (l.map aV), .row 1 (L0.map be)] [] (.lit (.bool true)) [] := by
  obtain ⟨M, D, S, hw, hM, hS, hsm⟩ := small19_fn (a := a) (b := b) (c := c)
  have ho := own19_fn (M := M) (D := D) (S := S)
  have hfw := few9_fn (L := L0) (n := 300) hL0 (by decide)
  rw [show ((300 : Nat) : Int) = 300 from rfl] at hfw
  have hLl : (L0.take 300).length ≤ 300 := by rw [List.length_take]; omega
  generalize L0.take 300 = L at *
  obtain ⟨n, hn, hn1, hn4⟩ : ∃ n : Nat, 1 + (l.length : Int) % 4 = (n : Int) ∧ 1 ≤ n ∧ n ≤ 4 := ⟨(1 + (l.length : Int) % 4).toNat, by omega, by omega, by omega⟩
  have hnew := snew_fn (n := n) hw.good ⟨hn1, by omega⟩
  have htp := newT_fn (L := L) (by omega)
  have hok0 := ok0 hw.pw.toPB (n := n)
  have hlen0 : (List.replicate n ((0 : Nat), (0 : Nat))).length = n := List.length_replicate
  generalize List.replicate n ((0 : Nat), (0 : Nat)) = z0 at *
  have s1 := ssh1_n (k := M) (by omega)
  have hD2 := hw.d2
  have s2 := ssh1_n (k := D) (by omega)
  refine fn1N_of pl5 (by kernel_rfl) Tryz.call5 Tryz.func5 rfl (by kernel_rfl) rfl [.tmp 6] (by kernel_rfl) fun Q hQ => ?_
  refine runW ?_
  refine callV0 (awake19_fn) rfl rfl ?_
  refine runW ?_
  refine callV0 (hsm) rfl rfl ?_
  refine runW ?_
  refine callV0 (hfw) rfl rfl ?_
  refine runW ?_
  refine callV0 (ho) rfl rfl ?_
  simp (maxSteps := 1000000) (disch := (first | omega | (simp only [lnA, List.length_map, List.length_range, true_and, and_true]; (try omega); done) | fail)) only [go_sem, hn, Int.reduceEq, Int.reduceToNat, Nat.reduceAdd, Nat.reduceMul, Nat.reduceEqDiff, ↓reduceIte]
  refine callW [] [] (hnew) ?_
  refine runW ?_
  refine callW [] [] (htp) ?_
  refine runW ?_
  refine loopW (X := Nat × SS × Nat × Bool) (st := fun y => ([(1, .row 2 (l.map aV)), (3, .ref 0 0 0 0), (7, .ref 1 0 0 0), (9, .ref 2 0 0 0), (10, .lit (.int .i64 (y.2.1.2.1 : Int))), (11, .lit (.int .i64 (y.1 : Int)))],
      [some (.cells [.lit (.int .i64 (M : Int)), .lit (.int .i64 (D : Int)), .lit (.int .i64 (S : Int))]), some (saC M D S y.2.1), some (tpC L y.2.2.1 y.2.2.2)]))
    (inv := fun y => y.1 ≤ 25 ∧ Run19 M D S n L y.2.1 y.2.2.1 y.2.2.2) (m := fun y => 25 - y.1) (0, (z0, 1, false), 0, false) [some 0, some 1, some 2] ⟨Nat.zero_le _, hok0, hlen0, Nat.zero_le _, fun h => by cases h⟩ ?_
  rintro ⟨i, st, p, d⟩ ⟨hi, hrun⟩
  dsimp only at hi hrun ⊢
  by_cases h1 : i < l.length
  · by_cases h2 : i < 25
    · obtain ⟨x, hx⟩ : ∃ x, l.getD i default = x := ⟨_, rfl⟩
      obtain ⟨⟨cs, s, fu⟩, e, p', d', hadd, hrun', hle⟩ := sadd_any (I := x.1) (N := x.2) hw (by omega) (by omega) hrun
      have t1 := sscale_fn (M := M) (D := D) (S := S) (st := (cs, s, fu))
      have t2 := sfull_fn (M := M) (D := D) (S := S) (st := (cs, s, fu))
      have t3 := slen_fn (M := M) (D := D) (S := S) (st := (cs, s, fu)) (by rw [hrun'.len]; omega)
      have hlen := hrun'.len
      have hss := hrun'.ok.s2
      have hfl := hrun'.ok.f
      have hcs := hrun'.ok.c
      rw [show (SPof M D S).s = S from rfl] at hss hfl
      dsimp only at t1 t2 t3 hle hlen hss hfl hcs
      simp (maxSteps := 1000000) (disch := (first | omega | (simp only [lnA, List.length_map, List.length_range, true_and, and_true]; (try omega); done) | fail)) only [go_sem, hx, Int.reduceEq, Int.reduceToNat, Nat.reduceAdd, Nat.reduceMul, Nat.reduceEqDiff, ↓reduceIte]
      refine callW [some 1, some 2] [] (hadd) ?_
      have p1 : 1 ≤ 2 ^ M := Nat.pow_pos (by decide)
      have p2 : 1 ≤ 2 ^ D := Nat.pow_pos (by decide)
      have c1 : ∀ c ∈ cs, c.1 < 2 ^ M ∧ c.2 < 2 ^ D ∧ (c.1 = 0 → c.2 = 0) := fun c hc => by
        have h := hcs c hc
        have e1 : (SPof M D S).m = 2 ^ M - 1 := rfl
        have e2 : (SPof M D S).d = 2 ^ D - 1 := rfl
        obtain ⟨h3, h4, h5⟩ := h
        exact ⟨by omega, by omega, h5⟩
      have hget := fun (k : Nat) (hk : k < cs.length) => sget_fn (M := M) (D := D) (S := S) (st := (cs, s, fu)) (i := k) (c := cs[k]) (List.getElem?_eq_getElem hk) (by dsimp only; omega)
      generalize 2 ^ M = mm at *
      generalize 2 ^ D = dd at *
      have hfu : fu = true → (s : Int) = (S : Int) := fun h => by rw [hfl h]
      have body : ∀ k, k ≤ n → True := fun _ _ => trivial
      cases fu with
      | false =>
        repeat (first | (refine callT (t1) ?_) | (refine callT (t2) ?_) | (refine callT (t3) ?_) | (refine runW ?_))
        refine loopW (X := Nat) (st := fun k => ([(1, .row 2 (l.map aV)), (3, .ref 0 0 0 0), (7, .ref 1 0 0 0), (9, .ref 2 0 0 0), (10, .lit (.int .i64 (s : Int))), (11, .lit (.int .i64 (i : Int))), (87, .lit (.int .i64 (cs.length : Int))), (88, .lit (.int .i64 (k : Int)))],
            [some (.cells [.lit (.int .i64 (M : Int)), .lit (.int .i64 (D : Int)), .lit (.int .i64 (S : Int))]), some (saC M D S (cs, s, false)), some (tpC L p' d')]))
          (inv := fun k => k ≤ cs.length) (m := fun k => cs.length - k) 0 [some 0, some 1, some 2] (Nat.zero_le _) ?_
        intro k hk
        by_cases hkl : k < cs.length
        · have g := hget k hkl
          obtain ⟨c2, c3, c4⟩ := c1 cs[k] (List.getElem_mem hkl)
          generalize cs[k] = cc at *
          by_cases hz : cc.1 = 0
          · have hz2 := c4 hz
            refine runW ?_
            refine callT (g) ?_
            simp (maxSteps := 1000000) (disch := (first | omega | (simp only [lnA, List.length_map, List.length_range, true_and, and_true]; (try omega); done) | fail)) only [go_sem, s1, s2, Int.reduceEq, Int.reduceToNat, Nat.reduceAdd, Nat.reduceMul, Nat.reduceEqDiff, ↓reduceIte]
            refine nextW (k + 1) [some 0, some 1, some 2] (by omega) (by omega)
          · refine runW ?_
            refine callT (g) ?_
            simp (maxSteps := 1000000) (disch := (first | omega | (simp only [lnA, List.length_map, List.length_range, true_and, and_true]; (try omega); done) | fail)) only [go_sem, s1, s2, Int.reduceEq, Int.reduceToNat, Nat.reduceAdd, Nat.reduceMul, Nat.reduceEqDiff, ↓reduceIte]
            refine nextW (k + 1) [some 0, some 1, some 2] (by omega) (by omega)
        · refine runW ?_
          refine nextW (i + 1, (cs, s, false), p', d') [some 0, some 1, some 2] ⟨by dsimp only; omega, hrun'⟩ (by dsimp only; omega)
      | true =>
        have hfs := hfu rfl
        repeat (first | (refine callT (t1) ?_) | (refine callT (t2) ?_) | (refine callT (t3) ?_) | (refine runW ?_))
        refine loopW (X := Nat) (st := fun k => ([(1, .row 2 (l.map aV)), (3, .ref 0 0 0 0), (7, .ref 1 0 0 0), (9, .ref 2 0 0 0), (10, .lit (.int .i64 (s : Int))), (11, .lit (.int .i64 (i : Int))), (87, .lit (.int .i64 (cs.length : Int))), (88, .lit (.int .i64 (k : Int)))],
            [some (.cells [.lit (.int .i64 (M : Int)), .lit (.int .i64 (D : Int)), .lit (.int .i64 (S : Int))]), some (saC M D S (cs, s, true)), some (tpC L p' d')]))
          (inv := fun k => k ≤ cs.length) (m := fun k => cs.length - k) 0 [some 0, some 1, some 2] (Nat.zero_le _) ?_
        intro k hk
        by_cases hkl : k < cs.length
        · have g := hget k hkl
          obtain ⟨c2, c3, c4⟩ := c1 cs[k] (List.getElem_mem hkl)
          generalize cs[k] = cc at *
          by_cases hz : cc.1 = 0
          · have hz2 := c4 hz
            refine runW ?_
            refine callT (g) ?_
            simp (maxSteps := 1000000) (disch := (first | omega | (simp only [lnA, List.length_map, List.length_range, true_and, and_true]; (try omega); done) | fail)) only [go_sem, s1, s2, Int.reduceEq, Int.reduceToNat, Nat.reduceAdd, Nat.reduceMul, Nat.reduceEqDiff, ↓reduceIte]
            refine nextW (k + 1) [some 0, some 1, some 2] (by omega) (by omega)
          · refine runW ?_
            refine callT (g) ?_
            simp (maxSteps := 1000000) (disch := (first | omega | (simp only [lnA, List.length_map, List.length_range, true_and, and_true]; (try omega); done) | fail)) only [go_sem, s1, s2, Int.reduceEq, Int.reduceToNat, Nat.reduceAdd, Nat.reduceMul, Nat.reduceEqDiff, ↓reduceIte]
            refine nextW (k + 1) [some 0, some 1, some 2] (by omega) (by omega)
        · refine runW ?_
          refine nextW (i + 1, (cs, s, true), p', d') [some 0, some 1, some 2] ⟨by dsimp only; omega, hrun'⟩ (by dsimp only; omega)
    · refine runW ?_
      exact endW [] hQ
  · refine runW ?_
    exact endW [] hQ
end Go.Proofs.YtdmdmdoeahhkiaaGreatDoor
