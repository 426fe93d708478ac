import Derived.Test.YtpkfddfkacijoaaGreatDoorSj
namespace Go.Proofs.YtpkfddfkacijoaaGreatDoor
open Go.Eng Go.Vx
set_option linter.unusedSimpArgs false
set_option linter.unusedVariables false
set_option maxRecDepth 100000
theorem fit_le {P : SP} {i f : Nat} {st : SS} {c : Cell} (h : c.1 ≤ P.m) : fitD P i (f + 1) st c = .ret (st.1.set i (putS c), st.2) := by rw [fitD.eq_2, if_pos h]
theorem fit_up {P : SP} {L : List Bool} {i f p : Nat} {st : SS} {c : Cell} (h : ¬ c.1 ≤ P.m) (h2 : c.2 < P.d) : (fitD P i (f + 1) st c).run L p = match (rndD c.1 st.2.1).run L p with | some (n, q) => (fitD P i f st (n, c.2 + 1)).run L q | none => none := by
 rw [fitD.eq_2, if_neg h, if_pos h2, run_bind, upD_run]
 cases (rndD c.1 st.2.1).run L p with
 | none => rfl
 | some x => rfl
theorem fit_re {P : SP} {L : List Bool} {i f p : Nat} {st : SS} {c : Cell} (h : ¬ c.1 ≤ P.m) (h2 : ¬ c.2 < P.d) (h3 : st.2.1 < P.s) : (fitD P i (f + 1) st c).run L p = match (rsD P st.2.1 i st.1 0 c).run L p with | some (r, q) => (fitD P i f (r.1, st.2.1 + 1, st.2.2) r.2).run L q | none => none := by
 rw [fitD.eq_2, if_neg h, if_neg h2, if_pos h3, run_bind]
 cases (rsD P st.2.1 i st.1 0 c).run L p with
 | none => rfl
 | some x => rfl
theorem fit_full {P : SP} {i f : Nat} {st : SS} {c : Cell} (h : ¬ c.1 ≤ P.m) (h2 : ¬ c.2 < P.d) (h3 : ¬ st.2.1 < P.s) : fitD P i (f + 1) st c = .ret (st.1.set i (putS (P.m, c.2)), st.2.1, true) := by rw [fitD.eq_2, if_neg h, if_neg h2, if_neg h3]
set_option maxHeartbeats 4000000 in
theorem sfit_fn {M D S p i F : Nat} {st : SS} {d : Bool} {L : List Bool} {c : Cell} (hw : WB M D S) (hL : L.length ≤ 1048576) (hp : p ≤ L.length) (hd : d = true → p = L.length) (hn : st.1.length ≤ 256) (hi : i < st.1.length)
  (hs : SOk (SPof M D S) st) (hc : c.1 ≤ 16777216) (hc2 : c.2 ≤ (SPof M D S).d) (hF : need (SPof M D S) st.2.1 c.2 ≤ F) :
  FnR Tryz.prog 93 [.ref 0 0 0 0, .ref 1 0 0 0, .lit (.int .i64 (i : Int)), cA c] (W3 M D S st.1.length st.1 st.2.1 st.2.2 L p d)
  (outR L d ((fitD (SPof M D S) i F st c).run L p)) (fun x => .lit (.int .i64 x.2.1)) (fun x => W3 M D S st.1.length x.1.1 x.1.2.1 x.1.2.2 L x.2.2.1 x.2.2.2) := by
 have ht := stops_fn (M := M) (D := D) (S := S) (by have := hw.m8; omega) (by have := hw.d2; omega)
 have hpw := hw.pw
 have hd3 := hpw.d3
 have hm255 := hpw.m255
 rw [show 2 ^ M - 1 = (SPof M D S).m from rfl, show 2 ^ D - 1 = (SPof M D S).d from rfl] at ht
 have hre := fun (cs : List Cell) (s p' : Nat) (f : Bool) (own : Cell) (h1 : p' ≤ L.length) (h2 : d = true → p' = L.length) (h3 : s ≤ 4) (h4 : cs.length ≤ 256) (h5 : ∀ c ∈ cs, COk (SPof M D S) c) (h6 : own.1 ≤ 16777216 ∧ own.2 ≤ 3) => srescale_fn (M := M) (D := D) (S := S) (s := s) (p := p') (cs := cs) (f := f) (d := d) (L := L) (i := (i : Int)) (own := own) hw hL h1 h2 h3 h4 h5 h6
 have hPs : (SPof M D S).s = S := rfl
 have hw4 := hw.s4
 generalize hP : SPof M D S = P at *
 generalize hn0 : st.1.length = n at *
 refine fnRN_of pl93 (by kernel_rfl) Tryz.call93 Tryz.func93 rfl (by kernel_rfl) rfl [.tmp 8] (by kernel_rfl) fun Q hQ => ?_
 refine runW ?_
 refine callV0 (ht) rfl rfl ?_
 refine runW ?_
 refine loopW (X := Nat × SS × Cell × Nat) (st := fun y => ([(0, .ref 0 0 0 0), (1, .ref 1 0 0 0), (2, .lit (.int .i64 (i : Int))), (7, .ref 3 0 0 0), (9, .lit (.int .i64 (P.m : Int))), (10, .lit (.int .i64 (P.d : Int)))],
   W3 M D S n y.2.1.1 y.2.1.2.1 y.2.1.2.2 L y.2.2.2 d ++ [some (.cells [.lit (.int .i64 (y.2.2.1.1 : Int)), .lit (.int .i64 (y.2.2.1.2 : Int))])]))
  (inv := fun y => y.2.1.1.length = n ∧ y.2.2.2 ≤ L.length ∧ (d = true → y.2.2.2 = L.length) ∧ SOk P y.2.1 ∧ y.2.2.1.1 ≤ 16777216 ∧ y.2.2.1.2 ≤ P.d ∧ need P y.2.1.2.1 y.2.2.1.2 ≤ y.1 ∧
   (fitD P i F st c).run L p = (fitD P i y.1 y.2.1 y.2.2.1).run L y.2.2.2)
  (m := fun y => y.1) (F, st, c, p) [some 0, some 1, some 2, some 3] ⟨hn0, hp, hd, hs, hc, hc2, hF, rfl⟩ ?_
 rintro ⟨f, st', o, q⟩ ⟨hlen, hq, hdq, hs', ho1, ho2, hf, hrun⟩
 dsimp only at hlen hq hdq hs' ho1 ho2 hf hrun ⊢
 obtain ⟨g, rfl⟩ : ∃ g, f = g + 1 := ⟨f - 1, by unfold need at hf; omega⟩
 obtain ⟨cs, s, fu⟩ := st'
 have hss1 := hs'.s1
 have hss2 := hs'.s2
 have hsc := hs'.c
 dsimp only at hlen hss1 hss2 hsc hf hrun ⊢
 have hput := fun (z : Cell) (fu : Bool) => sput_fn (M := M) (D := D) (S := S) (cs := cs) (s := s) (i := i) (f := fu) (c := z) (by omega) (by omega)
 rw [hlen] at hput
 by_cases h1 : o.1 ≤ P.m
 ·
  rw [fit_le h1] at hrun
  have hrun2 : (fitD P i F st c).run L p = some ((cs.set i (putS o), s, fu), q) := hrun
  rw [hrun2] at hQ
  have hp2 := hput o fu
  refine runW ?_
  refine callW [some 0, some 2] [] (hp2) ?_
  refine runW ?_
  exact endW [some 0, some 1, some 2] (hQ ((cs.set i (putS o), s, fu), 0, q, d) rfl)
 ·
  by_cases h2 : o.2 < P.d
  ·
   rw [fit_up h1 h2] at hrun
   have hup := sup_fn (M := M) (D := D) (S := S) (n := n) (cs := cs) (s := s) (p := q) (f := fu) (d := d) (L := L) (c := o) hL hq hdq (by omega) (by omega) (by omega)
   dsimp only at hrun
   cases h3 : (rndD o.1 s).run L q with
   | none =>
    rw [h3] at hrun
    dsimp only at hrun
    rw [outN_none h3] at hup
    rw [hrun] at hQ
    refine runW ?_
    refine callW [some 0, some 1, some 2] [] (hup) ?_
    refine runW ?_
    exact endW [some 0, some 1, some 2] (hQ ((cs, s, fu), 8, L.length, true) rfl)
   | some r =>
    obtain ⟨n1, q1⟩ := r
    rw [h3] at hrun
    dsimp only at hrun
    have hnx := dead_next hq hdq h3
    have hnl := rnd_le h3
    have hdv : o.1 / 2 ^ s ≤ o.1 / 2 := div_pow_le hss1
    rw [outN_some h3] at hup
    refine runW ?_
    refine callW [some 0, some 1, some 2] [] (hup) ?_
    refine runW ?_
    refine nextW (g, (cs, s, fu), (n1, o.2 + 1), q1) [some 0, some 1, some 2, some 3] ⟨hlen, hnx.1, hnx.2, hs', by dsimp only; omega, by dsimp only; omega, by dsimp only; unfold need at hf ⊢; omega, hrun⟩ (by dsimp only; omega)
  ·
   by_cases h3 : s < P.s
   ·
    rw [fit_re h1 h2 h3] at hrun
    have hr := hre cs s q fu o hq hdq (by omega) (by omega) hsc ⟨ho1, by omega⟩
    rw [hlen] at hr
    have hall := rsD_all hpw.toPB hss1 (i : Int) cs 0 o hsc (fun _ => ⟨ho2, by omega⟩)
    have hlen2 := (mean_rs P s (i : Int) cs 0 o).2.2.2
    dsimp only at hrun
    refine runW ?_
    refine callR [some 0, some 1, some 2] [] (hr) ?_
    rintro ⟨⟨Y, o'⟩, e, q', d'⟩ hx
    unfold outR at hx
    cases h4 : (rsD P s (i : Int) cs 0 o).run L q with
    | none =>
     rw [h4] at hx hrun
     dsimp only at hx hrun
     rw [hrun] at hQ
     simp only [Prod.mk.injEq] at hx
     obtain ⟨rfl, rfl, rfl⟩ := hx
     refine runW ?_
     exact endW [some 0, some 1, some 2] (hQ ((Y, s + 1, fu), 8, L.length, true) rfl)
    | some r =>
     obtain ⟨⟨Y1, o1⟩, q1⟩ := r
     rw [h4] at hx hrun
     dsimp only at hx hrun
     simp only [Prod.mk.injEq] at hx
     obtain ⟨⟨rfl, rfl⟩, rfl, rfl, rfl⟩ := hx
     have hnx := dead_next hq hdq h4
     obtain ⟨a1, a2⟩ := all_run hall h4
     have a3 := all_run hlen2 h4
     have a4 := a2 (by omega)
     dsimp only at a1 a3 a4
     have hnd : need P (s + 1) o'.2 ≤ g := by
      unfold need at hf ⊢
      have : (P.s - s) * (P.d + 2) = (P.s - (s + 1)) * (P.d + 2) + (P.d + 2) := by
       rw [show P.s - s = P.s - (s + 1) + 1 by omega, Nat.add_mul, Nat.one_mul]
      omega
     refine runW ?_
     refine nextW (g, (Y, s + 1, fu), o', q') [some 0, some 1, some 2, some 3] ⟨by dsimp only; omega, hnx.1, hnx.2, ⟨a1, by dsimp only; omega, by dsimp only; omega, fun h => by have := hs'.f h; dsimp only at this; omega⟩, by dsimp only; omega, a4.1, hnd, hrun⟩ (by dsimp only; omega)
   ·
    rw [fit_full h1 h2 h3] at hrun
    have hrun2 : (fitD P i F st c).run L p = some ((cs.set i (putS (P.m, o.2)), s, true), q) := hrun
    rw [hrun2] at hQ
    have hp2 := hput (P.m, o.2) true
    refine runW ?_
    refine callW [some 0, some 2] [] (hp2) ?_
    refine runW ?_
    exact endW [some 0, some 1, some 2] (hQ ((cs.set i (putS (P.m, o.2)), s, true), 0, q, d) rfl)
end Go.Proofs.YtpkfddfkacijoaaGreatDoor

namespace Go.Proofs.YtpkfddfkacijoaaGreatDoor
open Go.Eng Go.Vx
set_option linter.unusedSimpArgs false
set_option linter.unusedVariables false
set_option maxRecDepth 100000
theorem scloneC_fn {X : List Cell} (hX : X.length ≤ 256) (h : X ≠ []) : Fn1 Tryz.prog 99 [.row 2 (X.map cV)] [] (.sl 0 2 0 X.length) [some (.row 2 (X.map cV))] := by
 refine fn1N_of pl99 (by kernel_rfl) Tryz.call99 Tryz.func99 rfl (by kernel_rfl) rfl [.tmp 2] (by kernel_rfl) fun Q hQ => ?_
 have he : (X.map cV).isEmpty = false := by simp [h]
 simp (maxSteps := 1000000) (disch := (first | omega | (simp only [lnA, List.length_map, List.length_range, true_and, and_true]; (try omega); done) | fail)) only [go_sem, he, Int.reduceEq, Int.reduceToNat, Nat.reduceAdd, Nat.reduceMul, Nat.reduceEqDiff, ↓reduceIte]
 exact endW [some 1] hQ
theorem sclone_fn {M D S : Nat} {st : SS} (hX : st.1.length ≤ 256) (h : st.1 ≠ []) : Fn1 Tryz.prog 62 [saP M D S st] [] (.ref 0 0 0 0) [some (saO M D S 1 st.1.length st.2.1 st.2.2), some (.row 2 (st.1.map cV))] := by
 have hc := scloneC_fn hX h
 refine fn1N_of pl62 (by kernel_rfl) Tryz.call62 Tryz.func62 rfl (by kernel_rfl) rfl [.tmp 2] (by kernel_rfl) fun Q hQ => ?_
 refine runW ?_
 refine callF (hc) ?_
 refine runW ?_
 exact endW [some 0, some 1] hQ
def addR (M D S : Nat) (L : List Bool) (d : Bool) (st : SS) (i n p : Nat) : SS × Int × Nat × Bool := outG st L d ((addD (SPof M D S) st i n).run L p)
theorem addD_run {P : SP} {L : List Bool} {st : SS} {i n p : Nat} : (addD P st i n).run L p = match (rndD n (st.2.1 * (st.1.getD i (0, 0)).2)).run L p with | some (b, q) => (fitD P i (fuelF P st.2.1 (st.1.getD i (0, 0)).2) st ((st.1.getD i (0, 0)).1 + b, (st.1.getD i (0, 0)).2)).run L q | none => none := by
 unfold addD
 rw [run_bind]
 cases (rndD n (st.2.1 * (st.1.getD i (0, 0)).2)).run L p with
 | none => rfl
 | some x => rfl
set_option maxHeartbeats 4000000 in
theorem sadd_fn {M D S p i n : Nat} {st : SS} {d : Bool} {L : List Bool} (hw : WB M D S) (hL : L.length ≤ 1048576) (hp : p ≤ L.length) (hd : d = true → p = L.length) (hX : st.1.length ≤ 256) (hi : i < st.1.length)
  (hs : SOk (SPof M D S) st) (hn : n ≤ 1048576) :
  Fn1 Tryz.prog 57 [.ref 0 0 0 0, .ref 1 0 0 0, .lit (.int .i64 (i : Int)), .lit (.int .i64 (n : Int))] [some (saC M D S st), some (tpC L p d)]
  (.lit (.int .i64 (addR M D S L d st i n p).2.1)) [some (saC M D S (addR M D S L d st i n p).1), some (tpC L (addR M D S L d st i n p).2.2.1 (addR M D S L d st i n p).2.2.2)] := by
 have hpw := hw.pw
 have hd3 := hpw.d3
 have hm255 := hpw.m255
 have hs4 := hpw.s4
 have hne : st.1 ≠ [] := by intro e; rw [e] at hi; exact absurd hi (by simp)
 have hgi : st.1[i]? = some (st.1.getD i (0, 0)) := by rw [List.getD_eq_getElem?_getD, List.getElem?_eq_getElem hi]; rfl
 have hok := getD_ok hs.c i
 have g := sget_fn (M := M) (D := D) (S := S) hgi hX
 have hcl := sclone_fn (M := M) (D := D) (S := S) hX hne
 have hfit := fun (p' : Nat) (c : Cell) (h1 : p' ≤ L.length) (h2 : d = true → p' = L.length) (h3 : c.1 ≤ 16777216) (h4 : c.2 ≤ (SPof M D S).d) => sfit_fn (F := fuelF (SPof M D S) st.2.1 c.2) hw hL h1 h2 hX hi hs h3 h4 (need_le _ _ _)
 unfold addR at hcl ⊢
 rw [addD_run]
 have hss2 := hs.s2
 generalize hP : SPof M D S = P at *
 obtain ⟨cs, s, fu⟩ := st
 dsimp only at hX hi hgi hok g hcl hfit hss2 ⊢
 generalize hc0 : cs.getD i (0, 0) = c0 at *
 obtain ⟨hk1, hk2, -⟩ := hok
 have hsm := sm_le (s := s) (m := c0.2) (by omega) (by omega)
 have o := of1_fn (x := n) (by omega)
 have e : (s : Int) * (c0.2 : Int) = ((s * c0.2 : Nat) : Int) := by simp
 have r := sround_fn (L := L) (n := n) (k := s * c0.2) (p := p) (d := d) hL hp hd (by omega) (by omega)
 cases h1 : (rndD n (s * c0.2)).run L p with
 | none =>
  rw [outN_none h1] at r
  dsimp only [outG]
  generalize s * c0.2 = k at *
  refine fn1N_of pl57 (by kernel_rfl) Tryz.call57 Tryz.func57 rfl (by kernel_rfl) rfl [.tmp 8] (by kernel_rfl) fun Q hQ => ?_
  refine runW ?_
  refine callT (g) ?_
  simp (maxSteps := 1000000) (disch := (first | omega | (simp only [lnA, List.length_map, List.length_range, true_and, and_true]; (try omega); done) | fail)) only [go_sem, e, Int.reduceEq, Int.reduceToNat, Nat.reduceAdd, Nat.reduceMul, Nat.reduceEqDiff, ↓reduceIte]
  refine callW [] [3] (o) ?_
  simp (maxSteps := 1000000) (disch := (first | omega | (simp only [lnA, List.length_map, List.length_range, true_and, and_true]; (try omega); done) | fail)) only [go_sem, e, Int.reduceEq, Int.reduceToNat, Nat.reduceAdd, Nat.reduceMul, Nat.reduceEqDiff, ↓reduceIte]
  refine callW [some 1] [] (r) ?_
  refine runW ?_
  exact endW [some 0, some 1] hQ
 | some rr =>
  obtain ⟨b, q⟩ := rr
  have hnx := dead_next hp hd h1
  have hnl := rnd_le h1
  have hf := hfit q (c0.1 + b, c0.2) hnx.1 hnx.2 (by dsimp only; omega) hk2
  dsimp only at hf ⊢
  rw [outN_some h1] at r
  generalize s * c0.2 = k at *
  refine fn1N_of pl57 (by kernel_rfl) Tryz.call57 Tryz.func57 rfl (by kernel_rfl) rfl [.tmp 8] (by kernel_rfl) fun Q hQ => ?_
  refine runW ?_
  refine callT (g) ?_
  simp (maxSteps := 1000000) (disch := (first | omega | (simp only [lnA, List.length_map, List.length_range, true_and, and_true]; (try omega); done) | fail)) only [go_sem, e, Int.reduceEq, Int.reduceToNat, Nat.reduceAdd, Nat.reduceMul, Nat.reduceEqDiff, ↓reduceIte]
  refine callW [] [3] (o) ?_
  simp (maxSteps := 1000000) (disch := (first | omega | (simp only [lnA, List.length_map, List.length_range, true_and, and_true]; (try omega); done) | fail)) only [go_sem, e, Int.reduceEq, Int.reduceToNat, Nat.reduceAdd, Nat.reduceMul, Nat.reduceEqDiff, ↓reduceIte]
  refine callW [some 1] [] (r) ?_
  refine runW ?_
  refine callF (hcl) ?_
  refine runW ?_
  refine callR [some 4, some 1, some 5] [] (hf) ?_
  rintro ⟨⟨Y, s', fu'⟩, e', q', d'⟩ hx
  unfold outR at hx
  cases h4 : (fitD P i (fuelF P s c0.2) (cs, s, fu) (c0.1 + b, c0.2)).run L q with
  | none =>
   rw [h4] at hx hQ
   dsimp only [outG] at hx hQ
   simp only [Prod.mk.injEq] at hx
   obtain ⟨rfl, rfl, rfl⟩ := hx
   refine runW ?_
   exact endW [some 0, some 1] hQ
  | some r =>
   obtain ⟨⟨Y1, s1, fu1⟩, q1⟩ := r
   have hln := (all_run (len_fit P i _ (cs, s, fu) (c0.1 + b, c0.2)) h4).1
   dsimp only at hln
   rw [h4] at hx hQ
   dsimp only [outG] at hx hQ
   simp only [Prod.mk.injEq] at hx
   obtain ⟨⟨rfl, rfl, rfl⟩, rfl, rfl, rfl⟩ := hx
   refine runW ?_
   exact endW [some 0, some 1] hQ
end Go.Proofs.YtpkfddfkacijoaaGreatDoor
