import Derived.Test.YtpkfddfkacijoaaSl
namespace Go.Proofs.Ytpkfddfkacijoaa
open Go.Eng Go.Vx
set_option linter.unusedSimpArgs false
set_option linter.unusedVariables false
set_option maxRecDepth 100000
theorem scloneC_fn {X : List Cell} (hX : X.length ≤ 256) (h : X ≠ []) : Fn1 Try.prog 56 [.row 2 (X.map cV)] [] (.sl 0 2 0 X.length) [some (.row 2 (X.map cV))] := by
  refine fn1N_of pl56 (by kernel_rfl) Try.call56 Try.func56 rfl (by kernel_rfl) rfl [.tmp 2] (by kernel_rfl) fun Q hQ => ?_
  have he : (X.map cV).isEmpty = false := by simp [h]
  simp (maxSteps := 1000000) (disch := (first | omega | (simp only [lnA, List.length_map, List.length_range, true_and, and_true]; (try omega); done) | fail)) only [go_sem, he, Int.reduceEq, Int.reduceToNat, Nat.reduceAdd, Nat.reduceMul, Nat.reduceEqDiff, ↓reduceIte]
  exact endW [some 1] hQ
theorem sclone_fn {M D S : Nat} {st : SS} (hX : st.1.length ≤ 256) (h : st.1 ≠ []) : Fn1 Try.prog 24 [saP M D S st] [] (.ref 0 0 0 0) [some (saO M D S 1 st.1.length st.2.1 st.2.2), some (.row 2 (st.1.map cV))] := by
  have hc := scloneC_fn hX h
  refine fn1N_of pl24 (by kernel_rfl) Try.call24 Try.func24 rfl (by kernel_rfl) rfl [.tmp 2] (by kernel_rfl) fun Q hQ => ?_
  refine runW ?_
  refine callF (hc) ?_
  refine runW ?_
  exact endW [some 0, some 1] hQ
def addR (M D S : Nat) (L : List Bool) (d : Bool) (st : SS) (i n p : Nat) : SS × Int × Nat × Bool := outG st L d ((addD (SPof M D S) st i n).run L p)
theorem addD_run {P : SP} {L : List Bool} {st : SS} {i n p : Nat} : (addD P st i n).run L p = match (rndD n (st.2.1 * (st.1.getD i (0, 0)).2)).run L p with | some (b, q) => (fitD P i (fuelF P st.2.1 (st.1.getD i (0, 0)).2) st ((st.1.getD i (0, 0)).1 + b, (st.1.getD i (0, 0)).2)).run L q | none => none := by
  unfold addD
  rw [run_bind]
  cases (rndD n (st.2.1 * (st.1.getD i (0, 0)).2)).run L p with
  | none => rfl
  | some x => rfl
set_option maxHeartbeats 4000000 in
theorem sadd_fn {M D S p i n : Nat} {st : SS} {d : Bool} {L : List Bool} (hw : WB M D S) (hL : L.length ≤ 1048576) (hp : p ≤ L.length) (hd : d = true → p = L.length) (hX : st.1.length ≤ 256) (hi : i < st.1.length)
    (hs : SOk (SPof M D S) st) (hn : n ≤ 1048576) :
    Fn1 Try.prog 20 [.ref 0 0 0 0, .ref 1 0 0 0, .lit (.int .i64 (i : Int)), .lit (.int .i64 (n : Int))] [some (saC M D S st), some (tpC L p d)]
    (.lit (.int .i64 (addR M D S L d st i n p).2.1)) [some (saC M D S (addR M D S L d st i n p).1), some (tpC L (addR M D S L d st i n p).2.2.1 (addR M D S L d st i n p).2.2.2)] := by
  have hpw := hw.pw
  have hd3 := hpw.d3
  have hm255 := hpw.m255
  have hs4 := hpw.s4
  have hne : st.1 ≠ [] := by intro e; rw [e] at hi; exact absurd hi (by simp)
  have hgi : st.1[i]? = some (st.1.getD i (0, 0)) := by rw [List.getD_eq_getElem?_getD, List.getElem?_eq_getElem hi]; rfl
  have hok := getD_ok hs.c i
  have g := sget_fn (M := M) (D := D) (S := S) hgi hX
  have hcl := sclone_fn (M := M) (D := D) (S := S) hX hne
  have hfit := fun (p' : Nat) (c : Cell) (h1 : p' ≤ L.length) (h2 : d = true → p' = L.length) (h3 : c.1 ≤ 16777216) (h4 : c.2 ≤ (SPof M D S).d) => sfit_fn (F := fuelF (SPof M D S) st.2.1 c.2) hw hL h1 h2 hX hi hs h3 h4 (need_le _ _ _)
  unfold addR at hcl ⊢
  rw [addD_run]
  have hss2 := hs.s2
  generalize hP : SPof M D S = P at *
  obtain ⟨cs, s, fu⟩ := st
  dsimp only at hX hi hgi hok g hcl hfit hss2 ⊢
  generalize hc0 : cs.getD i (0, 0) = c0 at *
  obtain ⟨hk1, hk2, -⟩ := hok
  have hsm := sm_le (s := s) (m := c0.2) (by omega) (by omega)
  have o := of1_fn (x := n) (by omega)
  have e : (s : Int) * (c0.2 : Int) = ((s * c0.2 : Nat) : Int) := by simp
  have r := sround_fn (L := L) (n := n) (k := s * c0.2) (p := p) (d := d) hL hp hd (by omega) (by omega)
  cases h1 : (rndD n (s * c0.2)).run L p with
  | none =>
    rw [outN_none h1] at r
    dsimp only [outG]
    generalize s * c0.2 = k at *
    refine fn1N_of pl20 (by kernel_rfl) Try.call20 Try.func20 rfl (by kernel_rfl) rfl [.tmp 8] (by kernel_rfl) fun Q hQ => ?_
    refine runW ?_
    refine callT (g) ?_
    simp (maxSteps := 1000000) (disch := (first | omega | (simp only [lnA, List.length_map, List.length_range, true_and, and_true]; (try omega); done) | fail)) only [go_sem, e, Int.reduceEq, Int.reduceToNat, Nat.reduceAdd, Nat.reduceMul, Nat.reduceEqDiff, ↓reduceIte]
    refine callW [] [3] (o) ?_
    simp (maxSteps := 1000000) (disch := (first | omega | (simp only [lnA, List.length_map, List.length_range, true_and, and_true]; (try omega); done) | fail)) only [go_sem, e, Int.reduceEq, Int.reduceToNat, Nat.reduceAdd, Nat.reduceMul, Nat.reduceEqDiff, ↓reduceIte]
    refine callW [some 1] [] (r) ?_
    refine runW ?_
    exact endW [some 0, some 1] hQ
  | some rr =>
    obtain ⟨b, q⟩ := rr
    have hnx := dead_next hp hd h1
    have hnl := rnd_le h1
    have hf := hfit q (c0.1 + b, c0.2) hnx.1 hnx.2 (by dsimp only; omega) hk2
    dsimp only at hf ⊢
    rw [outN_some h1] at r
    generalize s * c0.2 = k at *
    refine fn1N_of pl20 (by kernel_rfl) Try.call20 Try.func20 rfl (by kernel_rfl) rfl [.tmp 8] (by kernel_rfl) fun Q hQ => ?_
    refine runW ?_
    refine callT (g) ?_
    simp (maxSteps := 1000000) (disch := (first | omega | (simp only [lnA, List.length_map, List.length_range, true_and, and_true]; (try omega); done) | fail)) only [go_sem, e, Int.reduceEq, Int.reduceToNat, Nat.reduceAdd, Nat.reduceMul, Nat.reduceEqDiff, ↓reduceIte]
    refine callW [] [3] (o) ?_
    simp (maxSteps := 1000000) (disch := (first | omega | (simp only [lnA, List.length_map, List.length_range, true_and, and_true]; (try omega); done) | fail)) only [go_sem, e, Int.reduceEq, Int.reduceToNat, Nat.reduceAdd, Nat.reduceMul, Nat.reduceEqDiff, ↓reduceIte]
    refine callW [some 1] [] (r) ?_
    refine runW ?_
    refine callF (hcl) ?_
    refine runW ?_
    refine callR [some 4, some 1, some 5] [] (hf) ?_
    rintro ⟨⟨Y, s', fu'⟩, e', q', d'⟩ hx
    unfold outR at hx
    cases h4 : (fitD P i (fuelF P s c0.2) (cs, s, fu) (c0.1 + b, c0.2)).run L q with
    | none =>
      rw [h4] at hx hQ
      dsimp only [outG] at hx hQ
      simp only [Prod.mk.injEq] at hx
      obtain ⟨rfl, rfl, rfl⟩ := hx
      refine runW ?_
      exact endW [some 0, some 1] hQ
    | some r =>
      obtain ⟨⟨Y1, s1, fu1⟩, q1⟩ := r
      have hln := (all_run (len_fit P i _ (cs, s, fu) (c0.1 + b, c0.2)) h4).1
      dsimp only at hln
      rw [h4] at hx hQ
      dsimp only [outG] at hx hQ
      simp only [Prod.mk.injEq] at hx
      obtain ⟨⟨rfl, rfl, rfl⟩, rfl, rfl, rfl⟩ := hx
      refine runW ?_
      exact endW [some 0, some 1] hQ
end Go.Proofs.Ytpkfddfkacijoaa
