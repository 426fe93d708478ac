import Derived.Test.YtdmdmdoeahhkiaaGreatDoorSo
namespace Go.Proofs.YtdmdmdoeahhkiaaGreatDoor
open Go.Eng Go.Vx
set_option linter.unusedSimpArgs false
set_option linter.unusedVariables false
set_option maxRecDepth 100000
theorem takeC_succ {α : Type} [Inhabited α] {A B : List α} {i : Nat} (ha : i < A.length) (hb : i < B.length) : A.take (i + 1) = B.take (i + 1) ↔ A.take i = B.take i ∧ A.getD i default = B.getD i default := by
  rw [List.take_succ_eq_append_getElem ha, List.take_succ_eq_append_getElem hb]
  have e1 : A.getD i default = A[i] := by rw [List.getD_eq_getElem?_getD, List.getElem?_eq_getElem ha]; rfl
  have e2 : B.getD i default = B[i] := by rw [List.getD_eq_getElem?_getD, List.getElem?_eq_getElem hb]; rfl
  rw [e1, e2]
  constructor
  · intro h
    have := List.append_inj h (by rw [List.length_take, List.length_take]; omega)
    exact ⟨this.1, by simpa using this.2⟩
  · rintro ⟨h1, h2⟩
    rw [h1, h2]
theorem equalC_fn {A B : List Cell} (hA : A.length ≤ 1000000) (hB : B.length ≤ 1000000) : Fn1 Tryz.prog 102 [.row 2 (A.map cV), .row 2 (B.map cV)] [] (.lit (.bool (decide (A = B)))) [] := by
  refine fn1N_of pl102 (by kernel_rfl) Tryz.call102 Tryz.func102 rfl (by kernel_rfl) rfl [.tmp 4] (by kernel_rfl) fun Q hQ => ?_
  by_cases hl : A.length = B.length
  · refine runW ?_
    refine loopW (X := Nat) (st := fun i => ([(0, .row 2 (A.map cV)), (1, .row 2 (B.map cV)), (12, .lit (.int .i64 (A.length : Int))), (13, .lit (.int .i64 (i : Int)))], []))
      (inv := fun i => i ≤ A.length ∧ A.take i = B.take i) (m := fun i => A.length - i) 0 [] ⟨by omega, by simp⟩ ?_
    rintro i ⟨hi, ht⟩
    by_cases h : i < A.length
    · have hs := takeC_succ h (show i < B.length by omega)
      have hne : A.getD i default ≠ B.getD i default → ¬ A = B := fun h e => h (by rw [e])
      obtain ⟨⟨a1, a2⟩, ea⟩ : ∃ a, A.getD i default = a := ⟨_, rfl⟩
      obtain ⟨⟨b1, b2⟩, eb⟩ : ∃ b, B.getD i default = b := ⟨_, rfl⟩
      rw [ea, eb] at hs hne
      by_cases e1 : a1 = b1
      · by_cases e2 : a2 = b2
        · have hs' := hs.2 ⟨ht, by rw [e1, e2]⟩
          subst e1 e2
          simp (maxSteps := 1000000) (disch := (first | omega | (simp only [lnA, List.length_map, List.length_range, true_and, and_true]; (try omega); done) | fail)) only [go_sem, ea, eb, Int.reduceEq, Int.reduceToNat, Nat.reduceAdd, Nat.reduceMul, Nat.reduceEqDiff, ↓reduceIte]
          refine nextW (i + 1) [] ⟨by omega, hs'⟩ (by omega)
        · rw [decide_eq_false (hne (fun e => e2 (by injection e)))] at hQ
          have e2' : ¬ (a2 : Int) = (b2 : Int) := by omega
          subst e1
          simp (maxSteps := 1000000) (disch := (first | omega | (simp only [lnA, List.length_map, List.length_range, true_and, and_true]; (try omega); done) | fail)) only [go_sem, ea, eb, decide_eq_false e2', Int.reduceEq, Int.reduceToNat, Nat.reduceAdd, Nat.reduceMul, Nat.reduceEqDiff, ↓reduceIte]
          exact endW [] hQ
      · rw [decide_eq_false (hne (fun e => e1 (by injection e)))] at hQ
        have e1' : ¬ (a1 : Int) = (b1 : Int) := by omega
        simp (maxSteps := 1000000) (disch := (first | omega | (simp only [lnA, List.length_map, List.length_range, true_and, and_true]; (try omega); done) | fail)) only [go_sem, ea, eb, decide_eq_false e1', Bool.false_and, Int.reduceEq, Int.reduceToNat, Nat.reduceAdd, Nat.reduceMul, Nat.reduceEqDiff, ↓reduceIte]
        exact endW [] hQ
    · obtain rfl : i = A.length := by omega
      rw [List.take_length, hl, List.take_length] at ht
      rw [decide_eq_true ht] at hQ
      refine runW ?_
      exact endW [] hQ
  · rw [decide_eq_false (fun e => hl (by rw [e]))] at hQ
    refine runW ?_
    exact endW [] hQ
theorem ssame_fn {M D S : Nat} {x : SS} (hx : x.1.length ≤ 256) : Fn1 Tryz.prog 45 [saP M D S x, saP M D S x] [] (.lit (.bool true)) [] := by
  have q := equalC_fn (A := x.1) (B := x.1) (by omega) (by omega)
  rw [decide_eq_true rfl] at q
  refine fn1N_of pl45 (by kernel_rfl) Tryz.call45 Tryz.func45 rfl (by kernel_rfl) rfl [.tmp 4] (by kernel_rfl) fun Q hQ => ?_
  simp (maxSteps := 1000000) (disch := (first | omega | (simp only [lnA, List.length_map, List.length_range, true_and, and_true]; (try omega); done) | fail)) only [go_sem, eq_self, decide_true, beq_self_eq_true, Int.reduceEq, Int.reduceToNat, Nat.reduceAdd, Nat.reduceMul, Nat.reduceEqDiff, ↓reduceIte]
  refine callV0 (q) rfl rfl ?_
  refine runW ?_
  exact endW [] hQ
set_option maxHeartbeats 4000000 in
theorem is19_fn {M D S p : Nat} {st : SS} {L : List Bool} {e : Int} (hw : WB M D S) (hX : st.1.length ≤ 256) (hs : ∀ c ∈ st.1, COk (SPof M D S) c) (hs1 : 1 ≤ st.2.1) (hs2 : st.2.1 ≤ S) :
    Fn1 Tryz.prog 44 [saP M D S st, rsV M D S st L p e] [] (.lit (.bool true)) [] := by
  have hpw := hw.pw
  have hm255 := hpw.m255
  have hd3 := hpw.d3
  have hS4 := hw.s4
  have g1 := sgetE_fn (M := M) (D := D) (S := S) (st := st) (i := -1) (.inl (by omega)) hX
  have v1 := svalueE_fn (M := M) (D := D) (S := S) (st := st) (i := (st.1.length : Int)) (.inr (by omega)) hX
  have t1 := sscale_fn (M := M) (D := D) (S := S) (st := st)
  have t2 := sfull_fn (M := M) (D := D) (S := S) (st := st)
  have t3 := slen_fn (M := M) (D := D) (S := S) (st := st) hX
  rw [NV_zero] at v1
  have hcc := fun (i : Nat) (hi : i < st.1.length) => hs _ (List.getElem_mem hi)
  refine fn1N_of pl44 (by kernel_rfl) Tryz.call44 Tryz.func44 rfl (by kernel_rfl) rfl [.tmp 4] (by kernel_rfl) fun Q hQ => ?_
  refine runW ?_
  refine loopW (X := Nat) (st := fun i => ([(0, saP M D S st), (3, .ref 0 0 0 0), (16, .row 2 (st.1.map cV)), (17, .lit (.int .i64 (st.1.length : Int))), (18, .lit (.int .i64 (i : Int)))], [some (.cells (rsC M D S st L p e))]))
    (inv := fun i => i ≤ st.1.length) (m := fun i => st.1.length - i) 0 [some 0] (Nat.zero_le _) ?_
  intro i hi
  by_cases h : i < st.1.length
  · obtain ⟨c, hc⟩ : ∃ c, st.1[i]? = some c := ⟨_, List.getElem?_eq_getElem h⟩
    have hg : st.1.getD i default = c := by rw [List.getD_eq_getElem?_getD, hc]; rfl
    have hok : COk (SPof M D S) c := by
      have := hcc i h
      rw [List.getElem?_eq_getElem h] at hc
      injection hc with hc
      rw [← hc]
      exact this
    obtain ⟨c1, c2, -⟩ := hok
    have hsm := sm_le (s := st.2.1) (m := c.2) (by omega) (by omega)
    have hwl := wth_le (c := c) (s := st.2.1) (A := 255) (by omega) (by omega) (by omega)
    have g := sget_fn (M := M) (D := D) (S := S) hc hX
    have v := svalue_fn (M := M) (D := D) (S := S) hc hX (by omega) (by omega)
    have rw' := rworth_fn (c := c) (s := st.2.1) (by omega) (by omega) (by omega)
    have hwg : (wg (wth c st.2.1)).length ≤ 4000000 := Nat.le_trans (wg_one (by omega)) (by decide)
    have cm := ncmp_fn hwg hwg
    rw [show cmpI (wth c st.2.1) (wth c st.2.1) = 0 by unfold cmpI; simp] at cm
    have o := of1_fn (x := wth c st.2.1) (by omega)
    generalize wth c st.2.1 = wv at *
    simp (maxSteps := 1000000) (disch := (first | omega | (simp only [lnA, List.length_map, List.length_range, true_and, and_true]; (try omega); done) | fail)) only [go_sem, hg, Int.reduceEq, Int.reduceToNat, Nat.reduceAdd, Nat.reduceMul, Nat.reduceEqDiff, ↓reduceIte]
    refine callV0 (g) rfl rfl ?_
    refine runW ?_
    refine callV0 (v) rfl rfl ?_
    simp (maxSteps := 1000000) (disch := (first | omega | (simp only [lnA, List.length_map, List.length_range, true_and, and_true]; (try omega); done) | fail)) only [go_sem, eq_self, decide_true, Int.reduceEq, Int.reduceToNat, Nat.reduceAdd, Nat.reduceMul, Nat.reduceEqDiff, ↓reduceIte]
    refine callV0 (rw') rfl rfl ?_
    refine runW ?_
    refine callW [] [4] (o) ?_
    refine runW ?_
    refine callV0 (cm) rfl rfl ?_
    refine runW ?_
    refine nextW (i + 1) [some 0] (by omega) (by omega)
  · obtain rfl : i = st.1.length := by omega
    refine runW ?_
    refine callV0 (g1) rfl rfl ?_
    refine runW ?_
    refine callV0 (v1) rfl rfl ?_
    refine runW ?_
    refine callV0 (t3) rfl rfl ?_
    simp (maxSteps := 1000000) (disch := (first | omega | (simp only [lnA, List.length_map, List.length_range, true_and, and_true]; (try omega); done) | fail)) only [go_sem, eq_self, decide_true, Int.reduceEq, Int.reduceToNat, Nat.reduceAdd, Nat.reduceMul, Nat.reduceEqDiff, ↓reduceIte]
    refine callV0 (t1) rfl rfl ?_
    simp (maxSteps := 1000000) (disch := (first | omega | (simp only [lnA, List.length_map, List.length_range, true_and, and_true]; (try omega); done) | fail)) only [go_sem, eq_self, decide_true, Int.reduceEq, Int.reduceToNat, Nat.reduceAdd, Nat.reduceMul, Nat.reduceEqDiff, ↓reduceIte]
    refine callV0 (t2) rfl rfl ?_
    simp (maxSteps := 1000000) (disch := (first | omega | (simp only [lnA, List.length_map, List.length_range, true_and, and_true]; (try omega); done) | fail)) only [go_sem, eq_self, decide_true, beq_self_eq_true, Int.reduceEq, Int.reduceToNat, Nat.reduceAdd, Nat.reduceMul, Nat.reduceEqDiff, ↓reduceIte]
    exact endW [] hQ
end Go.Proofs.YtdmdmdoeahhkiaaGreatDoor
