import Derived.Test.YtpkfddfkacijoaaGreatDoorSx
import Derived.Test.YtpkfddfkacijoaaGreatDoorSn
namespace Go.Proofs.YtpkfddfkacijoaaGreatDoor
open Go.Eng Go.Vx
set_option linter.unusedSimpArgs false
set_option linter.unusedVariables false
set_option maxRecDepth 100000
theorem radd19_fn {M D S p i n : Nat} {st : SS} {L : List Bool} (hw : WB M D S) (hL : L.length ≤ 1048576) (hp : p ≤ L.length) (hX : st.1.length ≤ 256) (hi : i < st.1.length) (hs : SOk (SPof M D S) st) (hn : n ≤ 1048576) :
  Fn1 Tryz.prog 63 [rsV M D S st L p 0, .lit (.int .i64 (i : Int)), .lit (.int .i64 (n : Int))] []
  (rsV M D S (adR (SPof M D S) L st i n p).1 L (adR (SPof M D S) L st i n p).2.1 (adR (SPof M D S) L st i n p).2.2) [] := by
 have hpw := hw.pw
 have hm255 := hpw.m255
 have hd3 := hpw.d3
 have hPs : (SPof M D S).s = S := rfl
 have hS4 := hw.s4
 have hc := getD_ok hs.c i
 have hs2 := hs.s2
 obtain ⟨cs, s, fu⟩ := st
 dsimp only at hX hi hc hs2
 have hg0 : cs.getD i default = cs.getD i (0, 0) := by rw [List.getD_eq_getElem?_getD, List.getD_eq_getElem?_getD, List.getElem?_eq_getElem hi]; rfl
 unfold adR
 dsimp only
 generalize hcc : cs.getD i (0, 0) = c at hc ⊢
 have hg1 := hg0.trans hcc
 clear hg0
 obtain ⟨c1, c2, c3⟩ := hc
 have hsm := sm_le (s := s) (m := c.2) (by omega) (by omega)
 have e : (s : Int) * (c.2 : Int) = ((s * c.2 : Nat) : Int) := by simp
 have rr := rround_fn (M := M) (D := D) (S := S) (st := (cs, s, fu)) (L := L) (p := p) (n := n) (k := s * c.2) (e := 0) hL hp (by omega) (by omega)
 have hrq := rnR_q (L := L) (n := n) (k := s * c.2) (p := p) (e := 0) hp
 have hrl := (rnR_le (L := L) (n := n) (k := s * c.2) (p := p) (e := 0)).2
 generalize rnR L n (s * c.2) p 0 = x at *
 obtain ⟨x1, x2, x3⟩ := x
 dsimp only at rr hrq hrl
 have ft := rfit_fn (M := M) (D := D) (S := S) (st0 := (cs, s, fu)) (c0 := (c.1 + x1, c.2)) (p0 := x2) (e0 := x3) (i := i) (F := fuelF (SPof M D S) s c.2) hw hL hrq.1 hX hi (hs.g hpw) ⟨by dsimp only; omega, c2⟩ (fun _ => need_le _ _ _)
 generalize ftR (SPof M D S) L i (fuelF (SPof M D S) s c.2 + 1) (cs, s, fu) (c.1 + x1, c.2) x2 x3 = y at *
 generalize s * c.2 = k at *
 refine fn1N_of pl63 (by kernel_rfl) Tryz.call63 Tryz.func63 rfl (by kernel_rfl) rfl [.cell 6 66] (by kernel_rfl) fun Q hQ => ?_
 simp (maxSteps := 1000000) (disch := (first | omega | (simp only [lnA, List.length_map, List.length_range, true_and, and_true]; (try omega); done) | fail)) only [go_sem, hg1, e, Int.reduceEq, Int.reduceToNat, Nat.reduceAdd, Nat.reduceMul, Nat.reduceEqDiff, ↓reduceIte]
 refine callV0 (rr) rfl rfl ?_
 refine runW ?_
 refine callV0 (ft) rfl rfl ?_
 refine runW ?_
 exact endW [] hQ
end Go.Proofs.YtpkfddfkacijoaaGreatDoor

namespace Go.Proofs.YtpkfddfkacijoaaGreatDoor
open Go.Eng Go.Vx
set_option linter.unusedSimpArgs false
set_option linter.unusedVariables false
set_option maxRecDepth 100000
theorem takeC_succ {α : Type} [Inhabited α] {A B : List α} {i : Nat} (ha : i < A.length) (hb : i < B.length) : A.take (i + 1) = B.take (i + 1) ↔ A.take i = B.take i ∧ A.getD i default = B.getD i default := by
 rw [List.take_succ_eq_append_getElem ha, List.take_succ_eq_append_getElem hb]
 have e1 : A.getD i default = A[i] := by rw [List.getD_eq_getElem?_getD, List.getElem?_eq_getElem ha]; rfl
 have e2 : B.getD i default = B[i] := by rw [List.getD_eq_getElem?_getD, List.getElem?_eq_getElem hb]; rfl
 rw [e1, e2]
 constructor
 ·
  intro h
  have := List.append_inj h (by rw [List.length_take, List.length_take]; omega)
  exact ⟨this.1, by simpa using this.2⟩
 ·
  rintro ⟨h1, h2⟩
  rw [h1, h2]
theorem equalC_fn {A B : List Cell} (hA : A.length ≤ 1000000) (hB : B.length ≤ 1000000) : Fn1 Tryz.prog 67 [.row 2 (A.map cV), .row 2 (B.map cV)] [] (.lit (.bool (decide (A = B)))) [] := by
 refine fn1N_of pl67 (by kernel_rfl) Tryz.call67 Tryz.func67 rfl (by kernel_rfl) rfl [.tmp 4] (by kernel_rfl) fun Q hQ => ?_
 by_cases hl : A.length = B.length
 ·
  refine runW ?_
  refine loopW (X := Nat) (st := fun i => ([(0, .row 2 (A.map cV)), (1, .row 2 (B.map cV)), (12, .lit (.int .i64 (A.length : Int))), (13, .lit (.int .i64 (i : Int)))], []))
   (inv := fun i => i ≤ A.length ∧ A.take i = B.take i) (m := fun i => A.length - i) 0 [] ⟨by omega, by simp⟩ ?_
  rintro i ⟨hi, ht⟩
  by_cases h : i < A.length
  ·
   have hs := takeC_succ h (show i < B.length by omega)
   have hne : A.getD i default ≠ B.getD i default → ¬ A = B := fun h e => h (by rw [e])
   obtain ⟨⟨a1, a2⟩, ea⟩ : ∃ a, A.getD i default = a := ⟨_, rfl⟩
   obtain ⟨⟨b1, b2⟩, eb⟩ : ∃ b, B.getD i default = b := ⟨_, rfl⟩
   rw [ea, eb] at hs hne
   by_cases e1 : a1 = b1
   ·
    by_cases e2 : a2 = b2
    ·
     have hs' := hs.2 ⟨ht, by rw [e1, e2]⟩
     subst e1 e2
     simp (maxSteps := 1000000) (disch := (first | omega | (simp only [lnA, List.length_map, List.length_range, true_and, and_true]; (try omega); done) | fail)) only [go_sem, ea, eb, Int.reduceEq, Int.reduceToNat, Nat.reduceAdd, Nat.reduceMul, Nat.reduceEqDiff, ↓reduceIte]
     refine nextW (i + 1) [] ⟨by omega, hs'⟩ (by omega)
    ·
     rw [decide_eq_false (hne (fun e => e2 (by injection e)))] at hQ
     have e2' : ¬ (a2 : Int) = (b2 : Int) := by omega
     subst e1
     simp (maxSteps := 1000000) (disch := (first | omega | (simp only [lnA, List.length_map, List.length_range, true_and, and_true]; (try omega); done) | fail)) only [go_sem, ea, eb, decide_eq_false e2', Int.reduceEq, Int.reduceToNat, Nat.reduceAdd, Nat.reduceMul, Nat.reduceEqDiff, ↓reduceIte]
     exact endW [] hQ
   ·
    rw [decide_eq_false (hne (fun e => e1 (by injection e)))] at hQ
    have e1' : ¬ (a1 : Int) = (b1 : Int) := by omega
    simp (maxSteps := 1000000) (disch := (first | omega | (simp only [lnA, List.length_map, List.length_range, true_and, and_true]; (try omega); done) | fail)) only [go_sem, ea, eb, decide_eq_false e1', Bool.false_and, Int.reduceEq, Int.reduceToNat, Nat.reduceAdd, Nat.reduceMul, Nat.reduceEqDiff, ↓reduceIte]
    exact endW [] hQ
  ·
   obtain rfl : i = A.length := by omega
   rw [List.take_length, hl, List.take_length] at ht
   rw [decide_eq_true ht] at hQ
   refine runW ?_
   exact endW [] hQ
 ·
  rw [decide_eq_false (fun e => hl (by rw [e]))] at hQ
  refine runW ?_
  exact endW [] hQ
theorem ssame_fn {M D S : Nat} {x : SS} (hx : x.1.length ≤ 256) : Fn1 Tryz.prog 31 [saP M D S x, saP M D S x] [] (.lit (.bool true)) [] := by
 have q := equalC_fn (A := x.1) (B := x.1) (by omega) (by omega)
 rw [decide_eq_true rfl] at q
 refine fn1N_of pl31 (by kernel_rfl) Tryz.call31 Tryz.func31 rfl (by kernel_rfl) rfl [.tmp 4] (by kernel_rfl) fun Q hQ => ?_
 simp (maxSteps := 1000000) (disch := (first | omega | (simp only [lnA, List.length_map, List.length_range, true_and, and_true]; (try omega); done) | fail)) only [go_sem, eq_self, decide_true, beq_self_eq_true, Int.reduceEq, Int.reduceToNat, Nat.reduceAdd, Nat.reduceMul, Nat.reduceEqDiff, ↓reduceIte]
 refine callV0 (q) rfl rfl ?_
 refine runW ?_
 exact endW [] hQ
set_option maxHeartbeats 4000000 in
theorem is19_fn {M D S p : Nat} {st : SS} {L : List Bool} {e : Int} (hw : WB M D S) (hX : st.1.length ≤ 256) (hs : ∀ c ∈ st.1, COk (SPof M D S) c) (hs1 : 1 ≤ st.2.1) (hs2 : st.2.1 ≤ S) :
  Fn1 Tryz.prog 35 [saP M D S st, rsV M D S st L p e] [] (.lit (.bool true)) [] := by
 have hpw := hw.pw
 have hm255 := hpw.m255
 have hd3 := hpw.d3
 have hS4 := hw.s4
 have g1 := sgetE_fn (M := M) (D := D) (S := S) (st := st) (i := -1) (.inl (by omega)) hX
 have v1 := svalueE_fn (M := M) (D := D) (S := S) (st := st) (i := (st.1.length : Int)) (.inr (by omega)) hX
 have t1 := sscale_fn (M := M) (D := D) (S := S) (st := st)
 have t2 := sfull_fn (M := M) (D := D) (S := S) (st := st)
 have t3 := slen_fn (M := M) (D := D) (S := S) (st := st) hX
 rw [NV_zero] at v1
 have hcc := fun (i : Nat) (hi : i < st.1.length) => hs _ (List.getElem_mem hi)
 refine fn1N_of pl35 (by kernel_rfl) Tryz.call35 Tryz.func35 rfl (by kernel_rfl) rfl [.tmp 4] (by kernel_rfl) fun Q hQ => ?_
 refine runW ?_
 refine loopW (X := Nat) (st := fun i => ([(0, saP M D S st), (3, .ref 0 0 0 0), (16, .row 2 (st.1.map cV)), (17, .lit (.int .i64 (st.1.length : Int))), (18, .lit (.int .i64 (i : Int)))], [some (.cells (rsC M D S st L p e))]))
  (inv := fun i => i ≤ st.1.length) (m := fun i => st.1.length - i) 0 [some 0] (Nat.zero_le _) ?_
 intro i hi
 by_cases h : i < st.1.length
 ·
  obtain ⟨c, hc⟩ : ∃ c, st.1[i]? = some c := ⟨_, List.getElem?_eq_getElem h⟩
  have hg : st.1.getD i default = c := by rw [List.getD_eq_getElem?_getD, hc]; rfl
  have hok : COk (SPof M D S) c := by
   have := hcc i h
   rw [List.getElem?_eq_getElem h] at hc
   injection hc with hc
   rw [← hc]
   exact this
  obtain ⟨c1, c2, -⟩ := hok
  have hsm := sm_le (s := st.2.1) (m := c.2) (by omega) (by omega)
  have hwl := wth_le (c := c) (s := st.2.1) (A := 255) (by omega) (by omega) (by omega)
  have g := sget_fn (M := M) (D := D) (S := S) hc hX
  have v := svalue_fn (M := M) (D := D) (S := S) hc hX (by omega) (by omega)
  have rw' := rworth_fn (c := c) (s := st.2.1) (by omega) (by omega) (by omega)
  have hwg : (wg (wth c st.2.1)).length ≤ 4000000 := Nat.le_trans (wg_one (by omega)) (by decide)
  have cm := ncmp_fn hwg hwg
  rw [show cmpI (wth c st.2.1) (wth c st.2.1) = 0 by unfold cmpI; simp] at cm
  have o := of1_fn (x := wth c st.2.1) (by omega)
  generalize wth c st.2.1 = wv at *
  simp (maxSteps := 1000000) (disch := (first | omega | (simp only [lnA, List.length_map, List.length_range, true_and, and_true]; (try omega); done) | fail)) only [go_sem, hg, Int.reduceEq, Int.reduceToNat, Nat.reduceAdd, Nat.reduceMul, Nat.reduceEqDiff, ↓reduceIte]
  refine callV0 (g) rfl rfl ?_
  refine runW ?_
  refine callV0 (v) rfl rfl ?_
  simp (maxSteps := 1000000) (disch := (first | omega | (simp only [lnA, List.length_map, List.length_range, true_and, and_true]; (try omega); done) | fail)) only [go_sem, eq_self, decide_true, Int.reduceEq, Int.reduceToNat, Nat.reduceAdd, Nat.reduceMul, Nat.reduceEqDiff, ↓reduceIte]
  refine callV0 (rw') rfl rfl ?_
  refine runW ?_
  refine callW [] [4] (o) ?_
  refine runW ?_
  refine callV0 (cm) rfl rfl ?_
  refine runW ?_
  refine nextW (i + 1) [some 0] (by omega) (by omega)
 ·
  obtain rfl : i = st.1.length := by omega
  refine runW ?_
  refine callV0 (g1) rfl rfl ?_
  refine runW ?_
  refine callV0 (v1) rfl rfl ?_
  refine runW ?_
  refine callV0 (t3) rfl rfl ?_
  simp (maxSteps := 1000000) (disch := (first | omega | (simp only [lnA, List.length_map, List.length_range, true_and, and_true]; (try omega); done) | fail)) only [go_sem, eq_self, decide_true, Int.reduceEq, Int.reduceToNat, Nat.reduceAdd, Nat.reduceMul, Nat.reduceEqDiff, ↓reduceIte]
  refine callV0 (t1) rfl rfl ?_
  simp (maxSteps := 1000000) (disch := (first | omega | (simp only [lnA, List.length_map, List.length_range, true_and, and_true]; (try omega); done) | fail)) only [go_sem, eq_self, decide_true, Int.reduceEq, Int.reduceToNat, Nat.reduceAdd, Nat.reduceMul, Nat.reduceEqDiff, ↓reduceIte]
  refine callV0 (t2) rfl rfl ?_
  simp (maxSteps := 1000000) (disch := (first | omega | (simp only [lnA, List.length_map, List.length_range, true_and, and_true]; (try omega); done) | fail)) only [go_sem, eq_self, decide_true, beq_self_eq_true, Int.reduceEq, Int.reduceToNat, Nat.reduceAdd, Nat.reduceMul, Nat.reduceEqDiff, ↓reduceIte]
  exact endW [] hQ
end Go.Proofs.YtpkfddfkacijoaaGreatDoor
