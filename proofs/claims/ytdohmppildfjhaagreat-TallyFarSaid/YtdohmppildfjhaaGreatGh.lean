import Derived.Test.YtdohmppildfjhaaGreatGg
namespace Go.Proofs.YtdohmppildfjhaaGreat
open Go.Eng Go.Vx
set_option linter.unusedSimpArgs false
set_option linter.unusedVariables false
set_option maxRecDepth 100000
def inD (x : Rat) (L : Ds) (out : Ds) : Ds := L.foldl (fun o b => addD b.1 (x * b.2) o) out
def ouD (NX : Ky → Ds) (L : Ds) (out : Ds) : Ds := L.foldl (fun o a => inD a.2 (atD (NX a.1)) o) out
def timesD (l : Ds) (NX : Ky → Ds) : Ds := ouD NX (atD l) []
theorem inD_snoc (x : Rat) (L : Ds) (out : Ds) (b : Ky × Rat) : inD x (L ++ [b]) out = addD b.1 (x * b.2) (inD x L out) := by simp [inD]
theorem ouD_snoc (NX : Ky → Ds) (L : Ds) (out : Ds) (a : Ky × Rat) : ouD NX (L ++ [a]) out = inD a.2 (atD (NX a.1)) (ouD NX L out) := by simp [ouD]
theorem takeD_snoc {α : Type} [Inhabited α] {L : List α} {i : Nat} (h : i < L.length) : L.take (i + 1) = L.take i ++ [L.getD i default] := by
 rw [List.take_add_one, List.getElem?_eq_getElem h]
 simp [List.getD, List.getElem?_eq_getElem h]
theorem getD_mem {α : Type} [Inhabited α] {L : List α} {i : Nat} (h : i < L.length) : L.getD i default ∈ L := by
 simp [List.getD, List.getElem?_eq_getElem h]
theorem enA_mk (K T : Int) (F : Bool) (q : Rat) : enA ((K, T, F), q) = [.lit (.int .i64 K), .lit (.int .i64 T), .lit (.bool F), .row 1 ((nl (wg q.num.natAbs)).map (ie .u64)), .lit (.bool (decide (q.num < 0))), .row 1 ((nl (wg (q.den - 1))).map (ie .u64))] := rfl
def cpP (kd a w : Nat) : V := .rref 3 [[.lit (.int .i64 (kd : Int)), .lit (.int .i64 (a : Int)), .lit (.int .i64 (w : Int))]] 0 0
attribute [go_sem] cpP
structure NxOk (f : FuncId) (kd a w : Nat) (NX : Ky → Ds) (k : Ky) : Prop where
 fn : Fn1 Tryz.prog f [kyS k, cpP kd a w] [] (.mref 0) [some (.map (enM (NX k)))]
 nd : ndK (NX k)
 ne : nzD (NX k) ≠ []
 rs : ∀ e ∈ NX k, RS 400000 e.2
 len : (NX k).length ≤ 100000
set_option maxHeartbeats 8000000 in
theorem ptimes_fn {l : Ds} {f : FuncId} {kd a w : Nat} {NX : Ky → Ds} (hd : ndK l) (hne : nzD l ≠ []) (hR : ∀ e ∈ l, RS 400000 e.2) (hlen : l.length ≤ 100000)
  (hN : ∀ e ∈ atD l, NxOk f kd a w NX e.1) (hm : ∀ a ∈ atD l, ∀ b ∈ atD (NX a.1), RS 400000 (a.2 * b.2))
  (hO : ∀ i, i < (atD l).length → ∀ j, ∀ e ∈ inD ((atD l).getD i default).2 ((atD (NX ((atD l).getD i default).1)).take j) (ouD NX ((atD l).take i) []), RS 400000 e.2) :
  Fn1 Tryz.prog 17 [.mref 0, .clo f [cpP kd a w]] [some (.map (enM l))] (.mref 1) [some (.map (enM l)), some (.map (enM (timesD l NX)))] := by
 have at0 := patoms_fn hd hne hR hlen
 have hal : (atD l).length ≤ 100000 := Nat.le_trans (at_len l) hlen
 unfold timesD
 generalize hA : atD l = A at *
 have ho0 : enM (ouD NX (List.take 0 A) []) = [] := rfl
 refine fn1N_of pl17 (by kernel_rfl) Tryz.call17 Tryz.func17 rfl (by kernel_rfl) rfl [.tmp 4] (by kernel_rfl) fun Q hQ => ?_
 refine runW ?_
 refine callW [some 0] [] (at0) ?_
 refine runW ?_
 refine LoopV_of (X := Nat) (st := fun i => ([(1, .clo f [cpP kd a w]), (5, .mref 1), (12, .sl 2 6 0 A.length), (13, .lit (.int .i64 (A.length : Int))), (14, .lit (.int .i64 (i : Int)))], [some (.map (enM l)), some (.map (enM (ouD NX (A.take i) []))), some (.row 6 (A.map enA))]))
  (inv := fun i => i ≤ A.length) (m := fun i => A.length - i) 0 [some 0, some 1, some 2] rfl (by simp only [ho0]; (simp (disch := (first | omega | (simp only [lnA, List.length_map, List.length_range, true_and, and_true]; (try omega); done) | fail)) only [go_sem, Int.reduceEq, Int.reduceToNat, Nat.reduceAdd, Nat.reduceMul, Nat.reduceEqDiff, ↓reduceIte, true_and, and_true, and_self, List.drop_zero, List.take_length, Nat.le_refl, V.lit.injEq, Value.int.injEq, Value.bool.injEq]; try (first | omega | (simp; done) | (simp; omega)))) (by simp (disch := (first | omega | (simp only [lnA, List.length_map, List.length_range, true_and, and_true]; (try omega); done) | fail)) only [go_sem, Int.reduceEq, Int.reduceToNat, Nat.reduceAdd, Nat.reduceMul, Nat.reduceEqDiff, ↓reduceIte, true_and, and_true, and_self, List.drop_zero, List.take_length, Nat.le_refl, V.lit.injEq, Value.int.injEq, Value.bool.injEq]; try (first | omega | (simp; done) | (simp; omega))) (Nat.zero_le _) ?_
 intro i hi
 by_cases hlt : i < A.length
 ·
  have ha := getD_mem hlt
  have hsn := takeD_snoc hlt
  have hOi := hO i hlt
  generalize hag : A.getD i default = ag at *
  obtain ⟨⟨K, T, F⟩, q⟩ := ag
  obtain ⟨nf, nnd, nne, nrs, nlen⟩ := hN _ ha
  dsimp only at nf nnd nne nrs nlen hOi
  have at1 := patoms_fn nnd nne nrs nlen
  have hml := Nat.le_trans (at_len (NX (K, T, F))) nlen
  have hmi := hm _ ha
  dsimp only at hmi
  have hou : ouD NX (A.take (i + 1)) [] = inD q (atD (NX (K, T, F))) (ouD NX (A.take i) []) := by rw [hsn, ouD_snoc]
  generalize ouD NX (A.take i) [] = out at *
  generalize NX (K, T, F) = nx at *
  have hal2 : (atD nx).length ≤ 100000 := hml
  have e1 : (i : Int) + 1 = ((i + 1 : Nat) : Int) := by omega
  simp (maxSteps := 1000000) (disch := (first | omega | (simp only [lnA, List.length_map, List.length_range, true_and, and_true]; (try omega); done) | fail)) only [go_sem, hag, enA_mk, Int.reduceEq, Int.reduceToNat, Nat.reduceAdd, Nat.reduceMul, Nat.reduceEqDiff, ↓reduceIte]
  refine callW [] [] (nf) ?_
  refine runW ?_
  refine callW [some 4] [] (at1) ?_
  generalize hB : atD nx = B at *
  have hi0 : inD q (B.take 0) out = out := rfl
  refine runW ?_
  refine LoopV_of (X := Nat) (st := fun j => ([(1, .clo f [cpP kd a w]), (5, .mref 1), (7, .ref 3 0 0 0), (12, .sl 2 6 0 A.length), (13, .lit (.int .i64 (A.length : Int))), (14, .lit (.int .i64 (i : Int))), (22, .sl 4 6 0 B.length), (23, .lit (.int .i64 (B.length : Int))), (24, .lit (.int .i64 (j : Int)))],
    [some (.map (enM l)), some (.map (enM (inD q (B.take j) out))), some (.row 6 (A.map enA)), some (.cells [.lit (.int .i64 K), .lit (.int .i64 T), .lit (.bool F), .row 1 ((nl (wg q.num.natAbs)).map (ie .u64)), .lit (.bool (decide (q.num < 0))), .row 1 ((nl (wg (q.den - 1))).map (ie .u64))]), some (.row 6 (B.map enA))]))
   (inv := fun j => j ≤ B.length) (m := fun j => B.length - j) 0 [some 0, some 1, some 2, some 3, some 5] rfl (by simp only [hi0]; (simp (disch := (first | omega | (simp only [lnA, List.length_map, List.length_range, true_and, and_true]; (try omega); done) | fail)) only [go_sem, Int.reduceEq, Int.reduceToNat, Nat.reduceAdd, Nat.reduceMul, Nat.reduceEqDiff, ↓reduceIte, true_and, and_true, and_self, List.drop_zero, List.take_length, Nat.le_refl, V.lit.injEq, Value.int.injEq, Value.bool.injEq]; try (first | omega | (simp; done) | (simp; omega)))) (by simp (disch := (first | omega | (simp only [lnA, List.length_map, List.length_range, true_and, and_true]; (try omega); done) | fail)) only [go_sem, Int.reduceEq, Int.reduceToNat, Nat.reduceAdd, Nat.reduceMul, Nat.reduceEqDiff, ↓reduceIte, true_and, and_true, and_self, List.drop_zero, List.take_length, Nat.le_refl, V.lit.injEq, Value.int.injEq, Value.bool.injEq]; try (first | omega | (simp; done) | (simp; omega))) (Nat.zero_le _) ?_
  intro j hj
  by_cases hjl : j < B.length
  ·
   have hb := getD_mem hjl
   have hsj := takeD_snoc hjl
   have hOj := hOi j
   have hmj := hmi _ hb
   generalize hbg : B.getD j default = bg at *
   obtain ⟨⟨K', T', F'⟩, q'⟩ := bg
   have hin : inD q (B.take (j + 1)) out = addD (K', T', F') (q * q') (inD q (B.take j) out) := by rw [hsj, inD_snoc]
   have mu := rmul_fn (x := q) (y := q') (hR _ (at_mem (by rw [hA]; exact ha)).1) (nrs _ (at_mem (by rw [hB]; exact hb)).1)
   have pa := padd_fn (l := inD q (B.take j) out) (k := (K', T', F')) (x := q * q') (fun y hy => hOj _ (look_mem hy)) hmj
   rw [← hin] at pa
   generalize q * q' = qq at *
   have e2 : (j : Int) + 1 = ((j + 1 : Nat) : Int) := by omega
   simp (maxSteps := 1000000) (disch := (first | omega | (simp only [lnA, List.length_map, List.length_range, true_and, and_true]; (try omega); done) | fail)) only [go_sem, hbg, enA_mk, Int.reduceEq, Int.reduceToNat, Nat.reduceAdd, Nat.reduceMul, Nat.reduceEqDiff, ↓reduceIte]
   refine callV0 (mu) rfl rfl ?_
   refine runW ?_
   refine callW [some 1] [] (pa) ?_
   refine runW ?_
   refine nextW (j + 1) [some 0, some 1, some 2, some 3, some 4] (by omega) (by omega)
  ·
   have hjB : j = B.length := by omega
   subst hjB
   rw [List.take_length] at *
   refine runW ?_
   refine NextV_of (i + 1) [some 0, some 1, some 2] rfl (by simp only [hou]; (simp (disch := (first | omega | (simp only [lnA, List.length_map, List.length_range, true_and, and_true]; (try omega); done) | fail)) only [go_sem, Int.reduceEq, Int.reduceToNat, Nat.reduceAdd, Nat.reduceMul, Nat.reduceEqDiff, ↓reduceIte, true_and, and_true, and_self, List.drop_zero, List.take_length, Nat.le_refl, V.lit.injEq, Value.int.injEq, Value.bool.injEq]; try (first | omega | (simp; done) | (simp; omega)))) (by simp (disch := (first | omega | (simp only [lnA, List.length_map, List.length_range, true_and, and_true]; (try omega); done) | fail)) only [go_sem, Int.reduceEq, Int.reduceToNat, Nat.reduceAdd, Nat.reduceMul, Nat.reduceEqDiff, ↓reduceIte, true_and, and_true, and_self, List.drop_zero, List.take_length, Nat.le_refl, V.lit.injEq, Value.int.injEq, Value.bool.injEq]; try (first | omega | (simp; done) | (simp; omega))) (by omega) (by omega)
 ·
  have hiA : i = A.length := by omega
  subst hiA
  simp (maxSteps := 1000000) (disch := (first | omega | (simp only [lnA, List.length_map, List.length_range, true_and, and_true]; (try omega); done) | fail)) only [go_sem, List.take_length, Int.reduceEq, Int.reduceToNat, Nat.reduceAdd, Nat.reduceMul, Nat.reduceEqDiff, ↓reduceIte]
  exact endW [some 0, some 1] hQ
end Go.Proofs.YtdohmppildfjhaaGreat
