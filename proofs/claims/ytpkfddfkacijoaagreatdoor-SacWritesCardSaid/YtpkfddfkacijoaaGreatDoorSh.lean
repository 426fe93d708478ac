import Derived.Test.YtpkfddfkacijoaaGreatDoorSg
import Derived.Test.YtpkfddfkacijoaaGreatDoorSf
namespace Go.Proofs.YtpkfddfkacijoaaGreatDoor
open Go.Eng Go.Vx
set_option linter.unusedSimpArgs false
set_option linter.unusedVariables false
set_option maxRecDepth 100000
theorem swithin_fn {n m : Int} : Fn1 Tryz.prog 70 [.lit (.int .i64 n), .lit (.int .i64 m)] [] (.lit (.bool (decide (1 ≤ n ∧ n ≤ m)))) [] := by
 refine fn1N_of pl70 (by kernel_rfl) Tryz.call70 Tryz.func70 rfl (by kernel_rfl) rfl [.tmp 4] (by kernel_rfl) fun Q hQ => ?_
 by_cases h1 : 1 ≤ n
 ·
  by_cases h2 : n ≤ m
  ·
   rw [decide_eq_true (show 1 ≤ n ∧ n ≤ m from ⟨h1, h2⟩)] at hQ
   simp (maxSteps := 1000000) (disch := (first | omega | (simp only [lnA, List.length_map, List.length_range, true_and, and_true]; (try omega); done) | fail)) only [go_sem, Int.reduceEq, Int.reduceToNat, Nat.reduceAdd, Nat.reduceMul, Nat.reduceEqDiff, ↓reduceIte]
   exact endW [] hQ
  ·
   rw [decide_eq_false (fun h : 1 ≤ n ∧ n ≤ m => h2 h.2)] at hQ
   simp (maxSteps := 1000000) (disch := (first | omega | (simp only [lnA, List.length_map, List.length_range, true_and, and_true]; (try omega); done) | fail)) only [go_sem, Int.reduceEq, Int.reduceToNat, Nat.reduceAdd, Nat.reduceMul, Nat.reduceEqDiff, ↓reduceIte]
   exact endW [] hQ
 ·
  rw [decide_eq_false (fun h : 1 ≤ n ∧ n ≤ m => h1 h.1)] at hQ
  simp (maxSteps := 1000000) (disch := (first | omega | (simp only [lnA, List.length_map, List.length_range, true_and, and_true]; (try omega); done) | fail)) only [go_sem, Int.reduceEq, Int.reduceToNat, Nat.reduceAdd, Nat.reduceMul, Nat.reduceEqDiff, ↓reduceIte]
  exact endW [] hQ
def goodS (M D S : Int) : Prop := (1 ≤ M ∧ M ≤ 16) ∧ (1 ≤ D ∧ D ≤ 4) ∧ 1 ≤ S ∧ S ≤ 8
theorem scheck_fn {M D S : Int} (h : goodS M D S) : Fn1 Tryz.prog 69 [.agg [.lit (.int .i64 M), .lit (.int .i64 D), .lit (.int .i64 S)]] [] (.lit (.int .i64 0)) [] := by
 obtain ⟨h1, h2, h3⟩ := h
 have w1 := swithin_fn (n := M) (m := 16)
 have w2 := swithin_fn (n := D) (m := 4)
 have w3 := swithin_fn (n := S) (m := 8)
 rw [decide_eq_true h1] at w1
 rw [decide_eq_true h2] at w2
 rw [decide_eq_true h3] at w3
 refine fn1N_of pl69 (by kernel_rfl) Tryz.call69 Tryz.func69 rfl (by kernel_rfl) rfl [.tmp 2] (by kernel_rfl) fun Q hQ => ?_
 simp (maxSteps := 1000000) (disch := (first | omega | (simp only [lnA, List.length_map, List.length_range, true_and, and_true]; (try omega); done) | fail)) only [go_sem, Int.reduceEq, Int.reduceToNat, Nat.reduceAdd, Nat.reduceMul, Nat.reduceEqDiff, ↓reduceIte]
 refine callV0 (w1) rfl rfl ?_
 simp (maxSteps := 1000000) (disch := (first | omega | (simp only [lnA, List.length_map, List.length_range, true_and, and_true]; (try omega); done) | fail)) only [go_sem, Int.reduceEq, Int.reduceToNat, Nat.reduceAdd, Nat.reduceMul, Nat.reduceEqDiff, ↓reduceIte]
 refine callV0 (w2) rfl rfl ?_
 simp (maxSteps := 1000000) (disch := (first | omega | (simp only [lnA, List.length_map, List.length_range, true_and, and_true]; (try omega); done) | fail)) only [go_sem, Int.reduceEq, Int.reduceToNat, Nat.reduceAdd, Nat.reduceMul, Nat.reduceEqDiff, ↓reduceIte]
 refine callV0 (w3) rfl rfl ?_
 simp (maxSteps := 1000000) (disch := (first | omega | (simp only [lnA, List.length_map, List.length_range, true_and, and_true]; (try omega); done) | fail)) only [go_sem, Int.reduceEq, Int.reduceToNat, Nat.reduceAdd, Nat.reduceMul, Nat.reduceEqDiff, ↓reduceIte]
 exact endW [] hQ
theorem scheckE_fn {M D S : Int} (h : ¬ goodS M D S) : Fn1 Tryz.prog 69 [.agg [.lit (.int .i64 M), .lit (.int .i64 D), .lit (.int .i64 S)]] [] (.lit (.int .i64 10)) [] := by
 have w1 := swithin_fn (n := M) (m := 16)
 have w2 := swithin_fn (n := D) (m := 4)
 have w3 := swithin_fn (n := S) (m := 8)
 refine fn1N_of pl69 (by kernel_rfl) Tryz.call69 Tryz.func69 rfl (by kernel_rfl) rfl [.tmp 2] (by kernel_rfl) fun Q hQ => ?_
 by_cases h1 : 1 ≤ M ∧ M ≤ 16
 ·
  rw [decide_eq_true h1] at w1
  by_cases h2 : 1 ≤ D ∧ D ≤ 4
  ·
   rw [decide_eq_true h2] at w2
   rw [decide_eq_false (fun h3 => h ⟨h1, h2, h3⟩)] at w3
   simp (maxSteps := 1000000) (disch := (first | omega | (simp only [lnA, List.length_map, List.length_range, true_and, and_true]; (try omega); done) | fail)) only [go_sem, Int.reduceEq, Int.reduceToNat, Nat.reduceAdd, Nat.reduceMul, Nat.reduceEqDiff, ↓reduceIte]
   refine callV0 (w1) rfl rfl ?_
   simp (maxSteps := 1000000) (disch := (first | omega | (simp only [lnA, List.length_map, List.length_range, true_and, and_true]; (try omega); done) | fail)) only [go_sem, Int.reduceEq, Int.reduceToNat, Nat.reduceAdd, Nat.reduceMul, Nat.reduceEqDiff, ↓reduceIte]
   refine callV0 (w2) rfl rfl ?_
   simp (maxSteps := 1000000) (disch := (first | omega | (simp only [lnA, List.length_map, List.length_range, true_and, and_true]; (try omega); done) | fail)) only [go_sem, Int.reduceEq, Int.reduceToNat, Nat.reduceAdd, Nat.reduceMul, Nat.reduceEqDiff, ↓reduceIte]
   refine callV0 (w3) rfl rfl ?_
   simp (maxSteps := 1000000) (disch := (first | omega | (simp only [lnA, List.length_map, List.length_range, true_and, and_true]; (try omega); done) | fail)) only [go_sem, Int.reduceEq, Int.reduceToNat, Nat.reduceAdd, Nat.reduceMul, Nat.reduceEqDiff, ↓reduceIte]
   exact endW [] hQ
  ·
   rw [decide_eq_false h2] at w2
   simp (maxSteps := 1000000) (disch := (first | omega | (simp only [lnA, List.length_map, List.length_range, true_and, and_true]; (try omega); done) | fail)) only [go_sem, Int.reduceEq, Int.reduceToNat, Nat.reduceAdd, Nat.reduceMul, Nat.reduceEqDiff, ↓reduceIte]
   refine callV0 (w1) rfl rfl ?_
   simp (maxSteps := 1000000) (disch := (first | omega | (simp only [lnA, List.length_map, List.length_range, true_and, and_true]; (try omega); done) | fail)) only [go_sem, Int.reduceEq, Int.reduceToNat, Nat.reduceAdd, Nat.reduceMul, Nat.reduceEqDiff, ↓reduceIte]
   refine callV0 (w2) rfl rfl ?_
   simp (maxSteps := 1000000) (disch := (first | omega | (simp only [lnA, List.length_map, List.length_range, true_and, and_true]; (try omega); done) | fail)) only [go_sem, Int.reduceEq, Int.reduceToNat, Nat.reduceAdd, Nat.reduceMul, Nat.reduceEqDiff, ↓reduceIte]
   exact endW [] hQ
 ·
  rw [decide_eq_false h1] at w1
  simp (maxSteps := 1000000) (disch := (first | omega | (simp only [lnA, List.length_map, List.length_range, true_and, and_true]; (try omega); done) | fail)) only [go_sem, Int.reduceEq, Int.reduceToNat, Nat.reduceAdd, Nat.reduceMul, Nat.reduceEqDiff, ↓reduceIte]
  refine callV0 (w1) rfl rfl ?_
  simp (maxSteps := 1000000) (disch := (first | omega | (simp only [lnA, List.length_map, List.length_range, true_and, and_true]; (try omega); done) | fail)) only [go_sem, Int.reduceEq, Int.reduceToNat, Nat.reduceAdd, Nat.reduceMul, Nat.reduceEqDiff, ↓reduceIte]
  exact endW [] hQ
def cV (c : Cell) : List PV := [.lit (.int .i64 (c.1 : Int)), .lit (.int .i64 (c.2 : Int))]
def cA (c : Cell) : V := .agg [.lit (.int .i64 (c.1 : Int)), .lit (.int .i64 (c.2 : Int))]
def pA (M D S : Nat) : V := .agg [.lit (.int .i64 (M : Int)), .lit (.int .i64 (D : Int)), .lit (.int .i64 (S : Int))]
def saC (M D S : Nat) (st : SS) : Ob := .cells [.lit (.int .i64 (M : Int)), .lit (.int .i64 (D : Int)), .lit (.int .i64 (S : Int)), .row 2 (st.1.map cV), .lit (.int .i64 (st.2.1 : Int)), .lit (.bool st.2.2)]
def saP (M D S : Nat) (st : SS) : V := .rref 6 [[.lit (.int .i64 (M : Int)), .lit (.int .i64 (D : Int)), .lit (.int .i64 (S : Int)), .row 2 (st.1.map cV), .lit (.int .i64 (st.2.1 : Int)), .lit (.bool st.2.2)]] 0 0
def saO (M D S o n : Nat) (s : Nat) (f : Bool) : Ob := .cells [.lit (.int .i64 (M : Int)), .lit (.int .i64 (D : Int)), .lit (.int .i64 (S : Int)), .sl o 2 0 n, .lit (.int .i64 (s : Int)), .lit (.bool f)]
attribute [go_sem] cA pA saC saP saO
@[go_sem] theorem cV_eq {c : Cell} : cV c = [.lit (.int .i64 (c.1 : Int)), .lit (.int .i64 (c.2 : Int))] := (rfl)
theorem getD_some {α : Type} [Inhabited α] {l : List α} {i : Nat} {x : α} (h : l[i]? = some x) : l.getD i default = x := by rw [List.getD_eq_getElem?_getD, h]; rfl
@[go_sem] theorem pnO_cV {X : List Cell} {z : Nat} : pnO (.row z (X.map cV)) = True := eq_true fun e he p hp => by
 obtain ⟨x, _, rfl⟩ := List.mem_map.1 he
 rw [cV_eq] at hp
 simp only [List.mem_cons, List.not_mem_nil, or_false] at hp
 rcases hp with rfl | rfl <;> rfl
theorem snew_fn {M D S n : Nat} (h : goodS M D S) (hn : 1 ≤ n ∧ n ≤ 256) : Fn1 Tryz.prog 34 [pA M D S, .lit (.int .i64 (n : Int))] [] (.tup [.ref 0 0 0 0, .lit (.int .i64 0)]) [some (saC M D S (List.replicate n (0, 0), 1, false))] := by
 have hc := scheck_fn h
 have w := swithin_fn (n := (n : Int)) (m := 256)
 rw [decide_eq_true (show (1 : Int) ≤ (n : Int) ∧ (n : Int) ≤ 256 by omega)] at w
 have e : (List.replicate n ((0 : Nat), (0 : Nat))).map cV = zrow [.int .i64 0, .int .i64 0] n := by rw [List.map_replicate]; rfl
 have el : (zrow [Value.int IntKind.i64 0, Value.int IntKind.i64 0] n).length = n := by unfold zrow; rw [List.length_replicate]
 have et : List.take n (zrow [Value.int IntKind.i64 0, Value.int IntKind.i64 0] n) = zrow [Value.int IntKind.i64 0, Value.int IntKind.i64 0] n := List.take_of_length_le (Nat.le_of_eq el)
 refine fn1N_of pl34 (by kernel_rfl) Tryz.call34 Tryz.func34 rfl (by kernel_rfl) rfl [.tmp 4, .tmp 5] (by kernel_rfl) fun Q hQ => ?_
 unfold saC at hQ
 dsimp only at hQ
 rw [e, show ((1 : Nat) : Int) = 1 from rfl] at hQ
 simp (maxSteps := 1000000) (disch := (first | omega | (simp only [lnA, List.length_map, List.length_range, true_and, and_true]; (try omega); done) | fail)) only [go_sem, Int.reduceEq, Int.reduceToNat, Nat.reduceAdd, Nat.reduceMul, Nat.reduceEqDiff, ↓reduceIte]
 refine callV0 (hc) rfl rfl ?_
 simp (maxSteps := 1000000) (disch := (first | omega | (simp only [lnA, List.length_map, List.length_range, true_and, and_true]; (try omega); done) | fail)) only [go_sem, Int.reduceEq, Int.reduceToNat, Nat.reduceAdd, Nat.reduceMul, Nat.reduceEqDiff, ↓reduceIte]
 refine callV0 (w) rfl rfl ?_
 simp (maxSteps := 1000000) (disch := (first | omega | (simp only [lnA, List.length_map, List.length_range, true_and, and_true]; (try omega); done) | fail)) only [go_sem, Int.reduceEq, Int.reduceToNat, Nat.reduceAdd, Nat.reduceMul, Nat.reduceEqDiff, ↓reduceIte]
 generalize zrow [Value.int IntKind.i64 0, Value.int IntKind.i64 0] n = zr at *
 refine EndV_of [some 2] _ _ rfl ?_ ?_ hQ
 ·
  simp only [go_sem, el, et, true_and, and_true, and_self, Nat.le_refl, List.take_zero, List.drop_zero]; (try simp); (try (rw [et])); (try simp [el, et])
 ·
  (simp (disch := (first | omega | (simp only [lnA, List.length_map, List.length_range, true_and, and_true]; (try omega); done) | fail)) only [go_sem, Int.reduceEq, Int.reduceToNat, Nat.reduceAdd, Nat.reduceMul, Nat.reduceEqDiff, ↓reduceIte, true_and, and_true, and_self, List.drop_zero, List.take_length, Nat.le_refl, V.lit.injEq, Value.int.injEq, Value.bool.injEq]; try (first | omega | (simp; done) | (simp; omega)))
theorem snewE_fn {M D S n : Int} (h : ¬ (goodS M D S ∧ 1 ≤ n ∧ n ≤ 256)) : Fn1 Tryz.prog 34 [.agg [.lit (.int .i64 M), .lit (.int .i64 D), .lit (.int .i64 S)], .lit (.int .i64 n)] [] (.tup [.lit (.pointer none), .lit (.int .i64 10)]) [] := by
 refine fn1N_of pl34 (by kernel_rfl) Tryz.call34 Tryz.func34 rfl (by kernel_rfl) rfl [.tmp 4, .tmp 5] (by kernel_rfl) fun Q hQ => ?_
 by_cases h1 : goodS M D S
 ·
  have hc := scheck_fn h1
  have w := swithin_fn (n := n) (m := 256)
  rw [decide_eq_false (fun e => h ⟨h1, e⟩)] at w
  simp (maxSteps := 1000000) (disch := (first | omega | (simp only [lnA, List.length_map, List.length_range, true_and, and_true]; (try omega); done) | fail)) only [go_sem, Int.reduceEq, Int.reduceToNat, Nat.reduceAdd, Nat.reduceMul, Nat.reduceEqDiff, ↓reduceIte]
  refine callV0 (hc) rfl rfl ?_
  simp (maxSteps := 1000000) (disch := (first | omega | (simp only [lnA, List.length_map, List.length_range, true_and, and_true]; (try omega); done) | fail)) only [go_sem, Int.reduceEq, Int.reduceToNat, Nat.reduceAdd, Nat.reduceMul, Nat.reduceEqDiff, ↓reduceIte]
  refine callV0 (w) rfl rfl ?_
  simp (maxSteps := 1000000) (disch := (first | omega | (simp only [lnA, List.length_map, List.length_range, true_and, and_true]; (try omega); done) | fail)) only [go_sem, Int.reduceEq, Int.reduceToNat, Nat.reduceAdd, Nat.reduceMul, Nat.reduceEqDiff, ↓reduceIte]
  exact endW [] hQ
 ·
  have hc := scheckE_fn h1
  simp (maxSteps := 1000000) (disch := (first | omega | (simp only [lnA, List.length_map, List.length_range, true_and, and_true]; (try omega); done) | fail)) only [go_sem, Int.reduceEq, Int.reduceToNat, Nat.reduceAdd, Nat.reduceMul, Nat.reduceEqDiff, ↓reduceIte]
  refine callV0 (hc) rfl rfl ?_
  simp (maxSteps := 1000000) (disch := (first | omega | (simp only [lnA, List.length_map, List.length_range, true_and, and_true]; (try omega); done) | fail)) only [go_sem, Int.reduceEq, Int.reduceToNat, Nat.reduceAdd, Nat.reduceMul, Nat.reduceEqDiff, ↓reduceIte]
  exact endW [] hQ
theorem sparam_fn {M D S : Nat} {st : SS} : Fn1 Tryz.prog 61 [saP M D S st] [] (pA M D S) [] := by
 refine fn1N_of pl61 (by kernel_rfl) Tryz.call61 Tryz.func61 rfl (by kernel_rfl) rfl [.cell 2 73] (by kernel_rfl) fun Q hQ => ?_
 simp (maxSteps := 1000000) (disch := (first | omega | (simp only [lnA, List.length_map, List.length_range, true_and, and_true]; (try omega); done) | fail)) only [go_sem, Int.reduceEq, Int.reduceToNat, Nat.reduceAdd, Nat.reduceMul, Nat.reduceEqDiff, ↓reduceIte]
 exact endW [] hQ
theorem slen_fn {M D S : Nat} {st : SS} (h : st.1.length ≤ 256) : Fn1 Tryz.prog 28 [saP M D S st] [] (.lit (.int .i64 (st.1.length : Int))) [] := by
 refine fn1N_of pl28 (by kernel_rfl) Tryz.call28 Tryz.func28 rfl (by kernel_rfl) rfl [.tmp 2] (by kernel_rfl) fun Q hQ => ?_
 simp (maxSteps := 1000000) (disch := (first | omega | (simp only [lnA, List.length_map, List.length_range, true_and, and_true]; (try omega); done) | fail)) only [go_sem, Int.reduceEq, Int.reduceToNat, Nat.reduceAdd, Nat.reduceMul, Nat.reduceEqDiff, ↓reduceIte]
 exact endW [] hQ
theorem sscale_fn {M D S : Nat} {st : SS} : Fn1 Tryz.prog 73 [saP M D S st] [] (.lit (.int .i64 (st.2.1 : Int))) [] := by
 refine fn1N_of pl73 (by kernel_rfl) Tryz.call73 Tryz.func73 rfl (by kernel_rfl) rfl [.tmp 2] (by kernel_rfl) fun Q hQ => ?_
 simp (maxSteps := 1000000) (disch := (first | omega | (simp only [lnA, List.length_map, List.length_range, true_and, and_true]; (try omega); done) | fail)) only [go_sem, Int.reduceEq, Int.reduceToNat, Nat.reduceAdd, Nat.reduceMul, Nat.reduceEqDiff, ↓reduceIte]
 exact endW [] hQ
theorem sfull_fn {M D S : Nat} {st : SS} : Fn1 Tryz.prog 74 [saP M D S st] [] (.lit (.bool st.2.2)) [] := by
 refine fn1N_of pl74 (by kernel_rfl) Tryz.call74 Tryz.func74 rfl (by kernel_rfl) rfl [.tmp 2] (by kernel_rfl) fun Q hQ => ?_
 simp (maxSteps := 1000000) (disch := (first | omega | (simp only [lnA, List.length_map, List.length_range, true_and, and_true]; (try omega); done) | fail)) only [go_sem, Int.reduceEq, Int.reduceToNat, Nat.reduceAdd, Nat.reduceMul, Nat.reduceEqDiff, ↓reduceIte]
 exact endW [] hQ
theorem sget_fn {M D S : Nat} {st : SS} {i : Nat} {c : Cell} (hi : st.1[i]? = some c) (hX : st.1.length ≤ 256) : Fn1 Tryz.prog 58 [saP M D S st, .lit (.int .i64 (i : Int))] [] (.tup [cA c, .lit (.int .i64 0)]) [] := by
 obtain ⟨hl, hx⟩ := List.getElem?_eq_some_iff.1 hi
 have e := getD_some hi
 refine fn1N_of pl58 (by kernel_rfl) Tryz.call58 Tryz.func58 rfl (by kernel_rfl) rfl [.cell 4 116, .tmp 5] (by kernel_rfl) fun Q hQ => ?_
 simp (maxSteps := 1000000) (disch := (first | omega | (simp only [lnA, List.length_map, List.length_range, true_and, and_true]; (try omega); done) | fail)) only [go_sem, e, Int.reduceEq, Int.reduceToNat, Nat.reduceAdd, Nat.reduceMul, Nat.reduceEqDiff, ↓reduceIte]
 exact endW [] hQ
theorem sgetE_fn {M D S : Nat} {st : SS} {i : Int} (hi : i < 0 ∨ (st.1.length : Int) ≤ i) (hX : st.1.length ≤ 256) : Fn1 Tryz.prog 58 [saP M D S st, .lit (.int .i64 i)] [] (.tup [cA (0, 0), .lit (.int .i64 1)]) [] := by
 refine fn1N_of pl58 (by kernel_rfl) Tryz.call58 Tryz.func58 rfl (by kernel_rfl) rfl [.cell 4 116, .tmp 5] (by kernel_rfl) fun Q hQ => ?_
 by_cases h0 : i < 0
 ·
  simp (maxSteps := 1000000) (disch := (first | omega | (simp only [lnA, List.length_map, List.length_range, true_and, and_true]; (try omega); done) | fail)) only [go_sem, Int.reduceEq, Int.reduceToNat, Nat.reduceAdd, Nat.reduceMul, Nat.reduceEqDiff, ↓reduceIte]
  exact endW [] hQ
 ·
  have h1 : (st.1.length : Int) ≤ i := by omega
  simp (maxSteps := 1000000) (disch := (first | omega | (simp only [lnA, List.length_map, List.length_range, true_and, and_true]; (try omega); done) | fail)) only [go_sem, Int.reduceEq, Int.reduceToNat, Nat.reduceAdd, Nat.reduceMul, Nat.reduceEqDiff, ↓reduceIte]
  exact endW [] hQ
theorem sworth_fn {c : Cell} {s : Nat} (hc : c.1 < 9223372036854775808) (hs : s * c.2 ≤ 8192) : Fn1 Tryz.prog 94 [cA c, .lit (.int .i64 (s : Int))] [] (NV (wth c s)) [] := by
 have o := of1_fn (x := c.1) (by omega)
 have sh := shl_fn (v := c.1) (N := s * c.2) hs (Nat.le_trans (wg_one (by omega)) (by decide))
 have e : (s : Int) * (c.2 : Int) = ((s * c.2 : Nat) : Int) := by simp
 rw [show c.1 * 2 ^ (s * c.2) = wth c s from rfl] at sh
 generalize wth c s = w at *
 generalize s * c.2 = k at *
 refine fn1N_of pl94 (by kernel_rfl) Tryz.call94 Tryz.func94 rfl (by kernel_rfl) rfl [.cell 4 56] (by kernel_rfl) fun Q hQ => ?_
 simp (maxSteps := 1000000) (disch := (first | omega | (simp only [lnA, List.length_map, List.length_range, true_and, and_true]; (try omega); done) | fail)) only [go_sem, e, Int.reduceEq, Int.reduceToNat, Nat.reduceAdd, Nat.reduceMul, Nat.reduceEqDiff, ↓reduceIte]
 refine callW [] [2] (o) ?_
 simp (maxSteps := 1000000) (disch := (first | omega | (simp only [lnA, List.length_map, List.length_range, true_and, and_true]; (try omega); done) | fail)) only [go_sem, e, Int.reduceEq, Int.reduceToNat, Nat.reduceAdd, Nat.reduceMul, Nat.reduceEqDiff, ↓reduceIte]
 refine callV0 (sh) rfl rfl ?_
 simp (maxSteps := 1000000) (disch := (first | omega | (simp only [lnA, List.length_map, List.length_range, true_and, and_true]; (try omega); done) | fail)) only [go_sem, Int.reduceEq, Int.reduceToNat, Nat.reduceAdd, Nat.reduceMul, Nat.reduceEqDiff, ↓reduceIte]
 exact endW [] hQ
theorem svalue_fn {M D S : Nat} {st : SS} {i : Nat} {c : Cell} (hi : st.1[i]? = some c) (hX : st.1.length ≤ 256) (hc : c.1 < 9223372036854775808) (hs : st.2.1 * c.2 ≤ 8192) : Fn1 Tryz.prog 59 [saP M D S st, .lit (.int .i64 (i : Int))] [] (.tup [NV (wth c st.2.1), .lit (.int .i64 0)]) [] := by
 have g := sget_fn (M := M) (D := D) (S := S) hi hX
 have w := sworth_fn hc hs
 refine fn1N_of pl59 (by kernel_rfl) Tryz.call59 Tryz.func59 rfl (by kernel_rfl) rfl [.cell 4 56, .tmp 5] (by kernel_rfl) fun Q hQ => ?_
 simp (maxSteps := 1000000) (disch := (first | omega | (simp only [lnA, List.length_map, List.length_range, true_and, and_true]; (try omega); done) | fail)) only [go_sem, Int.reduceEq, Int.reduceToNat, Nat.reduceAdd, Nat.reduceMul, Nat.reduceEqDiff, ↓reduceIte]
 refine callV0 (g) rfl rfl ?_
 simp (maxSteps := 1000000) (disch := (first | omega | (simp only [lnA, List.length_map, List.length_range, true_and, and_true]; (try omega); done) | fail)) only [go_sem, Int.reduceEq, Int.reduceToNat, Nat.reduceAdd, Nat.reduceMul, Nat.reduceEqDiff, ↓reduceIte]
 refine callV0 (w) rfl rfl ?_
 simp (maxSteps := 1000000) (disch := (first | omega | (simp only [lnA, List.length_map, List.length_range, true_and, and_true]; (try omega); done) | fail)) only [go_sem, Int.reduceEq, Int.reduceToNat, Nat.reduceAdd, Nat.reduceMul, Nat.reduceEqDiff, ↓reduceIte]
 exact endW [] hQ
theorem svalueL_fn {M D S : Nat} {st : SS} {i : Nat} {c : Cell} (hi : st.1[i]? = some c) (hX : st.1.length ≤ 256) (hc : c.1 < 9223372036854775808) (hs : st.2.1 * c.2 ≤ 8192) : Fn1 Tryz.prog 59 [.ref 0 0 0 0, .lit (.int .i64 (i : Int))] [some (saC M D S st)] (.tup [NV (wth c st.2.1), .lit (.int .i64 0)]) [some (saC M D S st)] := by
 have g := sget_fn (M := M) (D := D) (S := S) hi hX
 have w := sworth_fn hc hs
 refine fn1N_of pl59 (by kernel_rfl) Tryz.call59 Tryz.func59 rfl (by kernel_rfl) rfl [.cell 4 56, .tmp 5] (by kernel_rfl) fun Q hQ => ?_
 simp (maxSteps := 1000000) (disch := (first | omega | (simp only [lnA, List.length_map, List.length_range, true_and, and_true]; (try omega); done) | fail)) only [go_sem, Int.reduceEq, Int.reduceToNat, Nat.reduceAdd, Nat.reduceMul, Nat.reduceEqDiff, ↓reduceIte]
 refine callT (g) ?_
 simp (maxSteps := 1000000) (disch := (first | omega | (simp only [lnA, List.length_map, List.length_range, true_and, and_true]; (try omega); done) | fail)) only [go_sem, Int.reduceEq, Int.reduceToNat, Nat.reduceAdd, Nat.reduceMul, Nat.reduceEqDiff, ↓reduceIte]
 refine callV0 (w) rfl rfl ?_
 simp (maxSteps := 1000000) (disch := (first | omega | (simp only [lnA, List.length_map, List.length_range, true_and, and_true]; (try omega); done) | fail)) only [go_sem, Int.reduceEq, Int.reduceToNat, Nat.reduceAdd, Nat.reduceMul, Nat.reduceEqDiff, ↓reduceIte]
 exact endW [some 0] hQ
theorem svalueE_fn {M D S : Nat} {st : SS} {i : Int} (hi : i < 0 ∨ (st.1.length : Int) ≤ i) (hX : st.1.length ≤ 256) : Fn1 Tryz.prog 59 [saP M D S st, .lit (.int .i64 i)] [] (.tup [NV 0, .lit (.int .i64 1)]) [] := by
 have g := sgetE_fn (M := M) (D := D) (S := S) hi hX
 rw [NV_zero]
 refine fn1N_of pl59 (by kernel_rfl) Tryz.call59 Tryz.func59 rfl (by kernel_rfl) rfl [.cell 4 56, .tmp 5] (by kernel_rfl) fun Q hQ => ?_
 simp (maxSteps := 1000000) (disch := (first | omega | (simp only [lnA, List.length_map, List.length_range, true_and, and_true]; (try omega); done) | fail)) only [go_sem, Int.reduceEq, Int.reduceToNat, Nat.reduceAdd, Nat.reduceMul, Nat.reduceEqDiff, ↓reduceIte]
 refine callV0 (g) rfl rfl ?_
 simp (maxSteps := 1000000) (disch := (first | omega | (simp only [lnA, List.length_map, List.length_range, true_and, and_true]; (try omega); done) | fail)) only [go_sem, Int.reduceEq, Int.reduceToNat, Nat.reduceAdd, Nat.reduceMul, Nat.reduceEqDiff, ↓reduceIte]
 exact endW [] hQ
theorem ssh1_n {k : Nat} (h : k < 63) : IntKind.i64.wrap (1 * 2 ^ k) = ((2 ^ k : Nat) : Int) := by
 have h1 : 2 ^ k ≤ 2 ^ 62 := Nat.pow_le_pow_right (by decide) (by omega)
 have h2 : (1 * 2 ^ k : Int) = ((2 ^ k : Nat) : Int) := by simp
 rw [h2]
 generalize 2 ^ k = x at *
 have : (x : Int) < 9223372036854775808 := by omega
 simp (maxSteps := 1000000) (disch := (first | omega | (simp only [lnA, List.length_map, List.length_range, true_and, and_true]; (try omega); done) | fail)) only [go_sem, Int.reduceEq, Int.reduceToNat, Nat.reduceAdd, Nat.reduceMul, Nat.reduceEqDiff, ↓reduceIte]
theorem stops_fn {M D S : Nat} (hM : M ≤ 16) (hD : D ≤ 4) : Fn1 Tryz.prog 118 [pA M D S] [] (.tup [.lit (.int .i64 ((2 ^ M - 1 : Nat) : Int)), .lit (.int .i64 ((2 ^ D - 1 : Nat) : Int))]) [] := by
 have h1 := ssh1_n (k := M) (by omega)
 have h2 := ssh1_n (k := D) (by omega)
 have p1 : 1 ≤ 2 ^ M := Nat.pow_pos (by decide)
 have p2 : 1 ≤ 2 ^ D := Nat.pow_pos (by decide)
 have q1 : 2 ^ M ≤ 2 ^ 16 := Nat.pow_le_pow_right (by decide) hM
 have q2 : 2 ^ D ≤ 2 ^ 4 := Nat.pow_le_pow_right (by decide) hD
 have e1 : ((2 ^ M : Nat) : Int) - 1 = ((2 ^ M - 1 : Nat) : Int) := by omega
 have e2 : ((2 ^ D : Nat) : Int) - 1 = ((2 ^ D - 1 : Nat) : Int) := by omega
 refine fn1N_of pl118 (by kernel_rfl) Tryz.call118 Tryz.func118 rfl (by kernel_rfl) rfl [.tmp 2, .tmp 3] (by kernel_rfl) fun Q hQ => ?_
 simp (maxSteps := 1000000) (disch := (first | omega | (simp only [lnA, List.length_map, List.length_range, true_and, and_true]; (try omega); done) | fail)) only [go_sem, h1, h2, e1, e2, Int.reduceEq, Int.reduceToNat, Nat.reduceAdd, Nat.reduceMul, Nat.reduceEqDiff, ↓reduceIte]
 exact endW [] hQ
def W3 (M D S n : Nat) (cs : List Cell) (s : Nat) (f : Bool) (L : List Bool) (p : Nat) (d : Bool) : St := [some (saO M D S 2 n s f), some (tpC L p d), some (.row 2 (cs.map cV))]
attribute [go_sem] W3
theorem cV_set {cs : List Cell} {i : Nat} {c : Cell} : (cs.map cV).set i [.lit (.int .i64 (c.1 : Int)), .lit (.int .i64 (c.2 : Int))] = (cs.set i c).map cV := by rw [List.map_set]; rfl
theorem sput_fn {M D S : Nat} {cs : List Cell} {s i : Nat} {f : Bool} {c : Cell} (hi : i < cs.length) (hX : cs.length ≤ 256) : Fn1 Tryz.prog 121 [.ref 0 0 0 0, .lit (.int .i64 (i : Int)), cA c]
  [some (saO M D S 1 cs.length s f), some (.row 2 (cs.map cV))] (.tup []) [some (saO M D S 1 cs.length s f), some (.row 2 ((cs.set i (putS c)).map cV))] := by
 have e := cV_set (cs := cs) (i := i) (c := putS c)
 unfold putS at e ⊢
 refine fn1N_of pl121 (by kernel_rfl) Tryz.call121 Tryz.func121 rfl (by kernel_rfl) rfl [] (by kernel_rfl) fun Q hQ => ?_
 by_cases h0 : c.1 = 0
 ·
  rw [if_pos h0] at hQ e
  rw [← e] at hQ
  dsimp only at hQ
  simp (maxSteps := 1000000) (disch := (first | omega | (simp only [lnA, List.length_map, List.length_range, true_and, and_true]; (try omega); done) | fail)) only [go_sem, Int.reduceEq, Int.reduceToNat, Nat.reduceAdd, Nat.reduceMul, Nat.reduceEqDiff, ↓reduceIte]
  exact endW [some 0, some 1] hQ
 ·
  rw [if_neg h0] at hQ e
  rw [← e] at hQ
  simp (maxSteps := 1000000) (disch := (first | omega | (simp only [lnA, List.length_map, List.length_range, true_and, and_true]; (try omega); done) | fail)) only [go_sem, Int.reduceEq, Int.reduceToNat, Nat.reduceAdd, Nat.reduceMul, Nat.reduceEqDiff, ↓reduceIte]
  exact endW [some 0, some 1] hQ
theorem sup_fn {M D S n : Nat} {cs : List Cell} {s p : Nat} {f d : Bool} {L : List Bool} {c : Cell} (hL : L.length ≤ 1048576) (hp : p ≤ L.length) (hd : d = true → p = L.length) (hc : c.1 ≤ 1099511627776) (hm : c.2 ≤ 1000) (hs : s ≤ 40) :
  Fn1 Tryz.prog 119 [.ref 0 0 0 0, .ref 1 0 0 0, cA c] (W3 M D S n cs s f L p d)
  (.tup [cA ((outN L d c.1 s p).1, c.2 + 1), .lit (.int .i64 (outN L d c.1 s p).2.1)]) (W3 M D S n cs s f L (outN L d c.1 s p).2.2.1 (outN L d c.1 s p).2.2.2) := by
 have o := of1_fn (x := c.1) (by omega)
 have r := sround_fn (L := L) (n := c.1) (k := s) (p := p) (d := d) hL hp hd hc hs
 generalize outN L d c.1 s p = x at *
 refine fn1N_of pl119 (by kernel_rfl) Tryz.call119 Tryz.func119 rfl (by kernel_rfl) rfl [.cell 6 116, .tmp 7] (by kernel_rfl) fun Q hQ => ?_
 simp (maxSteps := 1000000) (disch := (first | omega | (simp only [lnA, List.length_map, List.length_range, true_and, and_true]; (try omega); done) | fail)) only [go_sem, Int.reduceEq, Int.reduceToNat, Nat.reduceAdd, Nat.reduceMul, Nat.reduceEqDiff, ↓reduceIte]
 refine callW [] [5] (o) ?_
 simp (maxSteps := 1000000) (disch := (first | omega | (simp only [lnA, List.length_map, List.length_range, true_and, and_true]; (try omega); done) | fail)) only [go_sem, Int.reduceEq, Int.reduceToNat, Nat.reduceAdd, Nat.reduceMul, Nat.reduceEqDiff, ↓reduceIte]
 refine callW [some 1] [] (r) ?_
 simp (maxSteps := 1000000) (disch := (first | omega | (simp only [lnA, List.length_map, List.length_range, true_and, and_true]; (try omega); done) | fail)) only [go_sem, Int.reduceEq, Int.reduceToNat, Nat.reduceAdd, Nat.reduceMul, Nat.reduceEqDiff, ↓reduceIte]
 exact endW [some 0, some 1, some 2] hQ
end Go.Proofs.YtpkfddfkacijoaaGreatDoor
