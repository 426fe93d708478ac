import Derived.Test.YteookgjmohokiaaGreatWb
import Derived.Test.YteookgjmohokiaaGreatE6
import Derived.Test.YteookgjmohokiaaGreatPk
namespace Go.Vx
open Go.Eng
set_option linter.unusedSimpArgs false
set_option linter.unusedVariables false
theorem wrK_all {α : Type} {l c : List α} {F : List α → Prop} (h : l.length = c.length) : wrK l 0 c F = F c := by
  unfold wrK
  rw [if_pos (by omega), Nat.zero_add, ← h, List.drop_length, List.take_zero, List.nil_append, List.append_nil]
end Go.Vx
namespace Go.Proofs.YteookgjmohokiaaGreat
open Go.Eng Go.Vx
set_option linter.unusedSimpArgs false
set_option linter.unusedVariables false
set_option maxRecDepth 100000
def tabV (i : Nat) : List V := (tabTo i).map V.lit
theorem tabV_len {i : Nat} (h : i ≤ 256) : (tabV i).length = 256 := by unfold tabV; rw [List.length_map, tabTo_len h]
theorem tabV_zero : tabV 0 = List.map V.lit (List.replicate 256 (.int .u32 0)) := by unfold tabV; rw [tabTo_zero]
theorem tabV_set {i : Nat} (h : i < 256) : (tabV i).set i (.lit (.int .u32 ((entry i : Nat) : Int))) = tabV (i + 1) := by
  unfold tabV
  rw [← tabTo_set h, List.map_set]
  rfl
theorem tabV_at {m : Nat} {G : V → Prop} (h : m < 256) : atK (tabV 256) m G = G (.lit (.int .u32 ((entry m : Nat) : Int))) := by
  unfold atK tabV
  rw [List.getElem?_map, tabTo_get h]
  rfl
theorem pln_lits : ∀ C : List Value, pln.plnL (C.map V.lit) = true
  | [] => rfl
  | c :: C => by
    show (true && pln.plnL (C.map V.lit)) = true
    rw [pln_lits C]; rfl
theorem mVs_tab {ok : Nat → Bool} {π : Pi} {σ : St} {i : Nat} : mVs ok π σ (tabV i) (tabV i) = True := eq_true (mVs_pln (pln_lits _))
attribute [go_sem ↓] mVs_tab
theorem table_fn : Fn1 Tryz.prog 94 [] [] (.agg (tabV 256)) [] := by
  refine fn1N_of pl94 (by kernel_rfl) Tryz.call94 Tryz.func94 rfl (by kernel_rfl) rfl [.cell 0 171] (by kernel_rfl) fun Q hQ => ?_
  simp (maxSteps := 1000000) (disch := (first | omega | (simp only [lnA, List.length_map, List.length_range, true_and, and_true]; (try omega); done) | fail)) only [go_sem, Int.reduceEq, Int.reduceToNat, Nat.reduceAdd, Nat.reduceMul, Nat.reduceEqDiff, ↓reduceIte]
  rw [← tabV_zero]
  refine loopW (X := Nat) (st := fun i => ([(0, .ref 0 0 0 0), (1, .ref 1 0 0 0), (5, .lit (.int .i64 (i : Int)))], [some (.cells (tabV 0)), some (.cells (tabV i))]))
    (inv := fun i => i ≤ 256) (m := fun i => 256 - i) 0 [some 0, some 1] (by omega) ?_
  intro i hi
  have hl := tabV_len hi
  have hl0 := tabV_len (i := 0) (by omega)
  by_cases h : i < 256
  · simp (maxSteps := 1000000) (disch := (first | omega | (simp only [lnA, List.length_map, List.length_range, true_and, and_true]; (try omega); done) | fail)) only [go_sem, Int.reduceEq, Int.reduceToNat, Nat.reduceAdd, Nat.reduceMul, Nat.reduceEqDiff, ↓reduceIte]
    refine LoopV_of (X := Nat) (st := fun k => ([(0, .ref 0 0 0 0), (1, .ref 1 0 0 0), (2, .lit (.int .i64 (i : Int))), (3, .lit (.int .u32 ((tsteps i k : Nat) : Int))), (5, .lit (.int .i64 (i : Int))), (10, .lit (.int .i64 (k : Int)))], [some (.cells (tabV 0)), some (.cells (tabV i))]))
      (inv := fun k => k ≤ 8) (m := fun k => 8 - k) 0 [some 0, some 1] rfl (by simp (disch := (first | omega | (simp only [lnA, List.length_map, List.length_range, true_and, and_true]; (try omega); done) | fail)) only [go_sem, Int.reduceEq, Int.reduceToNat, Nat.reduceAdd, Nat.reduceMul, Nat.reduceEqDiff, ↓reduceIte, true_and, and_true, and_self, List.drop_zero, List.take_length, Nat.le_refl, V.lit.injEq, Value.int.injEq, Value.bool.injEq]; try (first | omega | (simp; done) | (simp; omega))) (by rw [show tsteps i 0 = i from rfl]; (simp (disch := (first | omega | (simp only [lnA, List.length_map, List.length_range, true_and, and_true]; (try omega); done) | fail)) only [go_sem, Int.reduceEq, Int.reduceToNat, Nat.reduceAdd, Nat.reduceMul, Nat.reduceEqDiff, ↓reduceIte, true_and, and_true, and_self, List.drop_zero, List.take_length, Nat.le_refl, V.lit.injEq, Value.int.injEq, Value.bool.injEq]; try (first | omega | (simp; done) | (simp; omega)))) (by omega) ?_
    intro k hk
    have hlt := tsteps_lt (c := i) (by omega) k
    by_cases h8 : k < 8
    · have hs : tsteps i (k + 1) = tstep (tsteps i k) := rfl
      generalize tsteps i k = c at *
      unfold tstep at hs
      have hcd : (c : Int) / 2 = ((c / 2 : Nat) : Int) := by omega
      have hx : bitK .xor .u32 ((c / 2 : Nat) : Int) 3988292384 = ((c / 2 ^^^ 3988292384 : Nat) : Int) := xor_u32 (x := c / 2) (y := 3988292384) (by omega) (by decide)
      have hm : (c : Int) % 2 = ((c % 2 : Nat) : Int) := by omega
      by_cases ho : c % 2 = 1
      · rw [if_pos ho] at hs
        simp (maxSteps := 1000000) (disch := (first | omega | (simp only [lnA, List.length_map, List.length_range, true_and, and_true]; (try omega); done) | fail)) only [go_sem, hcd, hx, Int.reduceEq, Int.reduceToNat, Nat.reduceAdd, Nat.reduceMul, Nat.reduceEqDiff, ↓reduceIte]
        refine NextV_of (k + 1) [some 0, some 1] rfl (by simp (disch := (first | omega | (simp only [lnA, List.length_map, List.length_range, true_and, and_true]; (try omega); done) | fail)) only [go_sem, Int.reduceEq, Int.reduceToNat, Nat.reduceAdd, Nat.reduceMul, Nat.reduceEqDiff, ↓reduceIte, true_and, and_true, and_self, List.drop_zero, List.take_length, Nat.le_refl, V.lit.injEq, Value.int.injEq, Value.bool.injEq]; try (first | omega | (simp; done) | (simp; omega))) (by dsimp only; rw [hs]; (simp (disch := (first | omega | (simp only [lnA, List.length_map, List.length_range, true_and, and_true]; (try omega); done) | fail)) only [go_sem, Int.reduceEq, Int.reduceToNat, Nat.reduceAdd, Nat.reduceMul, Nat.reduceEqDiff, ↓reduceIte, true_and, and_true, and_self, List.drop_zero, List.take_length, Nat.le_refl, V.lit.injEq, Value.int.injEq, Value.bool.injEq]; try (first | omega | (simp; done) | (simp; omega)))) (by omega) (by omega)
      · rw [if_neg ho] at hs
        simp (maxSteps := 1000000) (disch := (first | omega | (simp only [lnA, List.length_map, List.length_range, true_and, and_true]; (try omega); done) | fail)) only [go_sem, hcd, hx, Int.reduceEq, Int.reduceToNat, Nat.reduceAdd, Nat.reduceMul, Nat.reduceEqDiff, ↓reduceIte]
        refine NextV_of (k + 1) [some 0, some 1] rfl (by simp (disch := (first | omega | (simp only [lnA, List.length_map, List.length_range, true_and, and_true]; (try omega); done) | fail)) only [go_sem, Int.reduceEq, Int.reduceToNat, Nat.reduceAdd, Nat.reduceMul, Nat.reduceEqDiff, ↓reduceIte, true_and, and_true, and_self, List.drop_zero, List.take_length, Nat.le_refl, V.lit.injEq, Value.int.injEq, Value.bool.injEq]; try (first | omega | (simp; done) | (simp; omega))) (by dsimp only; rw [hs]; (simp (disch := (first | omega | (simp only [lnA, List.length_map, List.length_range, true_and, and_true]; (try omega); done) | fail)) only [go_sem, Int.reduceEq, Int.reduceToNat, Nat.reduceAdd, Nat.reduceMul, Nat.reduceEqDiff, ↓reduceIte, true_and, and_true, and_self, List.drop_zero, List.take_length, Nat.le_refl, V.lit.injEq, Value.int.injEq, Value.bool.injEq]; try (first | omega | (simp; done) | (simp; omega)))) (by omega) (by omega)
    · obtain rfl : k = 8 := by omega
      have hts := tabV_set h
      rw [show tsteps i 8 = entry i from rfl]
      simp (maxSteps := 1000000) (disch := (first | omega | (simp only [lnA, List.length_map, List.length_range, true_and, and_true]; (try omega); done) | fail)) only [go_sem, wrK_one, hts, Int.reduceEq, Int.reduceToNat, Nat.reduceAdd, Nat.reduceMul, Nat.reduceEqDiff, ↓reduceIte]
      refine nextW (i + 1) [some 0, some 1] (by omega) (by omega)
  · obtain rfl : i = 256 := by omega
    simp (maxSteps := 1000000) (disch := (first | omega | (simp only [lnA, List.length_map, List.length_range, true_and, and_true]; (try omega); done) | fail)) only [go_sem, tkK_all, wrK_all, Int.reduceEq, Int.reduceToNat, Nat.reduceAdd, Nat.reduceMul, Nat.reduceEqDiff, ↓reduceIte]
    exact endW [] hQ
theorem wrap8_nat (y : Nat) : IntKind.u8.wrap (y : Int) = ((y % 256 : Nat) : Int) := by
  unfold IntKind.wrap
  have e : IntKind.u8.bits = 8 := rfl
  have e2 : IntKind.u8.signed = false := rfl
  rw [e, e2]
  simp
theorem ms_cast {c b : Nat} (hc : c < 4294967296) (hb : b < 256) :
    bitK .xor .u8 ((c % 256 : Nat) : Int) (b : Int) = ((c % 256 ^^^ b : Nat) : Int) ∧ c % 256 ^^^ b < 256 ∧ bitK .xor .u32 ((entry (c % 256 ^^^ b) : Nat) : Int) ((c : Int) / 256) = ((ms c b : Nat) : Int) := by
  have h1 : (c : Int) % 256 = ((c % 256 : Nat) : Int) := by omega
  have h2 : (c : Int) / 256 = ((c / 256 : Nat) : Int) := by omega
  have h3 : c % 256 ^^^ b < 256 := Nat.xor_lt_two_pow (n := 8) (Nat.mod_lt _ (by decide)) hb
  refine ⟨by rw [xor_u8 (by omega) hb], h3, ?_⟩
  rw [h2, xor_u32 (entry_lt h3) (by omega)]
  rfl
theorem not32 {c : Nat} (h : c < 4294967296) : bitK .xor .u32 (if IntKind.u32.signed then -1 else IntKind.u32.max) (c : Int) = ((4294967295 - c : Nat) : Int) := by
  have e : (if IntKind.u32.signed then (-1 : Int) else IntKind.u32.max) = ((4294967295 : Nat) : Int) := by decide
  rw [e, xor_u32 (by omega) h, Nat.xor_comm, ← xor_le32 h]
theorem more_fn {l : List Nat} {s : Nat} (hl : ∀ x ∈ l, x < 256) (hm : l.length < 4294967296) (hs : s < 4294967296) : Fn1 Tryz.prog 78 [.lit (.int .u32 s), .row 1 ((nl l).map (ie .u8))] [] (.lit (.int .u32 ((4294967295 - crcN (4294967295 - s) l : Nat) : Int))) [] := by
  refine fn1N_of pl78 (by kernel_rfl) Tryz.call78 Tryz.func78 rfl (by kernel_rfl) rfl [.tmp 4] (by kernel_rfl) fun Q hQ => ?_
  have hnl := nl_len l
  have hl0 := tabV_len (i := 256) (by omega)
  simp (maxSteps := 1000000) (disch := (first | omega | (simp only [lnA, List.length_map, List.length_range, true_and, and_true]; (try omega); done) | fail)) only [go_sem, Int.reduceEq, Int.reduceToNat, Nat.reduceAdd, Nat.reduceMul, Nat.reduceEqDiff, ↓reduceIte]
  refine callV0 (table_fn) rfl rfl ?_
  have hns := not32 hs
  have h1c : oneC (Value.int .u32 0) = true := rfl
  simp (maxSteps := 1000000) (disch := (first | omega | (simp only [lnA, List.length_map, List.length_range, true_and, and_true]; (try omega); done) | fail)) only [go_sem, wrK_all, hns, false_or, h1c, lenK_of, Int.reduceEq, Int.reduceToNat, Nat.reduceAdd, Nat.reduceMul, Nat.reduceEqDiff, ↓reduceIte]
  refine LoopV_of (X := Nat) (st := fun i => ([(5, .ref 0 0 0 0), (6, .lit (.int .u32 ((crcN (4294967295 - s) (l.take i) : Nat) : Int))), (12, .row 1 ((nl l).map (ie .u8))), (13, .lit (.int .i64 (l.length : Int))), (14, .lit (.int .i64 (i : Int)))], [some (.cells (tabV 256))]))
    (inv := fun i => i ≤ l.length) (m := fun i => l.length - i) 0 [some 0] rfl (by simp (disch := (first | omega | (simp only [lnA, List.length_map, List.length_range, true_and, and_true]; (try omega); done) | fail)) only [go_sem, Int.reduceEq, Int.reduceToNat, Nat.reduceAdd, Nat.reduceMul, Nat.reduceEqDiff, ↓reduceIte, true_and, and_true, and_self, List.drop_zero, List.take_length, Nat.le_refl, V.lit.injEq, Value.int.injEq, Value.bool.injEq]; try (first | omega | (simp; done) | (simp; omega))) (by rw [List.take_zero, show crcN (4294967295 - s) [] = 4294967295 - s from rfl]; (simp (disch := (first | omega | (simp only [lnA, List.length_map, List.length_range, true_and, and_true]; (try omega); done) | fail)) only [go_sem, Int.reduceEq, Int.reduceToNat, Nat.reduceAdd, Nat.reduceMul, Nat.reduceEqDiff, ↓reduceIte, true_and, and_true, and_self, List.drop_zero, List.take_length, Nat.le_refl, V.lit.injEq, Value.int.injEq, Value.bool.injEq]; try (first | omega | (simp; done) | (simp; omega)))) (by omega) ?_
  intro i hi
  have hlt := crcN_lt (l := l.take i) (c := 4294967295 - s) (fun x hx => hl x (List.mem_of_mem_take hx)) (by omega)
  by_cases h : i < l.length
  · have hg := nl_get l i
    have hb := getD_lt256 hl i
    have hn : crcN (4294967295 - s) (l.take (i + 1)) = ms (crcN (4294967295 - s) (l.take i)) (l.getD i 0) := by rw [take_succ_N h, crcN_app]; rfl
    generalize crcN (4294967295 - s) (l.take i) = c at *
    generalize l.getD i 0 = b at *
    obtain ⟨m1, m2, m3⟩ := ms_cast (b := b) hlt hb
    have ha := tabV_at (m := c % 256 ^^^ b) (G := fun v => True) m2
    simp (maxSteps := 1000000) (disch := (first | omega | (simp only [lnA, List.length_map, List.length_range, true_and, and_true]; (try omega); done) | fail)) only [go_sem, hg, wrap8_nat, m1, tabV_at m2, m3, Int.reduceEq, Int.reduceToNat, Nat.reduceAdd, Nat.reduceMul, Nat.reduceEqDiff, ↓reduceIte]
    refine NextV_of (i + 1) [some 0] rfl (by simp (disch := (first | omega | (simp only [lnA, List.length_map, List.length_range, true_and, and_true]; (try omega); done) | fail)) only [go_sem, Int.reduceEq, Int.reduceToNat, Nat.reduceAdd, Nat.reduceMul, Nat.reduceEqDiff, ↓reduceIte, true_and, and_true, and_self, List.drop_zero, List.take_length, Nat.le_refl, V.lit.injEq, Value.int.injEq, Value.bool.injEq]; try (first | omega | (simp; done) | (simp; omega))) (by dsimp only; rw [hn]; (simp (disch := (first | omega | (simp only [lnA, List.length_map, List.length_range, true_and, and_true]; (try omega); done) | fail)) only [go_sem, Int.reduceEq, Int.reduceToNat, Nat.reduceAdd, Nat.reduceMul, Nat.reduceEqDiff, ↓reduceIte, true_and, and_true, and_self, List.drop_zero, List.take_length, Nat.le_refl, V.lit.injEq, Value.int.injEq, Value.bool.injEq]; try (first | omega | (simp; done) | (simp; omega)))) (by omega) (by omega)
  · have hns2 := not32 hlt
    obtain rfl : i = l.length := by omega
    rw [List.take_length] at *
    simp (maxSteps := 1000000) (disch := (first | omega | (simp only [lnA, List.length_map, List.length_range, true_and, and_true]; (try omega); done) | fail)) only [go_sem, hns2, Int.reduceEq, Int.reduceToNat, Nat.reduceAdd, Nat.reduceMul, Nat.reduceEqDiff, ↓reduceIte]
    exact endW [] hQ
theorem sum_fn {l : List Nat} (hl : ∀ x ∈ l, x < 256) (hm : l.length < 4294967296) : Fn1 Tryz.prog 59 [.row 1 ((nl l).map (ie .u8))] [] (.lit (.int .u32 ((crcS l : Nat) : Int))) [] := by
  refine fn1N_of pl59 (by kernel_rfl) Tryz.call59 Tryz.func59 rfl (by kernel_rfl) rfl [.tmp 2] (by kernel_rfl) fun Q hQ => ?_
  have h0 := more_fn (l := l) (s := 0) hl hm (by decide)
  rw [Nat.sub_zero, show 4294967295 - crcN 4294967295 l = crcS l from rfl] at h0
  simp (maxSteps := 1000000) (disch := (first | omega | (simp only [lnA, List.length_map, List.length_range, true_and, and_true]; (try omega); done) | fail)) only [go_sem, Int.reduceEq, Int.reduceToNat, Nat.reduceAdd, Nat.reduceMul, Nat.reduceEqDiff, ↓reduceIte]
  refine callV0 (h0) rfl rfl ?_
  simp (maxSteps := 1000000) (disch := (first | omega | (simp only [lnA, List.length_map, List.length_range, true_and, and_true]; (try omega); done) | fail)) only [go_sem, Int.reduceEq, Int.reduceToNat, Nat.reduceAdd, Nat.reduceMul, Nat.reduceEqDiff, ↓reduceIte]
  exact endW [] hQ
theorem cloneO_fn {B : List Int} (hB : B.length ≤ 140737488355327) : Fn1 Tryz.prog 58 [.row 1 (B.map (ie .u8))] [] (.sl 0 1 0 B.length) [some (.row 1 (B.map (ie .u8)))] := by
  refine fn1N_of pl58 (by kernel_rfl) Tryz.call58 Tryz.func58 rfl (by kernel_rfl) rfl [.tmp 2] (by kernel_rfl) fun Q hQ => ?_
  by_cases h : B = []
  · subst h
    simp (maxSteps := 1000000) (disch := (first | omega | (simp only [lnA, List.length_map, List.length_range, true_and, and_true]; (try omega); done) | fail)) only [go_sem, List.isEmpty_nil, Int.reduceEq, Int.reduceToNat, Nat.reduceAdd, Nat.reduceMul, Nat.reduceEqDiff, ↓reduceIte]
    refine nilB_both ?_ ?_
    · simp (maxSteps := 1000000) (disch := (first | omega | (simp only [lnA, List.length_map, List.length_range, true_and, and_true]; (try omega); done) | fail)) only [go_sem, Int.reduceEq, Int.reduceToNat, Nat.reduceAdd, Nat.reduceMul, Nat.reduceEqDiff, ↓reduceIte]
      exact endW [none] hQ
    · simp (maxSteps := 1000000) (disch := (first | omega | (simp only [lnA, List.length_map, List.length_range, true_and, and_true]; (try omega); done) | fail)) only [go_sem, Int.reduceEq, Int.reduceToNat, Nat.reduceAdd, Nat.reduceMul, Nat.reduceEqDiff, ↓reduceIte]
      exact endW [some 1] hQ
  · have he : (B.map (ie .u8)).isEmpty = false := by simp [h]
    simp (maxSteps := 1000000) (disch := (first | omega | (simp only [lnA, List.length_map, List.length_range, true_and, and_true]; (try omega); done) | fail)) only [go_sem, he, Int.reduceEq, Int.reduceToNat, Nat.reduceAdd, Nat.reduceMul, Nat.reduceEqDiff, ↓reduceIte]
    exact endW [some 1] hQ
theorem be4N_at (s j : Nat) (hj : j < 4) : (be4N s).getD j 0 = s / 2 ^ (8 * (3 - j)) % 256 := by
  rcases (show j = 0 ∨ j = 1 ∨ j = 2 ∨ j = 3 by omega) with rfl | rfl | rfl | rfl <;> simp [be4N]
theorem seal_fn {l : List Nat} (hl : ∀ x ∈ l, x < 256) (hm : l.length < 1000000) : Fn1 Tryz.prog 31 [.row 1 ((nl l).map (ie .u8))] [] (.row 1 ((nl (sealN l)).map (ie .u8))) [] := by
  refine fn1N_of pl31 (by kernel_rfl) Tryz.call31 Tryz.func31 rfl (by kernel_rfl) rfl [.tmp 2] (by kernel_rfl) fun Q hQ => ?_
  have hnl := nl_len l
  simp (maxSteps := 1000000) (disch := (first | omega | (simp only [lnA, List.length_map, List.length_range, true_and, and_true]; (try omega); done) | fail)) only [go_sem, Int.reduceEq, Int.reduceToNat, Nat.reduceAdd, Nat.reduceMul, Nat.reduceEqDiff, ↓reduceIte]
  refine callW [] [] (cloneO_fn (B := nl l) (by omega)) ?_
  simp (maxSteps := 1000000) (disch := (first | omega | (simp only [lnA, List.length_map, List.length_range, true_and, and_true]; (try omega); done) | fail)) only [go_sem, Int.reduceEq, Int.reduceToNat, Nat.reduceAdd, Nat.reduceMul, Nat.reduceEqDiff, ↓reduceIte]
  refine callV0 (sum_fn hl (by omega)) rfl rfl ?_
  simp (maxSteps := 1000000) (disch := (first | omega | (simp only [lnA, List.length_map, List.length_range, true_and, and_true]; (try omega); done) | fail)) only [go_sem, Int.reduceEq, Int.reduceToNat, Nat.reduceAdd, Nat.reduceMul, Nat.reduceEqDiff, ↓reduceIte]
  have hs := sumN_lt l
  refine LoopV_of (X := Nat) (st := fun j => ([(3, .sl 0 1 0 (l.length + j)), (4, .lit (.int .i64 (3 - (j : Int)))), (5, .lit (.int .u32 ((crcS l : Nat) : Int)))], [some (.row 1 ((nl (l ++ (be4N (crcS l)).take j)).map (ie .u8)))]))
    (inv := fun j => j ≤ 4) (m := fun j => 4 - j) 0 [some 0] rfl (by rw [List.take_zero, List.append_nil]; (simp (disch := (first | omega | (simp only [lnA, List.length_map, List.length_range, true_and, and_true]; (try omega); done) | fail)) only [go_sem, Int.reduceEq, Int.reduceToNat, Nat.reduceAdd, Nat.reduceMul, Nat.reduceEqDiff, ↓reduceIte, true_and, and_true, and_self, List.drop_zero, List.take_length, Nat.le_refl, V.lit.injEq, Value.int.injEq, Value.bool.injEq]; try (first | omega | (simp; done) | (simp; omega)))) (by simp (disch := (first | omega | (simp only [lnA, List.length_map, List.length_range, true_and, and_true]; (try omega); done) | fail)) only [go_sem, Int.reduceEq, Int.reduceToNat, Nat.reduceAdd, Nat.reduceMul, Nat.reduceEqDiff, ↓reduceIte, true_and, and_true, and_self, List.drop_zero, List.take_length, Nat.le_refl, V.lit.injEq, Value.int.injEq, Value.bool.injEq]; try (first | omega | (simp; done) | (simp; omega))) (by omega) ?_
  intro j hj
  have hll : (nl (l ++ (be4N (crcS l)).take j)).length = l.length + j := by rw [nl_len]; simp [be4N]; omega
  by_cases h : j < 4
  · have ht : nl (l ++ (be4N (crcS l)).take (j + 1)) = nl (l ++ (be4N (crcS l)).take j) ++ [((crcS l / 2 ^ (8 * (3 - j)) % 256 : Nat) : Int)] := by
      rw [take_succ_N (by simp [be4N]; omega), be4N_at _ _ h]; simp [nl]
    have h83 : ((8 : Int) * (3 - (j : Int))).toNat = 8 * (3 - j) := by omega
    have hdv := div_nat (crcS l) (8 * (3 - j))
    generalize crcS l / 2 ^ (8 * (3 - j)) = q at *
    simp (maxSteps := 1000000) (disch := (first | omega | (simp only [lnA, List.length_map, List.length_range, true_and, and_true]; (try omega); done) | fail)) only [go_sem, h83, hdv, wrap8_nat, Int.reduceEq, Int.reduceToNat, Nat.reduceAdd, Nat.reduceMul, Nat.reduceEqDiff, ↓reduceIte]
    refine NextV_of (j + 1) [some 2] rfl (by dsimp only; rw [ht]; (simp (disch := (first | omega | (simp only [lnA, List.length_map, List.length_range, true_and, and_true]; (try omega); done) | fail)) only [go_sem, Int.reduceEq, Int.reduceToNat, Nat.reduceAdd, Nat.reduceMul, Nat.reduceEqDiff, ↓reduceIte, true_and, and_true, and_self, List.drop_zero, List.take_length, Nat.le_refl, V.lit.injEq, Value.int.injEq, Value.bool.injEq]; try (first | omega | (simp; done) | (simp; omega)))) (by simp (disch := (first | omega | (simp only [lnA, List.length_map, List.length_range, true_and, and_true]; (try omega); done) | fail)) only [go_sem, Int.reduceEq, Int.reduceToNat, Nat.reduceAdd, Nat.reduceMul, Nat.reduceEqDiff, ↓reduceIte, true_and, and_true, and_self, List.drop_zero, List.take_length, Nat.le_refl, V.lit.injEq, Value.int.injEq, Value.bool.injEq]; try (first | omega | (simp; done) | (simp; omega))) (by omega) (by omega)
  · obtain rfl : j = 4 := by omega
    have e : l ++ (be4N (crcS l)).take 4 = sealN l := rfl
    rw [e] at *
    have hsl := sealN_len l
    have hns := nl_len (sealN l)
    simp (maxSteps := 1000000) (disch := (first | omega | (simp only [lnA, List.length_map, List.length_range, true_and, and_true]; (try omega); done) | fail)) only [go_sem, Int.reduceEq, Int.reduceToNat, Nat.reduceAdd, Nat.reduceMul, Nat.reduceEqDiff, ↓reduceIte]
    exact endW [] hQ
theorem equalB_fn {A B : List Int} (hA : A.length ≤ 1099511627776) (hB : B.length ≤ 1099511627776) : Fn1 Tryz.prog 40 [.row 1 (A.map (ie .u8)), .row 1 (B.map (ie .u8))] [] (.lit (.bool (decide (A = B)))) [] := by
  refine fn1N_of pl40 (by kernel_rfl) Tryz.call40 Tryz.func40 rfl (by kernel_rfl) rfl [.tmp 4] (by kernel_rfl) fun Q hQ => ?_
  by_cases hl : A.length = B.length
  · simp (maxSteps := 1000000) (disch := (first | omega | (simp only [lnA, List.length_map, List.length_range, true_and, and_true]; (try omega); done) | fail)) only [go_sem, Int.reduceEq, Int.reduceToNat, Nat.reduceAdd, Nat.reduceMul, Nat.reduceEqDiff, ↓reduceIte]
    refine loopW (X := Nat) (st := fun i => ([(0, .row 1 (A.map (ie .u8))), (1, .row 1 (B.map (ie .u8))), (12, .lit (.int .i64 (A.length : Int))), (13, .lit (.int .i64 (i : Int)))], []))
      (inv := fun i => i ≤ A.length ∧ A.take i = B.take i) (m := fun i => A.length - i) 0 [] ⟨by omega, by simp⟩ ?_
    rintro i ⟨hi, ht⟩
    by_cases h : i < A.length
    · have hs := takeI_succ h (show i < B.length by omega)
      by_cases he : A.getD i 0 = B.getD i 0
      · simp (maxSteps := 1000000) (disch := (first | omega | (simp only [lnA, List.length_map, List.length_range, true_and, and_true]; (try omega); done) | fail)) only [go_sem, Int.reduceEq, Int.reduceToNat, Nat.reduceAdd, Nat.reduceMul, Nat.reduceEqDiff, ↓reduceIte]
        refine nextW (i + 1) [] ⟨by omega, hs.2 ⟨ht, he⟩⟩ (by omega)
      · simp (maxSteps := 1000000) (disch := (first | omega | (simp only [lnA, List.length_map, List.length_range, true_and, and_true]; (try omega); done) | fail)) only [go_sem, Int.reduceEq, Int.reduceToNat, Nat.reduceAdd, Nat.reduceMul, Nat.reduceEqDiff, ↓reduceIte]
        rw [decide_eq_false (fun e => he (by rw [e]))] at hQ
        exact endW [] hQ
    · obtain rfl : i = A.length := by omega
      rw [List.take_length, hl, List.take_length] at ht
      rw [decide_eq_true ht] at hQ
      simp (maxSteps := 1000000) (disch := (first | omega | (simp only [lnA, List.length_map, List.length_range, true_and, and_true]; (try omega); done) | fail)) only [go_sem, Int.reduceEq, Int.reduceToNat, Nat.reduceAdd, Nat.reduceMul, Nat.reduceEqDiff, ↓reduceIte]
      exact endW [] hQ
  · rw [decide_eq_false (fun e => hl (by rw [e]))] at hQ
    simp (maxSteps := 1000000) (disch := (first | omega | (simp only [lnA, List.length_map, List.length_range, true_and, and_true]; (try omega); done) | fail)) only [go_sem, Int.reduceEq, Int.reduceToNat, Nat.reduceAdd, Nat.reduceMul, Nat.reduceEqDiff, ↓reduceIte]
    exact endW [] hQ
theorem nl_take (l : List Nat) (n : Nat) : (nl l).take n = nl (l.take n) := by simp [nl, List.map_take]
theorem open_fn {l : List Nat} (hl : ∀ x ∈ l, x < 256) (hm : l.length < 1000000) (h4 : 4 ≤ l.length) (h : sealN (l.take (l.length - 4)) = l) : Fn1 Tryz.prog 35 [.row 1 ((nl l).map (ie .u8))] [] (.tup [.row 1 ((nl (l.take (l.length - 4))).map (ie .u8)), .lit (.int .i64 0)]) [] := by
  refine fn1N_of pl35 (by kernel_rfl) Tryz.call35 Tryz.func35 rfl (by kernel_rfl) rfl [.tmp 2, .tmp 3] (by kernel_rfl) fun Q hQ => ?_
  have hnl := nl_len l
  have ht : ((l.length : Int) - 4).toNat = l.length - 4 := by omega
  have htk := nl_take l (l.length - 4)
  have hll : (l.take (l.length - 4)).length = l.length - 4 := by simp
  have hnt := nl_len (l.take (l.length - 4))
  simp (maxSteps := 1000000) (disch := (first | omega | (simp only [lnA, List.length_map, List.length_range, true_and, and_true]; (try omega); done) | fail)) only [go_sem, hnl, ht, htk, Int.reduceEq, Int.reduceToNat, Nat.reduceAdd, Nat.reduceMul, Nat.reduceEqDiff, ↓reduceIte]
  refine callV0 (seal_fn (l := l.take (l.length - 4)) (fun x hx => hl x (List.mem_of_mem_take hx)) (by omega)) rfl rfl ?_
  rw [h]
  simp (maxSteps := 1000000) (disch := (first | omega | (simp only [lnA, List.length_map, List.length_range, true_and, and_true]; (try omega); done) | fail)) only [go_sem, Int.reduceEq, Int.reduceToNat, Nat.reduceAdd, Nat.reduceMul, Nat.reduceEqDiff, ↓reduceIte]
  refine callV0 (equalB_fn (A := nl l) (B := nl l) (by omega) (by omega)) rfl rfl ?_
  rw [decide_eq_true rfl]
  simp (maxSteps := 1000000) (disch := (first | omega | (simp only [lnA, List.length_map, List.length_range, true_and, and_true]; (try omega); done) | fail)) only [go_sem, hnl, ht, htk, Int.reduceEq, Int.reduceToNat, Nat.reduceAdd, Nat.reduceMul, Nat.reduceEqDiff, ↓reduceIte]
  refine callV0 (cloneB_fn (B := nl (l.take (l.length - 4))) (by omega)) rfl rfl ?_
  simp (maxSteps := 1000000) (disch := (first | omega | (simp only [lnA, List.length_map, List.length_range, true_and, and_true]; (try omega); done) | fail)) only [go_sem, Int.reduceEq, Int.reduceToNat, Nat.reduceAdd, Nat.reduceMul, Nat.reduceEqDiff, ↓reduceIte]
  exact endW [] hQ
theorem openB_fn {l : List Nat} (hl : ∀ x ∈ l, x < 256) (hm : l.length < 1000000) (h4 : 4 ≤ l.length) (h : sealN (l.take (l.length - 4)) ≠ l) : Fn1 Tryz.prog 35 [.row 1 ((nl l).map (ie .u8))] [] (.tup [.lit (.slice none 0 0), .lit (.int .i64 6)]) [] := by
  refine fn1N_of pl35 (by kernel_rfl) Tryz.call35 Tryz.func35 rfl (by kernel_rfl) rfl [.tmp 2, .tmp 3] (by kernel_rfl) fun Q hQ => ?_
  have hnl := nl_len l
  have ht : ((l.length : Int) - 4).toNat = l.length - 4 := by omega
  have htk := nl_take l (l.length - 4)
  have hll : (l.take (l.length - 4)).length = l.length - 4 := by simp
  have hnt := nl_len (l.take (l.length - 4))
  have hsl := sealN_len (l.take (l.length - 4))
  have hns := nl_len (sealN (l.take (l.length - 4)))
  simp (maxSteps := 1000000) (disch := (first | omega | (simp only [lnA, List.length_map, List.length_range, true_and, and_true]; (try omega); done) | fail)) only [go_sem, hnl, ht, htk, Int.reduceEq, Int.reduceToNat, Nat.reduceAdd, Nat.reduceMul, Nat.reduceEqDiff, ↓reduceIte]
  refine callV0 (seal_fn (l := l.take (l.length - 4)) (fun x hx => hl x (List.mem_of_mem_take hx)) (by omega)) rfl rfl ?_
  simp (maxSteps := 1000000) (disch := (first | omega | (simp only [lnA, List.length_map, List.length_range, true_and, and_true]; (try omega); done) | fail)) only [go_sem, Int.reduceEq, Int.reduceToNat, Nat.reduceAdd, Nat.reduceMul, Nat.reduceEqDiff, ↓reduceIte]
  refine callV0 (equalB_fn (A := nl (sealN (l.take (l.length - 4)))) (B := nl l) (by omega) (by omega)) rfl rfl ?_
  rw [decide_eq_false (fun e => h (nl_inj.1 e))]
  simp (maxSteps := 1000000) (disch := (first | omega | (simp only [lnA, List.length_map, List.length_range, true_and, and_true]; (try omega); done) | fail)) only [go_sem, Int.reduceEq, Int.reduceToNat, Nat.reduceAdd, Nat.reduceMul, Nat.reduceEqDiff, ↓reduceIte]
  exact endW [] hQ
end Go.Proofs.YteookgjmohokiaaGreat
