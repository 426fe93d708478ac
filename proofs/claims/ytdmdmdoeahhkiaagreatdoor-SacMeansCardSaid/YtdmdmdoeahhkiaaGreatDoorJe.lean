import Derived.Test.YtdmdmdoeahhkiaaGreatDoorJc
import Derived.Test.YtdmdmdoeahhkiaaGreatDoorSu
import Derived.Test.YtdmdmdoeahhkiaaGreatDoorSn
import Derived.Test.YtdmdmdoeahhkiaaGreatDoorNi
namespace Go.Proofs.YtdmdmdoeahhkiaaGreatDoor
open Go.Eng Go.Vx
set_option linter.unusedSimpArgs false
set_option linter.unusedVariables false
set_option maxRecDepth 100000
def wkM (M D S : Nat) (x y : Nat) (a b c : Int) (s : Bool × Bool × Nat × Nat) : St :=
  [some (.cells [.lit (.int .i64 (M : Int)), .lit (.int .i64 (D : Int)), .lit (.int .i64 (S : Int))]), some (.cells [.lit (.bool s.1)]), some (.cells [.lit (.int .i64 (x : Int))]), some (.cells [.lit (.int .i64 (y : Int))]), some (.cells [.lit (.int .i64 a), .lit (.int .i64 b), .lit (.int .i64 c)]),
    some (.cells [.clo 39 [.ref 0 0 0 0, .ref 1 0 0 0, .ref 2 0 0 0, .ref 3 0 0 0, .ref 4 0 0 0, .ref 5 0 0 0, .ref 6 0 0 0, .ref 7 0 0 0]]), some (.cells [.lit (.bool s.2.1)]), some (.cells [.lit (.int .i64 (s.2.2.1 : Int)), .lit (.int .i64 (s.2.2.2 : Int))])]
attribute [go_sem] wkM
theorem valS_le {P : SP} (hP : PW P) {r : SS} (h : r.1.length = 2 ∧ (∀ c ∈ r.1, COk P c) ∧ 1 ≤ r.2.1 ∧ r.2.1 ≤ P.s) (j : Nat) : valS j r ≤ 1048576 := by
  have hc := getD_ok h.2.1 j
  have := hP.m255
  have := hP.d3
  have := hP.s4
  have h1 := hc.1
  have h2 := hc.2.1
  have h3 := h.2.2.2
  have := wth_le (c := r.1.getD j (0, 0)) (s := r.2.1) (A := 255) (by omega) (by omega) (by omega)
  unfold valS
  omega
def argsM (L : List Bool) : List V := [.row 1 (L.map be), .ref 0 0 0 0, .ref 1 0 0 0, .ref 2 0 0 0, .ref 3 0 0 0, .ref 4 0 0 0, .ref 5 0 0 0, .ref 6 0 0 0, .ref 7 0 0 0]
attribute [go_sem] argsM
theorem sub_ask {α : Type} {g h : DT α} : (DT.ask g h).sub [false] = g ∧ (DT.ask g h).sub [true] = h := ⟨by cases g <;> rfl, by cases h <;> rfl⟩
set_option maxHeartbeats 16000000 in
theorem walkM_step {M D S x y z f : Nat} {a b c : Int} {L : List Bool} {s : Bool × Bool × Nat × Nat} (hw : WB M D S) (hx : x ≤ 7) (hy : y ≤ 3) (hz : z ≤ 3) (hc : c % 4 = (z : Int)) (hf : L.length + f = 11)
    (hs1 : s.2.2.1 + 1048576 * 2 ^ f ≤ 1099511627776) (hs2 : s.2.2.2 + 1048576 * 2 ^ f ≤ 1099511627776)
    (ih : ∀ g, f = g + 1 → ∀ (v : Bool) (s : Bool × Bool × Nat × Nat), s.2.2.1 + 1048576 * 2 ^ g ≤ 1099511627776 → s.2.2.2 + 1048576 * 2 ^ g ≤ 1099511627776 →
      Fn1 Tryz.prog 39 (argsM (L ++ [v])) (wkM M D S x y a b c s) (.tup []) (wkM M D S x y a b c (mTr ((actsD (SPof M D S) x y z).sub (L ++ [v])) g s))) :
    Fn1 Tryz.prog 39 (argsM L) (wkM M D S x y a b c s) (.tup []) (wkM M D S x y a b c (mTr ((actsD (SPof M D S) x y z).sub L) f s)) := by
  have hpw := hw.pw
  have hPs : (SPof M D S).s = S := rfl
  have hn := snew_fn (n := 2) hw.good (by decide)
  rw [show List.replicate 2 ((0 : Nat), (0 : Nat)) = [(0, 0), (0, 0)] from rfl, show ((2 : Nat) : Int) = 2 from rfl] at hn
  have ht := newT_fn (L := L) (by omega)
  have ho := own19_fn (M := M) (D := D) (S := S)
  have hml : (11 : Int) - (L.length : Int) = (f : Int) := by omega
  have hadd := fun (st : SS) (i n q : Nat) (h1 : q ≤ L.length) (h2 : st.1.length = 2) (h3 : i < 2) (h4 : SOk (SPof M D S) st) (h5 : n ≤ 7) => sadd_fn (M := M) (D := D) (S := S) (p := q) (i := i) (n := n) (st := st) (d := false) (L := L) hw (by omega) h1 (fun h => by cases h) (by omega) (by omega) h4 (by omega)
  have hmg := fun (st : SS) (q : Nat) (h1 : q ≤ L.length) (h2 : st.1.length = 2) (h4 : SOk (SPof M D S) st) => smerge_fn (M := M) (D := D) (S := S) (n := 2) (p := q) (x := st) (y := st) (d := false) (L := L) hw (by omega) h1 (fun h => by cases h) (by decide) h2 h2 h4 h4
  have hnone : (actsD (SPof M D S) x y z).run L 0 = none → (f = 0 → mTr ((actsD (SPof M D S) x y z).sub L) f s = (true, s.2)) ∧ ∀ g, f = g + 1 → mTr ((actsD (SPof M D S) x y z).sub L) f s = mTr ((actsD (SPof M D S) x y z).sub (L ++ [true])) g (mTr ((actsD (SPof M D S) x y z).sub (L ++ [false])) g s) := by
    intro h
    obtain ⟨g1, g2, e⟩ := run_none h
    rw [sub_snoc, sub_snoc, e, sub_ask.1, sub_ask.2]
    exact ⟨fun h => by rw [h]; exact mTr_ask0, fun g h => by rw [h]; exact mTr_ask⟩
  have hle : ∀ (v : Bool) (g : Nat) (s : Bool × Bool × Nat × Nat) (A : Nat), s.2.2.1 ≤ A → s.2.2.2 ≤ A → (mTr ((actsD (SPof M D S) x y z).sub (L ++ [v])) g s).2.2.1 ≤ A + 1048576 * 2 ^ g ∧ (mTr ((actsD (SPof M D S) x y z).sub (L ++ [v])) g s).2.2.2 ≤ A + 1048576 * 2 ^ g := fun v g s A h1 h2 =>
    mTr_le (all_sub (all_mono (fun r hr => ⟨valS_le hpw hr 0, valS_le hpw hr 1⟩) (actsD_all hpw))) h1 h2
  have hall := fun (i : Nat) (h : i ≤ 3) => acD_all hpw.toPB (x := x) (y := y) (z := z) i h
  have hact := actsD_all hpw (x := x) (y := y) (z := z)
  have hnx := fun (q i : Nat) (st : SS) (h1 : i < 3) (h2 : (acD (SPof M D S) x y z i).run L 0 = some (st, q)) => acD_next h1 h2
  have hno := fun (i : Nat) (h1 : i ≤ 3) (h2 : (acD (SPof M D S) x y z i).run L 0 = none) => acD_none (P := SPof M D S) (x := x) (y := y) (z := z) h1 h2
  have hla := acD_last (P := SPof M D S) (x := x) (y := y) (z := z) (p := 0) (L := L)
  unfold addR at hadd
  unfold mergeR at hmg
  generalize hP : SPof M D S = P at *
  refine fn1N_of pl39 (by kernel_rfl) Tryz.call39 Tryz.func39 rfl (by kernel_rfl) rfl [] (by kernel_rfl) fun Q hQ => ?_
  refine runW ?_
  refine callW [] [] (ht) ?_
  refine runW ?_
  refine callV0 (ho) rfl rfl ?_
  refine runW ?_
  refine callW [] [] (hn) ?_
  simp (maxSteps := 1000000) (disch := (first | omega | (simp only [lnA, List.length_map, List.length_range, true_and, and_true]; (try omega); done) | fail)) only [go_sem, hc, Int.reduceEq, Int.reduceToNat, Nat.reduceAdd, Nat.reduceMul, Nat.reduceEqDiff, ↓reduceIte]
  refine loopW (X := Nat × SS × Nat) (st := fun u => ([(0, .row 1 (L.map be)), (1, .ref 0 0 0 0), (2, .ref 1 0 0 0), (3, .ref 2 0 0 0), (4, .ref 3 0 0 0), (5, .ref 4 0 0 0), (6, .ref 5 0 0 0), (7, .ref 6 0 0 0), (8, .ref 7 0 0 0), (10, .ref 8 0 0 0), (11, .ref 9 0 0 0), (12, .lit (.int .i64 0)), (36, .sl 10 2 0 3), (37, .lit (.int .i64 3)), (38, .lit (.int .i64 (u.1 : Int)))],
      wkM M D S x y a b c s ++ [some (tpC L u.2.2 false), some (saC M D S u.2.1), some (.row 2 [[.lit (.int .i64 0), .lit (.int .i64 (x : Int))], [.lit (.int .i64 1), .lit (.int .i64 (y : Int))], [.lit (.int .i64 0), .lit (.int .i64 (z : Int))]])]))
    (inv := fun u => u.1 ≤ 3 ∧ (acD P x y z u.1).run L 0 = some (u.2.1, u.2.2)) (m := fun u => 3 - u.1) (0, ([(0, 0), (0, 0)], 1, false), 0) [some 0, some 1, some 2, some 3, some 4, some 5, some 6, some 7, some 8, some 9, some 10] ⟨Nat.zero_le _, rfl⟩ ?_
  rintro ⟨i, st, q⟩ ⟨hi, hrun⟩
  dsimp only at hi hrun ⊢
  obtain ⟨hsok, hs2⟩ := all_run (hall i hi) hrun
  have hq := (run_le (Nat.zero_le _) hrun).2
  have hi4 : i = 0 ∨ i = 1 ∨ i = 2 ∨ i = 3 := by omega
  rcases hi4 with rfl | rfl | rfl | rfl
  ·
    have ha := hadd st 0 x q hq hs2 (by decide) hsok (by omega)
    have hn3 := hnx q 0 st (by decide) hrun
    rw [show (if 0 = 1 then 1 else 0) = 0 from rfl, show (if 0 = 0 then x else if 0 = 1 then y else z) = x from rfl] at hn3
    cases hr : (addD P st 0 x).run L q with
    | none =>
      rw [hr] at ha hn3
      dsimp only [outG] at ha
      have hN := hnone (hno 1 (by decide) hn3)
      refine runW ?_
      refine callW [some 9, some 8] [] (ha) ?_
      refine runW ?_
      rcases Nat.eq_zero_or_pos f with h0 | h0
      · have hlen : (L.length : Int) = 11 := by omega
        rw [hN.1 h0] at hQ
        simp (maxSteps := 1000000) (disch := (first | omega | (simp only [lnA, List.length_map, List.length_range, true_and, and_true]; (try omega); done) | fail)) only [go_sem, hlen, Int.reduceEq, Int.reduceToNat, Nat.reduceAdd, Nat.reduceMul, Nat.reduceEqDiff, ↓reduceIte]
        exact endW [some 0, some 1, some 2, some 3, some 4, some 5, some 6, some 7] hQ
      · obtain ⟨g, rfl⟩ : ∃ g, f = g + 1 := ⟨f - 1, by omega⟩
        have h2g : 2 ^ (g + 1) = 2 * 2 ^ g := by rw [Nat.pow_succ, Nat.mul_comm]
        rw [hN.2 g rfl] at hQ
        have hb := hle false g s (1099511627776 - 1048576 * 2 ^ (g + 1)) (by omega) (by omega)
        have c1 := ih g rfl false s (by omega) (by omega)
        have c2 := ih g rfl true (mTr ((actsD P x y z).sub (L ++ [false])) g s) (by omega) (by omega)
        generalize mTr ((actsD P x y z).sub (L ++ [false])) g s = sA at *
        generalize mTr ((actsD P x y z).sub (L ++ [true])) g sA = sB at *
        simp (maxSteps := 1000000) (disch := (first | omega | (simp only [lnA, List.length_map, List.length_range, true_and, and_true]; (try omega); done) | fail)) only [go_sem, List.take_length, Int.reduceEq, Int.reduceToNat, Nat.reduceAdd, Nat.reduceMul, Nat.reduceEqDiff, ↓reduceIte]
        refine callW [some 0, some 1, some 2, some 3, some 4, some 5, some 6, some 7] [13] (c1) ?_
        simp (maxSteps := 1000000) (disch := (first | omega | (simp only [lnA, List.length_map, List.length_range, true_and, and_true]; (try omega); done) | fail)) only [go_sem, List.take_length, Int.reduceEq, Int.reduceToNat, Nat.reduceAdd, Nat.reduceMul, Nat.reduceEqDiff, ↓reduceIte]
        refine callW [some 0, some 1, some 2, some 3, some 4, some 5, some 6, some 7] [15] (c2) ?_
        refine runW ?_
        exact endW [some 0, some 1, some 2, some 3, some 4, some 5, some 6, some 7] hQ
    | some r =>
      obtain ⟨st', q'⟩ := r
      rw [hr] at ha hn3
      dsimp only [outG] at ha
      refine runW ?_
      refine callW [some 9, some 8] [] (ha) ?_
      refine runW ?_
      refine nextW (1, st', q') [some 0, some 1, some 2, some 3, some 4, some 5, some 6, some 7, some 8, some 9, some 10] ⟨by dsimp only; omega, hn3⟩ (by dsimp only; omega)
  ·
    have ha := hadd st 1 y q hq hs2 (by decide) hsok (by omega)
    have hn3 := hnx q 1 st (by decide) hrun
    rw [show (if 1 = 1 then 1 else 0) = 1 from rfl, show (if 1 = 0 then x else if 1 = 1 then y else z) = y from rfl] at hn3
    cases hr : (addD P st 1 y).run L q with
    | none =>
      rw [hr] at ha hn3
      dsimp only [outG] at ha
      have hN := hnone (hno 2 (by decide) hn3)
      refine runW ?_
      refine callW [some 9, some 8] [] (ha) ?_
      refine runW ?_
      rcases Nat.eq_zero_or_pos f with h0 | h0
      · have hlen : (L.length : Int) = 11 := by omega
        rw [hN.1 h0] at hQ
        simp (maxSteps := 1000000) (disch := (first | omega | (simp only [lnA, List.length_map, List.length_range, true_and, and_true]; (try omega); done) | fail)) only [go_sem, hlen, Int.reduceEq, Int.reduceToNat, Nat.reduceAdd, Nat.reduceMul, Nat.reduceEqDiff, ↓reduceIte]
        exact endW [some 0, some 1, some 2, some 3, some 4, some 5, some 6, some 7] hQ
      · obtain ⟨g, rfl⟩ : ∃ g, f = g + 1 := ⟨f - 1, by omega⟩
        have h2g : 2 ^ (g + 1) = 2 * 2 ^ g := by rw [Nat.pow_succ, Nat.mul_comm]
        rw [hN.2 g rfl] at hQ
        have hb := hle false g s (1099511627776 - 1048576 * 2 ^ (g + 1)) (by omega) (by omega)
        have c1 := ih g rfl false s (by omega) (by omega)
        have c2 := ih g rfl true (mTr ((actsD P x y z).sub (L ++ [false])) g s) (by omega) (by omega)
        generalize mTr ((actsD P x y z).sub (L ++ [false])) g s = sA at *
        generalize mTr ((actsD P x y z).sub (L ++ [true])) g sA = sB at *
        simp (maxSteps := 1000000) (disch := (first | omega | (simp only [lnA, List.length_map, List.length_range, true_and, and_true]; (try omega); done) | fail)) only [go_sem, List.take_length, Int.reduceEq, Int.reduceToNat, Nat.reduceAdd, Nat.reduceMul, Nat.reduceEqDiff, ↓reduceIte]
        refine callW [some 0, some 1, some 2, some 3, some 4, some 5, some 6, some 7] [13] (c1) ?_
        simp (maxSteps := 1000000) (disch := (first | omega | (simp only [lnA, List.length_map, List.length_range, true_and, and_true]; (try omega); done) | fail)) only [go_sem, List.take_length, Int.reduceEq, Int.reduceToNat, Nat.reduceAdd, Nat.reduceMul, Nat.reduceEqDiff, ↓reduceIte]
        refine callW [some 0, some 1, some 2, some 3, some 4, some 5, some 6, some 7] [15] (c2) ?_
        refine runW ?_
        exact endW [some 0, some 1, some 2, some 3, some 4, some 5, some 6, some 7] hQ
    | some r =>
      obtain ⟨st', q'⟩ := r
      rw [hr] at ha hn3
      dsimp only [outG] at ha
      refine runW ?_
      refine callW [some 9, some 8] [] (ha) ?_
      refine runW ?_
      refine nextW (2, st', q') [some 0, some 1, some 2, some 3, some 4, some 5, some 6, some 7, some 8, some 9, some 10] ⟨by dsimp only; omega, hn3⟩ (by dsimp only; omega)
  ·
    have ha := hadd st 0 z q hq hs2 (by decide) hsok (by omega)
    have hn3 := hnx q 2 st (by decide) hrun
    rw [show (if 2 = 1 then 1 else 0) = 0 from rfl, show (if 2 = 0 then x else if 2 = 1 then y else z) = z from rfl] at hn3
    cases hr : (addD P st 0 z).run L q with
    | none =>
      rw [hr] at ha hn3
      dsimp only [outG] at ha
      have hN := hnone (hno 3 (by decide) hn3)
      refine runW ?_
      refine callW [some 9, some 8] [] (ha) ?_
      refine runW ?_
      rcases Nat.eq_zero_or_pos f with h0 | h0
      · have hlen : (L.length : Int) = 11 := by omega
        rw [hN.1 h0] at hQ
        simp (maxSteps := 1000000) (disch := (first | omega | (simp only [lnA, List.length_map, List.length_range, true_and, and_true]; (try omega); done) | fail)) only [go_sem, hlen, Int.reduceEq, Int.reduceToNat, Nat.reduceAdd, Nat.reduceMul, Nat.reduceEqDiff, ↓reduceIte]
        exact endW [some 0, some 1, some 2, some 3, some 4, some 5, some 6, some 7] hQ
      · obtain ⟨g, rfl⟩ : ∃ g, f = g + 1 := ⟨f - 1, by omega⟩
        have h2g : 2 ^ (g + 1) = 2 * 2 ^ g := by rw [Nat.pow_succ, Nat.mul_comm]
        rw [hN.2 g rfl] at hQ
        have hb := hle false g s (1099511627776 - 1048576 * 2 ^ (g + 1)) (by omega) (by omega)
        have c1 := ih g rfl false s (by omega) (by omega)
        have c2 := ih g rfl true (mTr ((actsD P x y z).sub (L ++ [false])) g s) (by omega) (by omega)
        generalize mTr ((actsD P x y z).sub (L ++ [false])) g s = sA at *
        generalize mTr ((actsD P x y z).sub (L ++ [true])) g sA = sB at *
        simp (maxSteps := 1000000) (disch := (first | omega | (simp only [lnA, List.length_map, List.length_range, true_and, and_true]; (try omega); done) | fail)) only [go_sem, List.take_length, Int.reduceEq, Int.reduceToNat, Nat.reduceAdd, Nat.reduceMul, Nat.reduceEqDiff, ↓reduceIte]
        refine callW [some 0, some 1, some 2, some 3, some 4, some 5, some 6, some 7] [13] (c1) ?_
        simp (maxSteps := 1000000) (disch := (first | omega | (simp only [lnA, List.length_map, List.length_range, true_and, and_true]; (try omega); done) | fail)) only [go_sem, List.take_length, Int.reduceEq, Int.reduceToNat, Nat.reduceAdd, Nat.reduceMul, Nat.reduceEqDiff, ↓reduceIte]
        refine callW [some 0, some 1, some 2, some 3, some 4, some 5, some 6, some 7] [15] (c2) ?_
        refine runW ?_
        exact endW [some 0, some 1, some 2, some 3, some 4, some 5, some 6, some 7] hQ
    | some r =>
      obtain ⟨st', q'⟩ := r
      rw [hr] at ha hn3
      dsimp only [outG] at ha
      refine runW ?_
      refine callW [some 9, some 8] [] (ha) ?_
      refine runW ?_
      refine nextW (3, st', q') [some 0, some 1, some 2, some 3, some 4, some 5, some 6, some 7, some 8, some 9, some 10] ⟨by dsimp only; omega, hn3⟩ (by dsimp only; omega)
  · have hm := hmg st q hq hs2 hsok
    have hcl := sclone_fn (M := M) (D := D) (S := S) (st := st) (by omega) (fun e => by rw [e] at hs2; simp at hs2)
    rw [hs2] at hcl
    rw [hrun] at hla
    dsimp only at hla
    refine runW ?_
    refine callF (hcl) ?_
    cases hr : (mergeD P st st).run L q with
    | none =>
      rw [hr] at hm hla
      dsimp only [outG] at hm hla
      have hN := hnone hla
      refine runW ?_
      refine callW [some 9, some 8, some 11] [12] (hm) ?_
      refine runW ?_
      rcases Nat.eq_zero_or_pos f with h0 | h0
      · have hlen : (L.length : Int) = 11 := by omega
        rw [hN.1 h0] at hQ
        simp (maxSteps := 1000000) (disch := (first | omega | (simp only [lnA, List.length_map, List.length_range, true_and, and_true]; (try omega); done) | fail)) only [go_sem, hlen, Int.reduceEq, Int.reduceToNat, Nat.reduceAdd, Nat.reduceMul, Nat.reduceEqDiff, ↓reduceIte]
        exact endW [some 0, some 1, some 2, some 3, some 4, some 5, some 6, some 7] hQ
      · obtain ⟨g, rfl⟩ : ∃ g, f = g + 1 := ⟨f - 1, by omega⟩
        have h2g : 2 ^ (g + 1) = 2 * 2 ^ g := by rw [Nat.pow_succ, Nat.mul_comm]
        rw [hN.2 g rfl] at hQ
        have hb := hle false g s (1099511627776 - 1048576 * 2 ^ (g + 1)) (by omega) (by omega)
        have c1 := ih g rfl false s (by omega) (by omega)
        have c2 := ih g rfl true (mTr ((actsD P x y z).sub (L ++ [false])) g s) (by omega) (by omega)
        generalize mTr ((actsD P x y z).sub (L ++ [false])) g s = sA at *
        generalize mTr ((actsD P x y z).sub (L ++ [true])) g sA = sB at *
        simp (maxSteps := 1000000) (disch := (first | omega | (simp only [lnA, List.length_map, List.length_range, true_and, and_true]; (try omega); done) | fail)) only [go_sem, List.take_length, Int.reduceEq, Int.reduceToNat, Nat.reduceAdd, Nat.reduceMul, Nat.reduceEqDiff, ↓reduceIte]
        refine callW [some 0, some 1, some 2, some 3, some 4, some 5, some 6, some 7] [14] (c1) ?_
        simp (maxSteps := 1000000) (disch := (first | omega | (simp only [lnA, List.length_map, List.length_range, true_and, and_true]; (try omega); done) | fail)) only [go_sem, List.take_length, Int.reduceEq, Int.reduceToNat, Nat.reduceAdd, Nat.reduceMul, Nat.reduceEqDiff, ↓reduceIte]
        refine callW [some 0, some 1, some 2, some 3, some 4, some 5, some 6, some 7] [16] (c2) ?_
        refine runW ?_
        exact endW [some 0, some 1, some 2, some 3, some 4, some 5, some 6, some 7] hQ
    | some r =>
      obtain ⟨r, q2⟩ := r
      rw [hr] at hm hla
      dsimp only [outG] at hm hla
      have hret := run_some hla
      have hrb := all_run hact hla
      rw [hret, mTr_ret] at hQ
      have hv0 := valS_le hpw hrb 0
      have hv1 := valS_le hpw hrb 1
      obtain ⟨hrl, hrc, hr1, hr2⟩ := hrb
      have hc0 := getD_ok hrc 0
      have hc1 := getD_ok hrc 1
      have hm255 := hpw.m255
      have hd3 := hpw.d3
      have hs4 := hpw.s4
      have e0 : r.1[0]? = some (r.1.getD 0 (0, 0)) := by rw [List.getD_eq_getElem?_getD, List.getElem?_eq_getElem (by omega)]; rfl
      have e1 : r.1[1]? = some (r.1.getD 1 (0, 0)) := by rw [List.getD_eq_getElem?_getD, List.getElem?_eq_getElem (by omega)]; rfl
      obtain ⟨a1, a2, -⟩ := hc0
      obtain ⟨b1, b2, -⟩ := hc1
      have v0 := svalueL_fn (M := M) (D := D) (S := S) e0 (by omega) (by omega) (by have := sm_le (s := r.2.1) (m := (r.1.getD 0 (0, 0)).2) (by omega) (by omega); omega)
      have v1 := svalueL_fn (M := M) (D := D) (S := S) e1 (by omega) (by omega) (by have := sm_le (s := r.2.1) (m := (r.1.getD 1 (0, 0)).2) (by omega) (by omega); omega)
      have fl := sfull_fn (M := M) (D := D) (S := S) (st := r)
      change Fn1 _ _ _ _ (.tup [NV (valS 0 r), _]) _ at v0
      change Fn1 _ _ _ _ (.tup [NV (valS 1 r), _]) _ at v1
      have hpf : 2 ^ f ≤ 2048 := Nat.le_trans (Nat.pow_le_pow_right (by decide) (show f ≤ 11 by omega)) (by decide)
      have n0 := nint_fn (n := valS 0 r) (m := 1073741824) (M := 1073741824) (by decide) (by decide) (Nat.le_trans (wg_one (by omega)) (by decide))
      have n1 := nint_fn (n := valS 1 r) (m := 1073741824) (M := 1073741824) (by decide) (by decide) (Nat.le_trans (wg_one (by omega)) (by decide))
      rw [show min (valS 0 r) 1073741824 = valS 0 r by omega] at n0
      rw [show min (valS 1 r) 1073741824 = valS 1 r by omega] at n1
      have k0 : valS 0 r * 2 ^ f ≤ 1048576 * 2 ^ f := Nat.mul_le_mul_right _ hv0
      have k1 : valS 1 r * 2 ^ f ≤ 1048576 * 2 ^ f := Nat.mul_le_mul_right _ hv1
      have k3 : 1048576 * 2 ^ f ≤ 1048576 * 2048 := Nat.mul_le_mul_left _ hpf
      have sh0 : IntKind.i64.wrap (((valS 0 r : Nat) : Int) * 2 ^ f) = ((valS 0 r * 2 ^ f : Nat) : Int) := by
        rw [show ((valS 0 r : Nat) : Int) * 2 ^ f = ((valS 0 r * 2 ^ f : Nat) : Int) by simp]
        exact wrap_i64 ⟨by omega, by omega⟩
      have sh1 : IntKind.i64.wrap (((valS 1 r : Nat) : Int) * 2 ^ f) = ((valS 1 r * 2 ^ f : Nat) : Int) := by
        rw [show ((valS 1 r : Nat) : Int) * 2 ^ f = ((valS 1 r * 2 ^ f : Nat) : Int) by simp]
        exact wrap_i64 ⟨by omega, by omega⟩
      clear hla hret hnone hno hnx hall hact hle ih hadd hmg
      generalize valS 0 r = w0 at *
      generalize valS 1 r = w1 at *
      generalize hp0 : w0 * 2 ^ f = z0 at *
      generalize hp1 : w1 * 2 ^ f = z1 at *
      obtain ⟨so, sf, sA, sB⟩ := s
      obtain ⟨rc, rs, rf⟩ := r
      dsimp only at hQ hs1 hs2 v0 v1 fl
      refine runW ?_
      refine callW [some 9, some 8, some 11] [12] (hm) ?_
      cases sf with
      | true =>
        rw [Bool.true_or] at hQ
        refine runW ?_
        refine loopW (X := Nat × Nat × Nat) (st := fun u => ([(0, .row 1 (L.map be)), (1, .ref 0 0 0 0), (2, .ref 1 0 0 0), (3, .ref 2 0 0 0), (4, .ref 3 0 0 0), (5, .ref 4 0 0 0), (6, .ref 5 0 0 0), (7, .ref 6 0 0 0), (8, .ref 7 0 0 0), (11, .ref 8 0 0 0), (95, .lit (.int .i64 (u.1 : Int)))], wkM M D S x y a b c (so, true, u.2.1, u.2.2) ++ [some (saC M D S (rc, rs, rf))]))
          (inv := fun u => (u.1 = 0 ∧ u.2.1 = sA ∧ u.2.2 = sB) ∨ (u.1 = 1 ∧ u.2.1 = sA + z0 ∧ u.2.2 = sB) ∨ (u.1 = 2 ∧ u.2.1 = sA + z0 ∧ u.2.2 = sB + z1)) (m := fun u => 2 - u.1) (0, sA, sB) [some 0, some 1, some 2, some 3, some 4, some 5, some 6, some 7, some 9] (.inl ⟨rfl, rfl, rfl⟩) ?_
        rintro ⟨u, A, B⟩ hu
        dsimp only at hu ⊢
        rcases hu with ⟨rfl, rfl, rfl⟩ | ⟨rfl, rfl, rfl⟩ | ⟨rfl, rfl, rfl⟩
        · simp (maxSteps := 1000000) (disch := (first | omega | (simp only [lnA, List.length_map, List.length_range, true_and, and_true]; (try omega); done) | fail)) only [go_sem, hml, Int.toNat_natCast, sh0, Int.reduceEq, Int.reduceToNat, Nat.reduceAdd, Nat.reduceMul, Nat.reduceEqDiff, ↓reduceIte]
          refine callW [some 8] [] (v0) ?_
          simp (maxSteps := 1000000) (disch := (first | omega | (simp only [lnA, List.length_map, List.length_range, true_and, and_true]; (try omega); done) | fail)) only [go_sem, hml, Int.toNat_natCast, sh0, Int.reduceEq, Int.reduceToNat, Nat.reduceAdd, Nat.reduceMul, Nat.reduceEqDiff, ↓reduceIte]
          refine callV0 (n0) rfl rfl ?_
          simp (maxSteps := 1000000) (disch := (first | omega | (simp only [lnA, List.length_map, List.length_range, true_and, and_true]; (try omega); done) | fail)) only [go_sem, hml, Int.toNat_natCast, sh0, Int.reduceEq, Int.reduceToNat, Nat.reduceAdd, Nat.reduceMul, Nat.reduceEqDiff, ↓reduceIte]
          refine nextW (1, A + z0, B) [some 0, some 1, some 2, some 3, some 4, some 5, some 6, some 7, some 8] (.inr (.inl ⟨rfl, rfl, rfl⟩)) (by dsimp only; omega)
        · simp (maxSteps := 1000000) (disch := (first | omega | (simp only [lnA, List.length_map, List.length_range, true_and, and_true]; (try omega); done) | fail)) only [go_sem, hml, Int.toNat_natCast, sh1, Int.reduceEq, Int.reduceToNat, Nat.reduceAdd, Nat.reduceMul, Nat.reduceEqDiff, ↓reduceIte]
          refine callW [some 8] [] (v1) ?_
          simp (maxSteps := 1000000) (disch := (first | omega | (simp only [lnA, List.length_map, List.length_range, true_and, and_true]; (try omega); done) | fail)) only [go_sem, hml, Int.toNat_natCast, sh1, Int.reduceEq, Int.reduceToNat, Nat.reduceAdd, Nat.reduceMul, Nat.reduceEqDiff, ↓reduceIte]
          refine callV0 (n1) rfl rfl ?_
          simp (maxSteps := 1000000) (disch := (first | omega | (simp only [lnA, List.length_map, List.length_range, true_and, and_true]; (try omega); done) | fail)) only [go_sem, hml, Int.toNat_natCast, sh1, Int.reduceEq, Int.reduceToNat, Nat.reduceAdd, Nat.reduceMul, Nat.reduceEqDiff, ↓reduceIte]
          refine nextW (2, sA + z0, B + z1) [some 0, some 1, some 2, some 3, some 4, some 5, some 6, some 7, some 8] (.inr (.inr ⟨rfl, rfl, rfl⟩)) (by dsimp only; omega)
        · refine runW ?_
          exact endW [some 0, some 1, some 2, some 3, some 4, some 5, some 6, some 7] hQ
      | false =>
        rw [Bool.false_or] at hQ
        refine runW ?_
        refine callT (fl) ?_
        refine runW ?_
        refine loopW (X := Nat × Nat × Nat) (st := fun u => ([(0, .row 1 (L.map be)), (1, .ref 0 0 0 0), (2, .ref 1 0 0 0), (3, .ref 2 0 0 0), (4, .ref 3 0 0 0), (5, .ref 4 0 0 0), (6, .ref 5 0 0 0), (7, .ref 6 0 0 0), (8, .ref 7 0 0 0), (11, .ref 8 0 0 0), (95, .lit (.int .i64 (u.1 : Int)))], wkM M D S x y a b c (so, rf, u.2.1, u.2.2) ++ [some (saC M D S (rc, rs, rf))]))
          (inv := fun u => (u.1 = 0 ∧ u.2.1 = sA ∧ u.2.2 = sB) ∨ (u.1 = 1 ∧ u.2.1 = sA + z0 ∧ u.2.2 = sB) ∨ (u.1 = 2 ∧ u.2.1 = sA + z0 ∧ u.2.2 = sB + z1)) (m := fun u => 2 - u.1) (0, sA, sB) [some 0, some 1, some 2, some 3, some 4, some 5, some 6, some 7, some 9] (.inl ⟨rfl, rfl, rfl⟩) ?_
        rintro ⟨u, A, B⟩ hu
        dsimp only at hu ⊢
        rcases hu with ⟨rfl, rfl, rfl⟩ | ⟨rfl, rfl, rfl⟩ | ⟨rfl, rfl, rfl⟩
        · simp (maxSteps := 1000000) (disch := (first | omega | (simp only [lnA, List.length_map, List.length_range, true_and, and_true]; (try omega); done) | fail)) only [go_sem, hml, Int.toNat_natCast, sh0, Int.reduceEq, Int.reduceToNat, Nat.reduceAdd, Nat.reduceMul, Nat.reduceEqDiff, ↓reduceIte]
          refine callW [some 8] [] (v0) ?_
          simp (maxSteps := 1000000) (disch := (first | omega | (simp only [lnA, List.length_map, List.length_range, true_and, and_true]; (try omega); done) | fail)) only [go_sem, hml, Int.toNat_natCast, sh0, Int.reduceEq, Int.reduceToNat, Nat.reduceAdd, Nat.reduceMul, Nat.reduceEqDiff, ↓reduceIte]
          refine callV0 (n0) rfl rfl ?_
          simp (maxSteps := 1000000) (disch := (first | omega | (simp only [lnA, List.length_map, List.length_range, true_and, and_true]; (try omega); done) | fail)) only [go_sem, hml, Int.toNat_natCast, sh0, Int.reduceEq, Int.reduceToNat, Nat.reduceAdd, Nat.reduceMul, Nat.reduceEqDiff, ↓reduceIte]
          refine nextW (1, A + z0, B) [some 0, some 1, some 2, some 3, some 4, some 5, some 6, some 7, some 8] (.inr (.inl ⟨rfl, rfl, rfl⟩)) (by dsimp only; omega)
        · simp (maxSteps := 1000000) (disch := (first | omega | (simp only [lnA, List.length_map, List.length_range, true_and, and_true]; (try omega); done) | fail)) only [go_sem, hml, Int.toNat_natCast, sh1, Int.reduceEq, Int.reduceToNat, Nat.reduceAdd, Nat.reduceMul, Nat.reduceEqDiff, ↓reduceIte]
          refine callW [some 8] [] (v1) ?_
          simp (maxSteps := 1000000) (disch := (first | omega | (simp only [lnA, List.length_map, List.length_range, true_and, and_true]; (try omega); done) | fail)) only [go_sem, hml, Int.toNat_natCast, sh1, Int.reduceEq, Int.reduceToNat, Nat.reduceAdd, Nat.reduceMul, Nat.reduceEqDiff, ↓reduceIte]
          refine callV0 (n1) rfl rfl ?_
          simp (maxSteps := 1000000) (disch := (first | omega | (simp only [lnA, List.length_map, List.length_range, true_and, and_true]; (try omega); done) | fail)) only [go_sem, hml, Int.toNat_natCast, sh1, Int.reduceEq, Int.reduceToNat, Nat.reduceAdd, Nat.reduceMul, Nat.reduceEqDiff, ↓reduceIte]
          refine nextW (2, sA + z0, B + z1) [some 0, some 1, some 2, some 3, some 4, some 5, some 6, some 7, some 8] (.inr (.inr ⟨rfl, rfl, rfl⟩)) (by dsimp only; omega)
        · refine runW ?_
          exact endW [some 0, some 1, some 2, some 3, some 4, some 5, some 6, some 7] hQ
end Go.Proofs.YtdmdmdoeahhkiaaGreatDoor
