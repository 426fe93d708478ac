import Derived.Test.YteookgjmohokiaaGreatOg
import Derived.Test.YteookgjmohokiaaGreatWe
namespace Go.Proofs.YteookgjmohokiaaGreat
open Go.Eng Go.Vx
set_option linter.unusedSimpArgs false
set_option linter.unusedVariables false
set_option maxRecDepth 100000
def rdP (B : List Int) (p : Nat) : V := .rref 2 [[.row 1 (B.map (ie .u8)), .lit (.int .i64 (p : Int))]] 0 0
attribute [go_sem] rdP
theorem leftP_fn {B : List Int} {p : Nat} (hB : B.length ≤ 1099511627776) (hp : p ≤ 8 * B.length) : Fn1 Tryz.prog 65 [rdP B p] [] (.lit (.int .i64 ((8 * B.length - p : Nat) : Int))) [] := by
  refine fn1N_of pl65 (by kernel_rfl) Tryz.call65 Tryz.func65 rfl (by kernel_rfl) rfl [.tmp 2] (by kernel_rfl) fun Q hQ => ?_
  refine runW ?_
  rw [show ((8 : Int) * (B.length : Int) - (p : Int)) = ((8 * B.length - p : Nat) : Int) by omega]
  exact endW [] hQ
theorem snewO_fn {M D S n : Nat} (h : goodS M D S) (hn : 1 ≤ n ∧ n ≤ 256) : Fn1 Tryz.prog 85 [pA M D S, .lit (.int .i64 (n : Int))] [] (.tup [.ref 0 0 0 0, .lit (.int .i64 0)])
    [some (saO M D S 1 n 1 false), some (.row 2 ((List.replicate n ((0 : Nat), (0 : Nat))).map cV))] := by
  have hc := scheck_fn h
  have w := swithin_fn (n := (n : Int)) (m := 256)
  rw [decide_eq_true (show (1 : Int) ≤ (n : Int) ∧ (n : Int) ≤ 256 by omega)] at w
  have e : (List.replicate n ((0 : Nat), (0 : Nat))).map cV = zrow [.int .i64 0, .int .i64 0] n := by rw [List.map_replicate]; rfl
  have el : (zrow [Value.int IntKind.i64 0, Value.int IntKind.i64 0] n).length = n := by unfold zrow; rw [List.length_replicate]
  refine fn1N_of pl85 (by kernel_rfl) Tryz.call85 Tryz.func85 rfl (by kernel_rfl) rfl [.tmp 4, .tmp 5] (by kernel_rfl) fun Q hQ => ?_
  unfold saO at hQ
  rw [e, show ((1 : Nat) : Int) = 1 from rfl] at hQ
  refine runW ?_
  refine callV0 (hc) rfl rfl ?_
  refine runW ?_
  refine callV0 (w) rfl rfl ?_
  refine runW ?_
  generalize zrow [Value.int IntKind.i64 0, Value.int IntKind.i64 0] n = zr at *
  exact endW [some 2, some 1] hQ
def srV (r : Option SS × Nat × Int) : V := match r.1 with
  | some _ => .tup [.ref 1 0 0 0, .lit (.int .i64 0)]
  | none => .tup [.lit (.pointer none), .lit (.int .i64 r.2.2)]
def srS (M D S : Nat) (B : List Int) (r : Option SS × Nat × Int) : St := match r.1 with
  | some x => [some (rdC B r.2.1), some (saC M D S x)]
  | none => [some (rdC B r.2.1)]
set_option maxHeartbeats 8000000 in
theorem sread_fn {M D S n p : Nat} {B : List Int} (h : goodS M D S) (hn : 1 ≤ n ∧ n ≤ 256) (hI : IsB B) (hB : B.length ≤ 1099511627776) (hp : p ≤ 8 * B.length) :
    Fn1 Tryz.prog 71 [.ref 0 0 0 0, pA M D S, .lit (.int .i64 (n : Int))] [some (rdC B p)] (srV (srR (bitsOf B) M D S n p)) (srS M D S B (srR (bitsOf B) M D S n p)) := by
  have hnw := snewO_fn h hn
  have hbl := bitsOf_len B
  have hM : 1 ≤ M ∧ M ≤ 16 := by have := h.1; omega
  have hD : 1 ≤ D ∧ D ≤ 4 := by have := h.2.1; omega
  have hS : 1 ≤ S ∧ S ≤ 8 := by have := h.2.2; omega
  have hz : (List.replicate n ((0 : Nat), (0 : Nat))).length = n := List.length_replicate
  have lf := left_fn (B := B) (p := p) hB hp
  refine fn1N_of pl71 (by kernel_rfl) Tryz.call71 Tryz.func71 rfl (by kernel_rfl) rfl [.tmp 6, .tmp 7] (by kernel_rfl) fun Q hQ => ?_
  unfold srR at hQ
  generalize hz0 : List.replicate n ((0 : Nat), (0 : Nat)) = z0 at *
  refine runW ?_
  refine callW [] [] (hnw) ?_
  refine runW ?_
  refine callW [some 0] [] (lf) ?_
  by_cases h4 : p + 4 ≤ (bitsOf B).length
  · rw [if_pos h4] at hQ
    have r3 := brnum_fn (B := B) (p := p) (w := 3) hI hB (by decide) (by omega)
    have r1 := rbitX_fn (B := B) (p := p + 3) hI hB (by omega)
    rw [rX_one (by omega)] at r1
    dsimp only at r1
    rw [show decide (((bitsOf B).getD (p + 3) false).toNat = 1) = (bitsOf B).getD (p + 3) false by cases (bitsOf B).getD (p + 3) false <;> rfl] at r1
    have hk : numOf (((bitsOf B).drop p).take 3) < 8 := numOf_take_lt _ 3
    rw [show ((3 : Nat) : Int) = 3 from rfl] at r3
    generalize numOf (((bitsOf B).drop p).take 3) = s0 at *
    generalize (bitsOf B).getD (p + 3) false = fl at *
    have hs1 : (s0 : Int) + 1 = ((s0 + 1 : Nat) : Int) := by omega
    by_cases c1 : S < s0 + 1
    · rw [if_pos (.inl c1)] at hQ
      unfold srV srS at hQ
      dsimp only at hQ
      refine runW ?_
      refine callW [some 0] [] (r3) ?_
      simp (maxSteps := 1000000) (disch := (first | omega | (simp only [lnA, List.length_map, List.length_range, true_and, and_true]; (try omega); done) | fail)) only [go_sem, hs1, Int.reduceEq, Int.reduceToNat, Nat.reduceAdd, Nat.reduceMul, Nat.reduceEqDiff, ↓reduceIte]
      refine callW [some 0] [] (r1) ?_
      simp (maxSteps := 1000000) (disch := (first | omega | (simp only [lnA, List.length_map, List.length_range, true_and, and_true]; (try omega); done) | fail)) only [go_sem, hs1, Int.reduceEq, Int.reduceToNat, Nat.reduceAdd, Nat.reduceMul, Nat.reduceEqDiff, ↓reduceIte]
      exact endW [some 0] hQ
    · by_cases c2 : fl = true ∧ s0 + 1 < S
      · rw [if_pos (.inr c2)] at hQ
        obtain ⟨rfl, c2⟩ := c2
        unfold srV srS at hQ
        dsimp only at hQ
        refine runW ?_
        refine callW [some 0] [] (r3) ?_
        simp (maxSteps := 1000000) (disch := (first | omega | (simp only [lnA, List.length_map, List.length_range, true_and, and_true]; (try omega); done) | fail)) only [go_sem, hs1, Int.reduceEq, Int.reduceToNat, Nat.reduceAdd, Nat.reduceMul, Nat.reduceEqDiff, ↓reduceIte]
        refine callW [some 0] [] (r1) ?_
        simp (maxSteps := 1000000) (disch := (first | omega | (simp only [lnA, List.length_map, List.length_range, true_and, and_true]; (try omega); done) | fail)) only [go_sem, hs1, Int.reduceEq, Int.reduceToNat, Nat.reduceAdd, Nat.reduceMul, Nat.reduceEqDiff, ↓reduceIte]
        exact endW [some 0] hQ
      · rw [if_neg (fun h => h.elim c1 c2)] at hQ
        refine runW ?_
        refine callW [some 0] [] (r3) ?_
        simp (maxSteps := 1000000) (disch := (first | omega | (simp only [lnA, List.length_map, List.length_range, true_and, and_true]; (try omega); done) | fail)) only [go_sem, hs1, Int.reduceEq, Int.reduceToNat, Nat.reduceAdd, Nat.reduceMul, Nat.reduceEqDiff, ↓reduceIte]
        refine callW [some 0] [] (r1) ?_
        cases hfl : fl with
        | true =>
          subst hfl
          have c3 : ¬ s0 + 1 < S := fun h => c2 ⟨rfl, h⟩
          simp (maxSteps := 1000000) (disch := (first | omega | (simp only [lnA, List.length_map, List.length_range, true_and, and_true]; (try omega); done) | fail)) only [go_sem, hs1, Int.reduceEq, Int.reduceToNat, Nat.reduceAdd, Nat.reduceMul, Nat.reduceEqDiff, ↓reduceIte]
          refine loopW (X := Nat × List Cell × Nat) (st := fun y => ([(0, .ref 0 0 0 0), (4, .ref 3 0 0 0), (8, .ref 1 0 0 0), (74, .lit (.int .i64 (n : Int))), (75, .lit (.int .i64 (y.1 : Int)))],
              [some (rdC B y.2.2), some (saO M D S 2 n (s0 + 1) true), some (.row 2 (y.2.1.map cV)), some (.cells [.lit (.int .i64 (M : Int)), .lit (.int .i64 (D : Int)), .lit (.int .i64 (S : Int))])]))
            (inv := fun y => y.1 ≤ n ∧ y.2.1.length = n ∧ y.2.2 ≤ (bitsOf B).length ∧ rdS (bitsOf B) M D n (p + 4) = ((rdS (bitsOf B) M D (n - y.1) y.2.2).1.map (y.2.1.take y.1 ++ ·), (rdS (bitsOf B) M D (n - y.1) y.2.2).2)) (m := fun y => n - y.1)
            (0, z0, p + 4) [some 0, some 2, some 3, some 1] ⟨Nat.zero_le _, hz, h4, by simp⟩ ?_
          rintro ⟨i, Y, q⟩ ⟨hi, hY, hq, hr⟩
          dsimp only at hi hY hq hr ⊢
          have lq := leftP_fn (B := B) (p := q) hB (by omega)
          by_cases hil : i < n
          · obtain ⟨c, hc⟩ : ∃ c, n - i = c + 1 := ⟨n - i - 1, by omega⟩
            rw [hc] at hr
            by_cases h2 : q + (M + D) ≤ (bitsOf B).length
            · have ra := brnum_fn (B := B) (p := q) (w := M) hI hB (by omega) (by omega)
              have rb := brnum_fn (B := B) (p := q + M) (w := D) hI hB (by omega) (by omega)
              have ka : numOf (((bitsOf B).drop q).take M) < 2 ^ M := numOf_take_lt _ M
              have kb : numOf (((bitsOf B).drop (q + M)).take D) < 2 ^ D := numOf_take_lt _ D
              have hpM : 2 ^ M ≤ 2 ^ 16 := Nat.pow_le_pow_right (by decide) hM.2
              have hpD : 2 ^ D ≤ 2 ^ 4 := Nat.pow_le_pow_right (by decide) hD.2
              rw [rdS_succ] at hr
              rw [if_pos h2] at hr
              generalize numOf (((bitsOf B).drop q).take M) = a at *
              generalize numOf (((bitsOf B).drop (q + M)).take D) = b at *
              generalize 2 ^ M = pM at *
              generalize 2 ^ D = pD at *
              by_cases c5 : a = 0 ∧ 0 < b
              · rw [if_pos c5] at hr
                rw [hr] at hQ
                unfold srV srS at hQ
                dsimp only [Option.map] at hQ
                obtain ⟨rfl, c6⟩ := c5
                refine runW ?_
                refine callT (lq) ?_
                refine runW ?_
                refine callW [some 0] [] (ra) ?_
                refine runW ?_
                refine callW [some 0] [] (rb) ?_
                refine runW ?_
                exact endW [some 0] hQ
              · rw [if_neg c5] at hr
                have hset : (Y.map cV).set i [.lit (.int .i64 (a : Int)), .lit (.int .i64 (b : Int))] = (Y.set i (a, b)).map cV := by rw [List.map_set]; rfl
                have ht : (Y.set i (a, b)).take (i + 1) = Y.take i ++ [(a, b)] := by
                  rw [List.take_succ_eq_append_getElem (by rw [List.length_set]; omega), List.take_set_of_le (Nat.le_refl i)]
                  simp
                have hnx : ((rdS (bitsOf B) M D c (q + M + D)).1.map ((Y.set i (a, b)).take (i + 1) ++ ·), (rdS (bitsOf B) M D c (q + M + D)).2) = rdS (bitsOf B) M D n (p + 4) := by
                  rw [hr, ht, Option.map_map]
                  congr 2
                  funext l
                  simp
                rw [← show n - (i + 1) = c by omega] at hnx
                by_cases c6 : a = 0
                · have c7 : b = 0 := by omega
                  subst c6 c7
                  refine runW ?_
                  refine callT (lq) ?_
                  refine runW ?_
                  refine callW [some 0] [] (ra) ?_
                  refine runW ?_
                  refine callW [some 0] [] (rb) ?_
                  simp (maxSteps := 1000000) (disch := (first | omega | (simp only [lnA, List.length_map, List.length_range, true_and, and_true]; (try omega); done) | fail)) only [go_sem, hset, Int.reduceEq, Int.reduceToNat, Nat.reduceAdd, Nat.reduceMul, Nat.reduceEqDiff, ↓reduceIte]
                  refine nextW (i + 1, Y.set i (0, 0), q + M + D) [some 0, some 1, some 2, some 3] ⟨hil, by rw [List.length_set]; exact hY, by dsimp only; omega, hnx.symm⟩ (by dsimp only; omega)
                · refine runW ?_
                  refine callT (lq) ?_
                  refine runW ?_
                  refine callW [some 0] [] (ra) ?_
                  refine runW ?_
                  refine callW [some 0] [] (rb) ?_
                  simp (maxSteps := 1000000) (disch := (first | omega | (simp only [lnA, List.length_map, List.length_range, true_and, and_true]; (try omega); done) | fail)) only [go_sem, hset, Int.reduceEq, Int.reduceToNat, Nat.reduceAdd, Nat.reduceMul, Nat.reduceEqDiff, ↓reduceIte]
                  refine nextW (i + 1, Y.set i (a, b), q + M + D) [some 0, some 1, some 2, some 3] ⟨hil, by rw [List.length_set]; exact hY, by dsimp only; omega, hnx.symm⟩ (by dsimp only; omega)
            · rw [rdS_succ] at hr
              rw [if_neg h2] at hr
              rw [hr] at hQ
              unfold srV srS at hQ
              dsimp only [Option.map] at hQ
              refine runW ?_
              refine callT (lq) ?_
              refine runW ?_
              exact endW [some 0] hQ
          · obtain rfl : i = n := by omega
            rw [Nat.sub_self, List.take_of_length_le (by omega)] at hr
            rw [hr, rdS_zero] at hQ
            unfold srV srS at hQ
            dsimp only [Option.map] at hQ
            rw [List.append_nil] at hQ
            refine runW ?_
            exact endW [some 0, some 1] hQ
        | false =>
          subst hfl
          simp (maxSteps := 1000000) (disch := (first | omega | (simp only [lnA, List.length_map, List.length_range, true_and, and_true]; (try omega); done) | fail)) only [go_sem, hs1, Int.reduceEq, Int.reduceToNat, Nat.reduceAdd, Nat.reduceMul, Nat.reduceEqDiff, ↓reduceIte]
          refine loopW (X := Nat × List Cell × Nat) (st := fun y => ([(0, .ref 0 0 0 0), (4, .ref 3 0 0 0), (8, .ref 1 0 0 0), (74, .lit (.int .i64 (n : Int))), (75, .lit (.int .i64 (y.1 : Int)))],
              [some (rdC B y.2.2), some (saO M D S 2 n (s0 + 1) false), some (.row 2 (y.2.1.map cV)), some (.cells [.lit (.int .i64 (M : Int)), .lit (.int .i64 (D : Int)), .lit (.int .i64 (S : Int))])]))
            (inv := fun y => y.1 ≤ n ∧ y.2.1.length = n ∧ y.2.2 ≤ (bitsOf B).length ∧ rdS (bitsOf B) M D n (p + 4) = ((rdS (bitsOf B) M D (n - y.1) y.2.2).1.map (y.2.1.take y.1 ++ ·), (rdS (bitsOf B) M D (n - y.1) y.2.2).2)) (m := fun y => n - y.1)
            (0, z0, p + 4) [some 0, some 2, some 3, some 1] ⟨Nat.zero_le _, hz, h4, by simp⟩ ?_
          rintro ⟨i, Y, q⟩ ⟨hi, hY, hq, hr⟩
          dsimp only at hi hY hq hr ⊢
          have lq := leftP_fn (B := B) (p := q) hB (by omega)
          by_cases hil : i < n
          · obtain ⟨c, hc⟩ : ∃ c, n - i = c + 1 := ⟨n - i - 1, by omega⟩
            rw [hc] at hr
            by_cases h2 : q + (M + D) ≤ (bitsOf B).length
            · have ra := brnum_fn (B := B) (p := q) (w := M) hI hB (by omega) (by omega)
              have rb := brnum_fn (B := B) (p := q + M) (w := D) hI hB (by omega) (by omega)
              have ka : numOf (((bitsOf B).drop q).take M) < 2 ^ M := numOf_take_lt _ M
              have kb : numOf (((bitsOf B).drop (q + M)).take D) < 2 ^ D := numOf_take_lt _ D
              have hpM : 2 ^ M ≤ 2 ^ 16 := Nat.pow_le_pow_right (by decide) hM.2
              have hpD : 2 ^ D ≤ 2 ^ 4 := Nat.pow_le_pow_right (by decide) hD.2
              rw [rdS_succ] at hr
              rw [if_pos h2] at hr
              generalize numOf (((bitsOf B).drop q).take M) = a at *
              generalize numOf (((bitsOf B).drop (q + M)).take D) = b at *
              generalize 2 ^ M = pM at *
              generalize 2 ^ D = pD at *
              by_cases c5 : a = 0 ∧ 0 < b
              · rw [if_pos c5] at hr
                rw [hr] at hQ
                unfold srV srS at hQ
                dsimp only [Option.map] at hQ
                obtain ⟨rfl, c6⟩ := c5
                refine runW ?_
                refine callT (lq) ?_
                refine runW ?_
                refine callW [some 0] [] (ra) ?_
                refine runW ?_
                refine callW [some 0] [] (rb) ?_
                refine runW ?_
                exact endW [some 0] hQ
              · rw [if_neg c5] at hr
                have hset : (Y.map cV).set i [.lit (.int .i64 (a : Int)), .lit (.int .i64 (b : Int))] = (Y.set i (a, b)).map cV := by rw [List.map_set]; rfl
                have ht : (Y.set i (a, b)).take (i + 1) = Y.take i ++ [(a, b)] := by
                  rw [List.take_succ_eq_append_getElem (by rw [List.length_set]; omega), List.take_set_of_le (Nat.le_refl i)]
                  simp
                have hnx : ((rdS (bitsOf B) M D c (q + M + D)).1.map ((Y.set i (a, b)).take (i + 1) ++ ·), (rdS (bitsOf B) M D c (q + M + D)).2) = rdS (bitsOf B) M D n (p + 4) := by
                  rw [hr, ht, Option.map_map]
                  congr 2
                  funext l
                  simp
                rw [← show n - (i + 1) = c by omega] at hnx
                by_cases c6 : a = 0
                · have c7 : b = 0 := by omega
                  subst c6 c7
                  refine runW ?_
                  refine callT (lq) ?_
                  refine runW ?_
                  refine callW [some 0] [] (ra) ?_
                  refine runW ?_
                  refine callW [some 0] [] (rb) ?_
                  simp (maxSteps := 1000000) (disch := (first | omega | (simp only [lnA, List.length_map, List.length_range, true_and, and_true]; (try omega); done) | fail)) only [go_sem, hset, Int.reduceEq, Int.reduceToNat, Nat.reduceAdd, Nat.reduceMul, Nat.reduceEqDiff, ↓reduceIte]
                  refine nextW (i + 1, Y.set i (0, 0), q + M + D) [some 0, some 1, some 2, some 3] ⟨hil, by rw [List.length_set]; exact hY, by dsimp only; omega, hnx.symm⟩ (by dsimp only; omega)
                · refine runW ?_
                  refine callT (lq) ?_
                  refine runW ?_
                  refine callW [some 0] [] (ra) ?_
                  refine runW ?_
                  refine callW [some 0] [] (rb) ?_
                  simp (maxSteps := 1000000) (disch := (first | omega | (simp only [lnA, List.length_map, List.length_range, true_and, and_true]; (try omega); done) | fail)) only [go_sem, hset, Int.reduceEq, Int.reduceToNat, Nat.reduceAdd, Nat.reduceMul, Nat.reduceEqDiff, ↓reduceIte]
                  refine nextW (i + 1, Y.set i (a, b), q + M + D) [some 0, some 1, some 2, some 3] ⟨hil, by rw [List.length_set]; exact hY, by dsimp only; omega, hnx.symm⟩ (by dsimp only; omega)
            · rw [rdS_succ] at hr
              rw [if_neg h2] at hr
              rw [hr] at hQ
              unfold srV srS at hQ
              dsimp only [Option.map] at hQ
              refine runW ?_
              refine callT (lq) ?_
              refine runW ?_
              exact endW [some 0] hQ
          · obtain rfl : i = n := by omega
            rw [Nat.sub_self, List.take_of_length_le (by omega)] at hr
            rw [hr, rdS_zero] at hQ
            unfold srV srS at hQ
            dsimp only [Option.map] at hQ
            rw [List.append_nil] at hQ
            refine runW ?_
            exact endW [some 0, some 1] hQ
  · rw [if_neg h4] at hQ
    unfold srV srS at hQ
    dsimp only at hQ
    refine runW ?_
    exact endW [some 0] hQ
end Go.Proofs.YteookgjmohokiaaGreat
