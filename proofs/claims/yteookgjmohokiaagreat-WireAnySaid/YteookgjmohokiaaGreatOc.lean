import Derived.Test.YteookgjmohokiaaGreatOb
import Derived.Test.YteookgjmohokiaaGreatWj
import Derived.Test.YteookgjmohokiaaGreatAb
namespace Go.Proofs.YteookgjmohokiaaGreat
open Go.Eng Go.Vx
set_option linter.unusedSimpArgs false
set_option linter.unusedVariables false
set_option maxRecDepth 100000
theorem smB_len : ∀ {X : List (Nat × Nat)}, (∀ x ∈ X, 1 ≤ x.2 ∧ x.2 ≤ 1048576) → (smB X).length ≤ X.length * 102
  | [], _ => Nat.le_refl _
  | x :: X, h => by
    obtain ⟨h1, h2⟩ := h x (by simp)
    have ih := smB_len (X := X) fun y hy => h y (by simp [hy])
    have hg := gammaB_len (n := x.2) (by omega)
    have hb := bl_le_of (n := x.2) (k := 21) (by omega)
    rw [smB_cons, List.length_append, List.length_append, numBits_len, List.length_cons]
    omega
theorem varB_short {n : Nat} (h : n ≤ 1048576) : (varB n).length ≤ 24 := by
  have hb := bl_le_of (n := n) (k := 21) (by omega)
  rw [varB_len]
  omega
theorem smB_take {X : List (Nat × Nat)} {i : Nat} {x : Nat × Nat} (h : X[i]? = some x) : smB (X.take (i + 1)) = smB (X.take i) ++ numBits x.1 61 ++ gammaB x.2 := by
  rw [List.take_add_one, h, smB_app]
  simp [smB]
theorem anewO_fn {K P : Int} {C : Nat} (h : goodA K P C) : Fn1 Tryz.prog 89 [.agg [.lit (.int .i64 K), .lit (.int .i64 P), .lit (.int .i64 (C : Int))]] [] (.tup [.ref 0 0 0 0, .lit (.int .i64 0)])
    [some (.cells [.lit (.int .i64 K), .lit (.int .i64 P), .lit (.int .i64 (C : Int)), .sl 1 2 0 C, .lit (.int .i64 0)]), some (.row 2 ((List.replicate C ((0 : Nat), (0 : Nat))).map sV))] := by
  have hc := acheck_fn h
  obtain ⟨h, h1, h2⟩ := h
  have e : (List.replicate C ((0 : Nat), (0 : Nat))).map sV = zrow [.int .u64 0, .int .i64 0] C := by rw [List.map_replicate]; rfl
  have el : (zrow [Value.int IntKind.u64 0, Value.int IntKind.i64 0] C).length = C := by unfold zrow; rw [List.length_replicate]
  have et : List.take C (zrow [Value.int IntKind.u64 0, Value.int IntKind.i64 0] C) = zrow [Value.int IntKind.u64 0, Value.int IntKind.i64 0] C := List.take_of_length_le (Nat.le_of_eq el)
  refine fn1N_of pl89 (by kernel_rfl) Tryz.call89 Tryz.func89 rfl (by kernel_rfl) rfl [.tmp 2, .tmp 3] (by kernel_rfl) fun Q hQ => ?_
  rw [e] at hQ
  refine runW ?_
  refine callV0 (hc) rfl rfl ?_
  refine runW ?_
  generalize zrow [Value.int IntKind.u64 0, Value.int IntKind.i64 0] C = zr at *
  exact endW [some 2, some 1] hQ
def arV (r : Option (List (Nat × Nat) × Nat) × Nat × Int) : V := match r.1 with
  | some _ => .tup [.ref 1 0 0 0, .lit (.int .i64 0)]
  | none => .tup [.lit (.pointer none), .lit (.int .i64 r.2.2)]
def arS (K P C : Int) (B : List Int) (r : Option (List (Nat × Nat) × Nat) × Nat × Int) : St := match r.1 with
  | some x => [some (rdC B r.2.1), some (amC K P C x.1 x.2)]
  | none => [some (rdC B r.2.1)]
set_option maxHeartbeats 4000000 in
theorem aread_fn {K P : Int} {C p : Nat} {B : List Int} (h : goodA K P C) (hI : IsB B) (hB : B.length ≤ 1099511627776) (hp : p ≤ 8 * B.length) :
    Fn1 Tryz.prog 73 [.ref 0 0 0 0, .agg [.lit (.int .i64 K), .lit (.int .i64 P), .lit (.int .i64 (C : Int))]] [some (rdC B p)] (arV (arR (bitsOf B) C p)) (arS K P C B (arR (bitsOf B) C p)) := by
  have hn := anewO_fn h
  have hbl := bitsOf_len B
  have hC16 : C ≤ 16 := by have := h.2; omega
  have vv := var_fn hI hB hp
  have hvq : (vX (bitsOf B) p).2.1 ≤ (bitsOf B).length := vXj_le _ _ _ _ (by omega)
  have hz : (List.replicate C ((0 : Nat), (0 : Nat))).length = C := List.length_replicate
  refine fn1N_of pl73 (by kernel_rfl) Tryz.call73 Tryz.func73 rfl (by kernel_rfl) rfl [.tmp 4, .tmp 5] (by kernel_rfl) fun Q hQ => ?_
  unfold arR at hQ
  generalize hz0 : List.replicate C ((0 : Nat), (0 : Nat)) = z0 at *
  generalize vX (bitsOf B) p = v at *
  obtain ⟨T, q0, ev⟩ := v
  dsimp only at vv hvq hQ
  refine runW ?_
  refine callW [] [] (hn) ?_
  refine runW ?_
  refine callW [some 0] [] (vv) ?_
  by_cases he : ev = 0
  · subst he
    rw [if_pos rfl] at hQ
    by_cases hT : 1048576 < T
    · rw [if_pos hT] at hQ
      unfold arV arS at hQ
      dsimp only at hQ
      refine runW ?_
      exact endW [some 0] hQ
    · rw [if_neg hT] at hQ
      by_cases hT0 : T = 0
      · rw [if_pos hT0] at hQ
        unfold arV arS at hQ
        dsimp only at hQ
        refine runW ?_
        exact endW [some 0, some 2] hQ
      · rw [if_neg hT0] at hQ
        refine runW ?_
        refine loopW (X := Nat × List (Nat × Nat) × Nat) (st := fun y => ([(0, .ref 0 0 0 0), (6, .ref 1 0 0 0), (8, .lit (.int .u64 (T : Int))), (46, .lit (.int .i64 (C : Int))), (47, .lit (.int .i64 (y.1 : Int)))],
            [some (rdC B y.2.2), some (.cells [.lit (.int .i64 K), .lit (.int .i64 P), .lit (.int .i64 (C : Int)), .sl 2 2 0 C, .lit (.int .i64 (T : Int))]), some (.row 2 (y.2.1.map sV))]))
          (inv := fun y => y.1 ≤ C ∧ y.2.1.length = C ∧ y.2.2 ≤ (bitsOf B).length ∧ rdA (bitsOf B) T C q0 = ((rdA (bitsOf B) T (C - y.1) y.2.2).1.map (y.2.1.take y.1 ++ ·), (rdA (bitsOf B) T (C - y.1) y.2.2).2)) (m := fun y => C - y.1)
          (0, z0, q0) [some 0, some 2, some 3] ⟨Nat.zero_le _, hz, hvq, by simp⟩ ?_
        rintro ⟨i, Y, q⟩ ⟨hi, hY, hq, hr⟩
        dsimp only at hi hY hq hr ⊢
        by_cases hil : i < C
        · obtain ⟨c, hc⟩ : ∃ c, C - i = c + 1 := ⟨C - i - 1, by omega⟩
          rw [hc] at hr
          by_cases h61 : q + 61 ≤ (bitsOf B).length
          · have rn := brnum_fn (B := B) (p := q) (w := 61) hI hB (by decide) (by omega)
            rw [show ((61 : Nat) : Int) = 61 from rfl] at rn
            have gm := gamma_fn (p := q + 61) hI hB (by omega)
            have hgq := gX_le h61
            have hgl := gX_lt (L := bitsOf B) (p := q + 61)
            have hkl : numOf (((bitsOf B).drop q).take 61) < 2305843009213693952 := numOf_take_lt _ 61
            rw [rdA_succ] at hr
            rw [if_pos h61] at hr
            generalize gX (bitsOf B) (q + 61) = g at *
            obtain ⟨n, q2, e2⟩ := g
            dsimp only at gm hgq hgl hr
            generalize numOf (((bitsOf B).drop q).take 61) = key at *
            by_cases he2 : e2 = 0
            · subst he2
              rw [if_pos rfl] at hr
              by_cases hk1 : 2305843009213693951 ≤ key
              · rw [if_pos (.inl hk1)] at hr
                rw [hr] at hQ
                unfold arV arS at hQ
                dsimp only [Option.map] at hQ
                refine runW ?_
                refine callW [some 0] [] (rn) ?_
                refine runW ?_
                refine callW [some 0] [] (gm) ?_
                refine runW ?_
                exact endW [some 0] hQ
              · by_cases hk2 : T < n
                · rw [if_pos (.inr hk2)] at hr
                  rw [hr] at hQ
                  unfold arV arS at hQ
                  dsimp only [Option.map] at hQ
                  refine runW ?_
                  refine callW [some 0] [] (rn) ?_
                  refine runW ?_
                  refine callW [some 0] [] (gm) ?_
                  refine runW ?_
                  exact endW [some 0] hQ
                · rw [if_neg (by omega)] at hr
                  have hset : (Y.map sV).set i [.lit (.int .u64 (key : Int)), .lit (.int .i64 (n : Int))] = (Y.set i (key, n)).map sV := by rw [List.map_set]; rfl
                  have ht : (Y.set i (key, n)).take (i + 1) = Y.take i ++ [(key, n)] := by
                    rw [List.take_succ_eq_append_getElem (by rw [List.length_set]; omega), List.take_set_of_le (Nat.le_refl i)]
                    simp
                  refine runW ?_
                  refine callW [some 0] [] (rn) ?_
                  refine runW ?_
                  refine callW [some 0] [] (gm) ?_
                  simp (maxSteps := 1000000) (disch := (first | omega | (simp only [lnA, List.length_map, List.length_range, true_and, and_true]; (try omega); done) | fail)) only [go_sem, hset, Int.reduceEq, Int.reduceToNat, Nat.reduceAdd, Nat.reduceMul, Nat.reduceEqDiff, ↓reduceIte]
                  refine nextW (i + 1, Y.set i (key, n), q2) [some 0, some 1, some 2] ⟨hil, by rw [List.length_set]; exact hY, hgq, ?_⟩ (by dsimp only; omega)
                  dsimp only
                  rw [hr, show C - (i + 1) = c by omega, ht, Option.map_map]
                  congr 2
                  funext l
                  simp
            · rw [if_neg he2] at hr
              rw [hr] at hQ
              unfold arV arS at hQ
              dsimp only [Option.map] at hQ
              refine runW ?_
              refine callW [some 0] [] (rn) ?_
              refine runW ?_
              refine callW [some 0] [] (gm) ?_
              refine runW ?_
              exact endW [some 0] hQ
          · have rn := rnumE_fn (B := B) (p := q) (w := 61) hI hB (by decide) (by omega) (by omega)
            rw [show ((61 : Nat) : Int) = 61 from rfl] at rn
            rw [rdA_succ] at hr
            rw [if_neg h61] at hr
            rw [hr] at hQ
            unfold arV arS at hQ
            dsimp only [Option.map] at hQ
            refine runW ?_
            refine callW [some 0] [] (rn) ?_
            refine runW ?_
            exact endW [some 0] hQ
        · obtain rfl : i = C := by omega
          rw [Nat.sub_self, List.take_of_length_le (by omega)] at hr
          rw [hr, rdA_zero] at hQ
          unfold arV arS at hQ
          dsimp only [Option.map] at hQ
          rw [List.append_nil] at hQ
          refine runW ?_
          exact endW [some 0, some 1] hQ
  · rw [if_neg he] at hQ
    unfold arV arS at hQ
    dsimp only at hQ
    refine runW ?_
    exact endW [some 0] hQ
end Go.Proofs.YteookgjmohokiaaGreat
