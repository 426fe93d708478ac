import Derived.Test.YtpkfddfkacijoaaGreatDoorOb
import Derived.Test.YtpkfddfkacijoaaGreatDoorWj
import Derived.Test.YtpkfddfkacijoaaGreatDoorAb
namespace Go.Proofs.YtpkfddfkacijoaaGreatDoor
open Go.Eng Go.Vx
set_option linter.unusedSimpArgs false
set_option linter.unusedVariables false
set_option maxRecDepth 100000
theorem smB_len : ∀ {X : List (Nat × Nat)}, (∀ x ∈ X, 1 ≤ x.2 ∧ x.2 ≤ 1048576) → (smB X).length ≤ X.length * 102
  | [], _ => Nat.le_refl _
  | x :: X, h => by
    obtain ⟨h1, h2⟩ := h x (by simp)
    have ih := smB_len (X := X) fun y hy => h y (by simp [hy])
    have hg := gammaB_len (n := x.2) (by omega)
    have hb := bl_le_of (n := x.2) (k := 21) (by omega)
    rw [smB_cons, List.length_append, List.length_append, numBits_len, List.length_cons]
    omega
theorem varB_short {n : Nat} (h : n ≤ 1048576) : (varB n).length ≤ 24 := by
  have hb := bl_le_of (n := n) (k := 21) (by omega)
  rw [varB_len]
  omega
theorem smB_take {X : List (Nat × Nat)} {i : Nat} {x : Nat × Nat} (h : X[i]? = some x) : smB (X.take (i + 1)) = smB (X.take i) ++ numBits x.1 61 ++ gammaB x.2 := by
  rw [List.take_add_one, h, smB_app]
  simp [smB]
set_option maxHeartbeats 4000000 in
theorem awrite_fn {K P C : Int} {X : List (Nat × Nat)} {N : Nat} {L : List Bool} (hX : X.length ≤ 1000) (hk : ∀ x ∈ X, x.1 < 2305843009213693951 ∧ x.2 ≤ 1048576) (h1 : N = 0 ∨ ∀ x ∈ X, 1 ≤ x.2) (hN : N ≤ 1048576) (hL : L.length < 1000000000) :
    Fn1 Tryz.prog 8 [.ref 0 0 0 0, .ref 1 0 0 0] [some (amC K P C X N), some (wrC 2 L), some (wrR L)] (.tup []) [some (amC K P C X N), some (wrC 3 (L ++ amsB X N)), none, some (wrR (L ++ amsB X N))] := by
  have hvl := varB_short hN
  refine fn1N_of pl8 (by kernel_rfl) Tryz.call8 Tryz.func8 rfl (by kernel_rfl) rfl [] (by kernel_rfl) fun Q hQ => ?_
  refine runW ?_
  refine callW [some 1, some 2] [] (putVar_fn (L := L) (n := N) (by omega) (by omega)) ?_
  by_cases h0 : N = 0
  · have e : amsB X N = varB N := by unfold amsB; rw [if_pos h0, List.append_nil]
    rw [e] at hQ
    refine runW ?_
    exact endW [some 0, some 1, some 2, some 3] hQ
  · have hr : ∀ x ∈ X, 1 ≤ x.2 := h1.elim (fun h1 => absurd h1 h0) id
    have e : L ++ amsB X N = L ++ varB N ++ smB X := by unfold amsB; rw [if_neg h0, List.append_assoc]
    rw [e] at hQ
    have hl : (L ++ varB N).length < 1000000030 := by rw [List.length_append]; omega
    generalize L ++ varB N = M at *
    clear e hvl
    refine runW ?_
    refine LoopV_of (X := Nat) (st := fun i => ([(1, .ref 1 0 0 0), (21, .row 2 (X.map sV)), (22, .lit (.int .i64 (X.length : Int))), (23, .lit (.int .i64 (i : Int)))], [some (amC K P C X N), some (wrC 3 (M ++ smB (X.take i))), none, some (wrR (M ++ smB (X.take i)))]))
      (inv := fun i => i ≤ X.length) (m := fun i => X.length - i) 0 [some 0, some 1, some 2, some 3] rfl (by simp only [List.take_zero, smB, List.flatMap_nil, List.append_nil]; (simp (disch := (first | omega | (simp only [lnA, List.length_map, List.length_range, true_and, and_true]; (try omega); done) | fail)) only [go_sem, Int.reduceEq, Int.reduceToNat, Nat.reduceAdd, Nat.reduceMul, Nat.reduceEqDiff, ↓reduceIte, true_and, and_true, and_self, List.drop_zero, List.take_length, Nat.le_refl, V.lit.injEq, Value.int.injEq, Value.bool.injEq]; try (first | omega | (simp; done) | (simp; omega)))) (by simp (disch := (first | omega | (simp only [lnA, List.length_map, List.length_range, true_and, and_true]; (try omega); done) | fail)) only [go_sem, Int.reduceEq, Int.reduceToNat, Nat.reduceAdd, Nat.reduceMul, Nat.reduceEqDiff, ↓reduceIte, true_and, and_true, and_self, List.drop_zero, List.take_length, Nat.le_refl, V.lit.injEq, Value.int.injEq, Value.bool.injEq]; try (first | omega | (simp; done) | (simp; omega))) (Nat.zero_le _) ?_
    intro i hi
    by_cases hil : i < X.length
    · have hgi : X[i]? = some X[i] := List.getElem?_eq_getElem hil
      have hget : X.getD i default = X[i] := by rw [List.getD_eq_getElem?_getD, hgi]; rfl
      have htk := smB_take hgi
      have hkx := hk X[i] (List.getElem_mem hil)
      have hrx := hr X[i] (List.getElem_mem hil)
      have hsl := smB_len (X := X.take i) fun y hy => ⟨hr y (List.mem_of_mem_take hy), (hk y (List.mem_of_mem_take hy)).2⟩
      have hsl2 : (X.take i).length ≤ 1000 := by rw [List.length_take]; omega
      have hml : (M ++ smB (X.take i)).length < 1000200030 := by rw [List.length_append]; omega
      have e2 : M ++ smB (X.take (i + 1)) = M ++ smB (X.take i) ++ numBits X[i].1 61 ++ gammaB X[i].2 := by rw [htk]; simp
      clear htk hsl hsl2 hgi
      generalize X[i] = x at *
      generalize M ++ smB (X.take i) = M1 at *
      have n1 := num_fn (L := M1) (n := x.1) (m := 61) (by omega) (by omega) (by decide) (by decide) (by show x.1 < 2 ^ 61; omega)
      rw [show Int.toNat 61 = 61 from rfl] at n1
      have p1 := putGamma_fn (L := M1 ++ numBits x.1 61) (n := x.2) (by omega) (by omega) (by rw [List.length_append, numBits_len]; omega)
      simp (maxSteps := 1000000) (disch := (first | omega | (simp only [lnA, List.length_map, List.length_range, true_and, and_true]; (try omega); done) | fail)) only [go_sem, hget, Int.reduceEq, Int.reduceToNat, Nat.reduceAdd, Nat.reduceMul, Nat.reduceEqDiff, ↓reduceIte]
      refine callW [some 1, some 3] [] (n1) ?_
      refine runW ?_
      refine callW [some 1, some 5] [] (p1) ?_
      rw [← e2]
      refine runW ?_
      refine nextW (i + 1) [some 0, some 1, some 2, some 6] hil (by omega)
    · obtain rfl : i = X.length := by omega
      rw [List.take_length]
      refine runW ?_
      exact endW [some 0, some 1, some 2, some 3] hQ
theorem anewO_fn {K P : Int} {C : Nat} (h : goodA K P C) : Fn1 Tryz.prog 37 [.agg [.lit (.int .i64 K), .lit (.int .i64 P), .lit (.int .i64 (C : Int))]] [] (.tup [.ref 0 0 0 0, .lit (.int .i64 0)])
    [some (.cells [.lit (.int .i64 K), .lit (.int .i64 P), .lit (.int .i64 (C : Int)), .sl 1 2 0 C, .lit (.int .i64 0)]), some (.row 2 ((List.replicate C ((0 : Nat), (0 : Nat))).map sV))] := by
  have hc := acheck_fn h
  obtain ⟨h, h1, h2⟩ := h
  have e : (List.replicate C ((0 : Nat), (0 : Nat))).map sV = zrow [.int .u64 0, .int .i64 0] C := by rw [List.map_replicate]; rfl
  have el : (zrow [Value.int IntKind.u64 0, Value.int IntKind.i64 0] C).length = C := by unfold zrow; rw [List.length_replicate]
  have et : List.take C (zrow [Value.int IntKind.u64 0, Value.int IntKind.i64 0] C) = zrow [Value.int IntKind.u64 0, Value.int IntKind.i64 0] C := List.take_of_length_le (Nat.le_of_eq el)
  refine fn1N_of pl37 (by kernel_rfl) Tryz.call37 Tryz.func37 rfl (by kernel_rfl) rfl [.tmp 2, .tmp 3] (by kernel_rfl) fun Q hQ => ?_
  rw [e] at hQ
  refine runW ?_
  refine callV0 (hc) rfl rfl ?_
  refine runW ?_
  generalize zrow [Value.int IntKind.u64 0, Value.int IntKind.i64 0] C = zr at *
  exact endW [some 2, some 1] hQ
def arV (r : Option (List (Nat × Nat) × Nat) × Nat × Int) : V := match r.1 with
  | some _ => .tup [.ref 1 0 0 0, .lit (.int .i64 0)]
  | none => .tup [.lit (.pointer none), .lit (.int .i64 r.2.2)]
def arS (K P C : Int) (B : List Int) (r : Option (List (Nat × Nat) × Nat) × Nat × Int) : St := match r.1 with
  | some x => [some (rdC B r.2.1), some (amC K P C x.1 x.2)]
  | none => [some (rdC B r.2.1)]
set_option maxHeartbeats 4000000 in
theorem aread_fn {K P : Int} {C p : Nat} {B : List Int} (h : goodA K P C) (hI : IsB B) (hB : B.length ≤ 1099511627776) (hp : p ≤ 8 * B.length) :
    Fn1 Tryz.prog 9 [.ref 0 0 0 0, .agg [.lit (.int .i64 K), .lit (.int .i64 P), .lit (.int .i64 (C : Int))]] [some (rdC B p)] (arV (arR (bitsOf B) C p)) (arS K P C B (arR (bitsOf B) C p)) := by
  have hn := anewO_fn h
  have hbl := bitsOf_len B
  have hC16 : C ≤ 16 := by have := h.2; omega
  have vv := var_fn hI hB hp
  have hvq : (vX (bitsOf B) p).2.1 ≤ (bitsOf B).length := vXj_le _ _ _ _ (by omega)
  have hz : (List.replicate C ((0 : Nat), (0 : Nat))).length = C := List.length_replicate
  refine fn1N_of pl9 (by kernel_rfl) Tryz.call9 Tryz.func9 rfl (by kernel_rfl) rfl [.tmp 4, .tmp 5] (by kernel_rfl) fun Q hQ => ?_
  unfold arR at hQ
  generalize hz0 : List.replicate C ((0 : Nat), (0 : Nat)) = z0 at *
  generalize vX (bitsOf B) p = v at *
  obtain ⟨T, q0, ev⟩ := v
  dsimp only at vv hvq hQ
  refine runW ?_
  refine callW [] [] (hn) ?_
  refine runW ?_
  refine callW [some 0] [] (vv) ?_
  by_cases he : ev = 0
  · subst he
    rw [if_pos rfl] at hQ
    by_cases hT : 1048576 < T
    · rw [if_pos hT] at hQ
      unfold arV arS at hQ
      dsimp only at hQ
      refine runW ?_
      exact endW [some 0] hQ
    · rw [if_neg hT] at hQ
      by_cases hT0 : T = 0
      · rw [if_pos hT0] at hQ
        unfold arV arS at hQ
        dsimp only at hQ
        refine runW ?_
        exact endW [some 0, some 2] hQ
      · rw [if_neg hT0] at hQ
        refine runW ?_
        refine loopW (X := Nat × List (Nat × Nat) × Nat) (st := fun y => ([(0, .ref 0 0 0 0), (6, .ref 1 0 0 0), (8, .lit (.int .u64 (T : Int))), (46, .lit (.int .i64 (C : Int))), (47, .lit (.int .i64 (y.1 : Int)))],
            [some (rdC B y.2.2), some (.cells [.lit (.int .i64 K), .lit (.int .i64 P), .lit (.int .i64 (C : Int)), .sl 2 2 0 C, .lit (.int .i64 (T : Int))]), some (.row 2 (y.2.1.map sV))]))
          (inv := fun y => y.1 ≤ C ∧ y.2.1.length = C ∧ y.2.2 ≤ (bitsOf B).length ∧ rdA (bitsOf B) T C q0 = ((rdA (bitsOf B) T (C - y.1) y.2.2).1.map (y.2.1.take y.1 ++ ·), (rdA (bitsOf B) T (C - y.1) y.2.2).2)) (m := fun y => C - y.1)
          (0, z0, q0) [some 0, some 2, some 3] ⟨Nat.zero_le _, hz, hvq, by simp⟩ ?_
        rintro ⟨i, Y, q⟩ ⟨hi, hY, hq, hr⟩
        dsimp only at hi hY hq hr ⊢
        by_cases hil : i < C
        · obtain ⟨c, hc⟩ : ∃ c, C - i = c + 1 := ⟨C - i - 1, by omega⟩
          rw [hc] at hr
          by_cases h61 : q + 61 ≤ (bitsOf B).length
          · have rn := brnum_fn (B := B) (p := q) (w := 61) hI hB (by decide) (by omega)
            rw [show ((61 : Nat) : Int) = 61 from rfl] at rn
            have gm := gamma_fn (p := q + 61) hI hB (by omega)
            have hgq := gX_le h61
            have hgl := gX_lt (L := bitsOf B) (p := q + 61)
            have hkl : numOf (((bitsOf B).drop q).take 61) < 2305843009213693952 := numOf_take_lt _ 61
            rw [rdA_succ] at hr
            rw [if_pos h61] at hr
            generalize gX (bitsOf B) (q + 61) = g at *
            obtain ⟨n, q2, e2⟩ := g
            dsimp only at gm hgq hgl hr
            generalize numOf (((bitsOf B).drop q).take 61) = key at *
            by_cases he2 : e2 = 0
            · subst he2
              rw [if_pos rfl] at hr
              by_cases hk1 : 2305843009213693951 ≤ key
              · rw [if_pos (.inl hk1)] at hr
                rw [hr] at hQ
                unfold arV arS at hQ
                dsimp only [Option.map] at hQ
                refine runW ?_
                refine callW [some 0] [] (rn) ?_
                refine runW ?_
                refine callW [some 0] [] (gm) ?_
                refine runW ?_
                exact endW [some 0] hQ
              · by_cases hk2 : T < n
                · rw [if_pos (.inr hk2)] at hr
                  rw [hr] at hQ
                  unfold arV arS at hQ
                  dsimp only [Option.map] at hQ
                  refine runW ?_
                  refine callW [some 0] [] (rn) ?_
                  refine runW ?_
                  refine callW [some 0] [] (gm) ?_
                  refine runW ?_
                  exact endW [some 0] hQ
                · rw [if_neg (by omega)] at hr
                  have hset : (Y.map sV).set i [.lit (.int .u64 (key : Int)), .lit (.int .i64 (n : Int))] = (Y.set i (key, n)).map sV := by rw [List.map_set]; rfl
                  have ht : (Y.set i (key, n)).take (i + 1) = Y.take i ++ [(key, n)] := by
                    rw [List.take_succ_eq_append_getElem (by rw [List.length_set]; omega), List.take_set_of_le (Nat.le_refl i)]
                    simp
                  refine runW ?_
                  refine callW [some 0] [] (rn) ?_
                  refine runW ?_
                  refine callW [some 0] [] (gm) ?_
                  simp (maxSteps := 1000000) (disch := (first | omega | (simp only [lnA, List.length_map, List.length_range, true_and, and_true]; (try omega); done) | fail)) only [go_sem, hset, Int.reduceEq, Int.reduceToNat, Nat.reduceAdd, Nat.reduceMul, Nat.reduceEqDiff, ↓reduceIte]
                  refine nextW (i + 1, Y.set i (key, n), q2) [some 0, some 1, some 2] ⟨hil, by rw [List.length_set]; exact hY, hgq, ?_⟩ (by dsimp only; omega)
                  dsimp only
                  rw [hr, show C - (i + 1) = c by omega, ht, Option.map_map]
                  congr 2
                  funext l
                  simp
            · rw [if_neg he2] at hr
              rw [hr] at hQ
              unfold arV arS at hQ
              dsimp only [Option.map] at hQ
              refine runW ?_
              refine callW [some 0] [] (rn) ?_
              refine runW ?_
              refine callW [some 0] [] (gm) ?_
              refine runW ?_
              exact endW [some 0] hQ
          · have rn := rnumE_fn (B := B) (p := q) (w := 61) hI hB (by decide) (by omega) (by omega)
            rw [show ((61 : Nat) : Int) = 61 from rfl] at rn
            rw [rdA_succ] at hr
            rw [if_neg h61] at hr
            rw [hr] at hQ
            unfold arV arS at hQ
            dsimp only [Option.map] at hQ
            refine runW ?_
            refine callW [some 0] [] (rn) ?_
            refine runW ?_
            exact endW [some 0] hQ
        · obtain rfl : i = C := by omega
          rw [Nat.sub_self, List.take_of_length_le (by omega)] at hr
          rw [hr, rdA_zero] at hQ
          unfold arV arS at hQ
          dsimp only [Option.map] at hQ
          rw [List.append_nil] at hQ
          refine runW ?_
          exact endW [some 0, some 1] hQ
  · rw [if_neg he] at hQ
    unfold arV arS at hQ
    dsimp only at hQ
    refine runW ?_
    exact endW [some 0] hQ
end Go.Proofs.YtpkfddfkacijoaaGreatDoor
