import Derived.Test.YtpkfddfkacijoaaGreatDoorAb
import Derived.Test.YtpkfddfkacijoaaGreatDoorAc
namespace Go.Proofs.YtpkfddfkacijoaaGreatDoor
open Go.Eng Go.Vx
set_option linter.unusedSimpArgs false
set_option linter.unusedVariables false
set_option maxRecDepth 100000
theorem aclone_fn {X : List (Nat × Nat)} (hX : X.length ≤ 1000000) (h : X ≠ []) : Fn1 Tryz.prog 87 [.row 2 (X.map sV)] [] (.sl 0 2 0 X.length) [some (.row 2 (X.map sV))] := by
  refine fn1N_of pl87 (by kernel_rfl) Tryz.call87 Tryz.func87 rfl (by kernel_rfl) rfl [.tmp 2] (by kernel_rfl) fun Q hQ => ?_
  have he : (X.map sV).isEmpty = false := by simp [h]
  simp (maxSteps := 1000000) (disch := (first | omega | (simp only [lnA, List.length_map, List.length_range, true_and, and_true]; (try omega); done) | fail)) only [go_sem, he, Int.reduceEq, Int.reduceToNat, Nat.reduceAdd, Nat.reduceMul, Nat.reduceEqDiff, ↓reduceIte]
  exact endW [some 1] hQ
theorem aClone_fn {K P C : Int} {X : List (Nat × Nat)} {N : Nat} (hX : X.length ≤ 1000000) (h : X ≠ []) : Fn1 Tryz.prog 42 [amP K P C X N] [] (.ref 0 0 0 0)
    [some (.cells [.lit (.int .i64 K), .lit (.int .i64 P), .lit (.int .i64 C), .sl 1 2 0 X.length, .lit (.int .i64 (N : Int))]), some (.row 2 (X.map sV))] := by
  have hc := aclone_fn hX h
  refine fn1N_of pl42 (by kernel_rfl) Tryz.call42 Tryz.func42 rfl (by kernel_rfl) rfl [.tmp 2] (by kernel_rfl) fun Q hQ => ?_
  refine runW ?_
  refine callF (hc) ?_
  refine runW ?_
  exact endW [some 1, some 0] hQ
theorem aupd_fn {K P C : Int} {X : List (Nat × Nat)} {N key p : Nat} {L : List Bool} (hX : X.length ≤ 1000000) (h : X ≠ []) (hk : key < 2305843009213693951) (hN : N < 1048576) (hL : L.length ≤ 1048576) (hp : p ≤ L.length) (hR : ∀ x ∈ X, x.2 ≤ 1048576) :
    Fn1 Tryz.prog 38 [.ref 0 0 0 0, .ref 1 0 0 0, .lit (.int .u64 (key : Int))] [some (amC K P C X N), some (tpC L p false)]
    (.lit (.int .i64 (match updL L (N + 1) key X p with | some _ => 0 | none => 8)))
    (match updL L (N + 1) key X p with | some r => [some (amC K P C r.1 (N + 1)), some (tpC L r.2 false)] | none => [some (amC K P C X N), some (tpC L L.length true)]) := by
  have hc := aClone_fn (K := K) (P := P) (C := C) (N := N) hX h
  have hN1 : (N : Int) + 1 = ((N + 1 : Nat) : Int) := by omega
  refine fn1N_of pl38 (by kernel_rfl) Tryz.call38 Tryz.func38 rfl (by kernel_rfl) rfl [.tmp 6] (by kernel_rfl) fun Q hQ => ?_
  refine runW ?_
  refine callF (hc) ?_
  refine runW ?_
  refine loopW (X := Nat × List (Nat × Nat) × Nat) (st := fun y => ([(0, .ref 0 0 0 0), (1, .ref 1 0 0 0), (2, .lit (.int .u64 (key : Int))), (7, .ref 2 0 0 0), (34, .lit (.int .i64 (X.length : Int))), (35, .lit (.int .i64 (y.1 : Int)))], [some (amC K P C X N), some (tpC L y.2.2 false), some (.cells [.lit (.int .i64 K), .lit (.int .i64 P), .lit (.int .i64 C), .sl 3 2 0 X.length, .lit (.int .i64 ((N + 1 : Nat) : Int))]), some (.row 2 (y.2.1.map sV))]))
    (inv := fun y => y.1 ≤ X.length ∧ y.2.1.length = X.length ∧ y.2.2 ≤ L.length ∧ updL L (N + 1) key X p = (updL L (N + 1) key (y.2.1.drop y.1) y.2.2).map (fun r => (y.2.1.take y.1 ++ r.1, r.2)) ∧ ∀ x ∈ y.2.1.drop y.1, x.2 ≤ 1048576) (m := fun y => X.length - y.1) (0, X, p) [some 0, some 1, some 2, some 3] ⟨Nat.zero_le _, rfl, hp, by simp, by simpa using hR⟩ ?_
  rintro ⟨i, Y, q⟩ ⟨hi, hY, hq, hu, hR2⟩
  dsimp only at hi hY hq hu hR2 ⊢
  by_cases hil : i < X.length
  · have hiY : i < Y.length := by omega
    have hdr : Y.drop i = Y[i] :: Y.drop (i + 1) := List.drop_eq_getElem_cons hiY
    have hget : Y.getD i default = Y[i] := by rw [List.getD_eq_getElem?_getD, List.getElem?_eq_getElem hiY]; rfl
    have hx2 : Y[i].2 ≤ 1048576 := hR2 Y[i] (by rw [hdr]; exact List.mem_cons_self)
    have hset : ∀ z : Nat × Nat, (Y.map sV).set i [.lit (.int .u64 (z.1 : Int)), .lit (.int .i64 (z.2 : Int))] = (Y.set i z).map sV := fun z => by rw [List.map_set]; rfl
    have hb := below_fn (L := L) (n := N + 1) (p := q) hL hq (by omega) (by omega)
    have hub : updL L (N + 1) key (Y.drop i) q = if (belowX L (N + 1) q).2.1 = 0 then (updL L (N + 1) key (Y.drop (i + 1)) (belowX L (N + 1) q).2.2.1).map fun r => (stp key (belowX L (N + 1) q).1 Y[i] :: r.1, r.2) else none := by rw [hdr]; rfl
    have hnext : ∀ z q', updL L (N + 1) key (Y.drop i) q = (updL L (N + 1) key (Y.drop (i + 1)) q').map (fun r => (z :: r.1, r.2)) → updL L (N + 1) key X p = (updL L (N + 1) key ((Y.set i z).drop (i + 1)) q').map (fun r => ((Y.set i z).take (i + 1) ++ r.1, r.2)) := by
      intro z q' e
      have e1 : (Y.set i z).drop (i + 1) = Y.drop (i + 1) := by rw [List.drop_set_of_lt (by omega)]
      have e2 : (Y.set i z).take (i + 1) = Y.take i ++ [z] := by
        rw [List.take_succ_eq_append_getElem (by simpa using hiY), List.take_set_of_le (Nat.le_refl i)]
        simp
      rw [hu, e, e1, e2, Option.map_map]
      congr 1
      funext r
      simp
    have hR3 : ∀ z, ∀ x ∈ (Y.set i z).drop (i + 1), x.2 ≤ 1048576 := by
      intro z x hx
      rw [List.drop_set_of_lt (by omega)] at hx
      exact hR2 x (by rw [hdr]; exact List.mem_cons_of_mem _ hx)
    by_cases h0 : (belowX L (N + 1) q).2.1 = 0
    · obtain ⟨hd, hlt⟩ := belowX_ok (Nat.succ_pos N) h0
      have hend := belowX_end (L := L) (n := N + 1) hq
      rw [if_pos h0] at hub
      rw [hd, h0] at hb
      have hn := hnext _ _ hub
      have hself : Y.set i Y[i] = Y := List.set_getElem_self _
      have hlen : ∀ z, (Y.set i z).length = X.length := fun z => by rw [List.length_set]; exact hY
      generalize (belowX L (N + 1) q).2.2.1 = q' at *
      generalize (belowX L (N + 1) q).1 = a at *
      generalize Y[i] = x at *
      unfold stp at hn
      by_cases ha : a = 0
      · rw [if_pos ha] at hn
        have hs : (Y.map sV).set i [.lit (.int .u64 (key : Int)), .lit (.int .i64 1)] = (Y.set i (key, 1)).map sV := hset (key, 1)
        subst ha
        simp (maxSteps := 1000000) (disch := (first | omega | (simp only [lnA, List.length_map, List.length_range, true_and, and_true]; (try omega); done) | fail)) only [go_sem, hget, Int.reduceEq, Int.reduceToNat, Nat.reduceAdd, Nat.reduceMul, Nat.reduceEqDiff, ↓reduceIte]
        refine callW [some 1] [] (hb) ?_
        simp (maxSteps := 1000000) (disch := (first | omega | (simp only [lnA, List.length_map, List.length_range, true_and, and_true]; (try omega); done) | fail)) only [go_sem, hget, hs, Int.reduceEq, Int.reduceToNat, Nat.reduceAdd, Nat.reduceMul, Nat.reduceEqDiff, ↓reduceIte]
        refine nextW (i + 1, Y.set i (key, 1), q') [some 0, some 1, some 2, some 3] ⟨hil, hlen _, hend.2, hn, hR3 _⟩ (by dsimp only; omega)
      · rw [if_neg ha] at hn
        by_cases hxk : x.1 = key
        · rw [if_pos hxk] at hn
          have hs := hset (x.1, x.2 + 1)
          have hx1 : ((x.2 + 1 : Nat) : Int) = (x.2 : Int) + 1 := by omega
          rw [hx1] at hs
          simp (maxSteps := 1000000) (disch := (first | omega | (simp only [lnA, List.length_map, List.length_range, true_and, and_true]; (try omega); done) | fail)) only [go_sem, hget, Int.reduceEq, Int.reduceToNat, Nat.reduceAdd, Nat.reduceMul, Nat.reduceEqDiff, ↓reduceIte]
          refine callW [some 1] [] (hb) ?_
          simp (maxSteps := 1000000) (disch := (first | omega | (simp only [lnA, List.length_map, List.length_range, true_and, and_true]; (try omega); done) | fail)) only [go_sem, hget, hs, Int.reduceEq, Int.reduceToNat, Nat.reduceAdd, Nat.reduceMul, Nat.reduceEqDiff, ↓reduceIte]
          refine nextW (i + 1, Y.set i (x.1, x.2 + 1), q') [some 0, some 1, some 2, some 3] ⟨hil, hlen _, hend.2, hn, hR3 _⟩ (by dsimp only; omega)
        · rw [if_neg hxk] at hn
          rw [hself] at hn
          have hR4 := hR3 x
          rw [hself] at hR4
          simp (maxSteps := 1000000) (disch := (first | omega | (simp only [lnA, List.length_map, List.length_range, true_and, and_true]; (try omega); done) | fail)) only [go_sem, hget, Int.reduceEq, Int.reduceToNat, Nat.reduceAdd, Nat.reduceMul, Nat.reduceEqDiff, ↓reduceIte]
          refine callW [some 1] [] (hb) ?_
          simp (maxSteps := 1000000) (disch := (first | omega | (simp only [lnA, List.length_map, List.length_range, true_and, and_true]; (try omega); done) | fail)) only [go_sem, hget, Int.reduceEq, Int.reduceToNat, Nat.reduceAdd, Nat.reduceMul, Nat.reduceEqDiff, ↓reduceIte]
          refine nextW (i + 1, Y, q') [some 0, some 1, some 2, some 3] ⟨hil, hY, hend.2, hn, hR4⟩ (by dsimp only; omega)
    · have he := belowX_err (Nat.succ_pos N) h0
      rw [if_neg h0] at hub
      rw [he] at hb
      rw [hub, Option.map_none] at hu
      rw [hu] at hQ
      dsimp only at hQ
      simp (maxSteps := 1000000) (disch := (first | omega | (simp only [lnA, List.length_map, List.length_range, true_and, and_true]; (try omega); done) | fail)) only [go_sem, hget, Int.reduceEq, Int.reduceToNat, Nat.reduceAdd, Nat.reduceMul, Nat.reduceEqDiff, ↓reduceIte]
      refine callW [some 1] [] (hb) ?_
      refine runW ?_
      exact endW [some 0, some 1] hQ
  · obtain rfl : i = X.length := by omega
    have hdr : Y.drop X.length = [] := List.drop_eq_nil_of_le (by omega)
    have htk : Y.take X.length = Y := List.take_of_length_le (by omega)
    rw [hdr, htk] at hu
    have hu2 : updL L (N + 1) key X p = some (Y, q) := by rw [hu]; simp [updL]
    rw [hu2] at hQ
    dsimp only at hQ
    refine runW ?_
    exact endW [some 0, some 1] hQ
end Go.Proofs.YtpkfddfkacijoaaGreatDoor
