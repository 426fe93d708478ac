import Derived.Test.YtpkfddfkacijoaaGreatDoorAe
import Derived.Test.YtpkfddfkacijoaaGreatDoorTi
namespace Go.Proofs.YtpkfddfkacijoaaGreatDoor
open Go.Eng Go.Vx
set_option linter.unusedSimpArgs false
set_option linter.unusedVariables false
set_option maxRecDepth 100000
theorem takeP_succ {α : Type} [Inhabited α] {A B : List α} {i : Nat} (ha : i < A.length) (hb : i < B.length) : A.take (i + 1) = B.take (i + 1) ↔ A.take i = B.take i ∧ A.getD i default = B.getD i default := by
  rw [List.take_succ_eq_append_getElem ha, List.take_succ_eq_append_getElem hb]
  have e1 : A.getD i default = A[i] := by rw [List.getD_eq_getElem?_getD, List.getElem?_eq_getElem ha]; rfl
  have e2 : B.getD i default = B[i] := by rw [List.getD_eq_getElem?_getD, List.getElem?_eq_getElem hb]; rfl
  rw [e1, e2]
  constructor
  · intro h
    have := List.append_inj h (by rw [List.length_take, List.length_take]; omega)
    exact ⟨this.1, by simpa using this.2⟩
  · rintro ⟨h1, h2⟩
    rw [h1, h2]
theorem equalS_fn {A B : List (Nat × Nat)} (hA : A.length ≤ 1000000) (hB : B.length ≤ 1000000) : Fn1 Tryz.prog 53 [.row 2 (A.map sV), .row 2 (B.map sV)] [] (.lit (.bool (decide (A = B)))) [] := by
  refine fn1N_of pl53 (by kernel_rfl) Tryz.call53 Tryz.func53 rfl (by kernel_rfl) rfl [.tmp 4] (by kernel_rfl) fun Q hQ => ?_
  by_cases hl : A.length = B.length
  · refine runW ?_
    refine loopW (X := Nat) (st := fun i => ([(0, .row 2 (A.map sV)), (1, .row 2 (B.map sV)), (12, .lit (.int .i64 (A.length : Int))), (13, .lit (.int .i64 (i : Int)))], []))
      (inv := fun i => i ≤ A.length ∧ A.take i = B.take i) (m := fun i => A.length - i) 0 [] ⟨by omega, by simp⟩ ?_
    rintro i ⟨hi, ht⟩
    by_cases h : i < A.length
    · have hs := takeP_succ h (show i < B.length by omega)
      have hne : A.getD i default ≠ B.getD i default → ¬ A = B := fun h e => h (by rw [e])
      obtain ⟨⟨a1, a2⟩, ea⟩ : ∃ a, A.getD i default = a := ⟨_, rfl⟩
      obtain ⟨⟨b1, b2⟩, eb⟩ : ∃ b, B.getD i default = b := ⟨_, rfl⟩
      rw [ea, eb] at hs hne
      by_cases e1 : a1 = b1
      · by_cases e2 : a2 = b2
        · have hs' := hs.2 ⟨ht, by rw [e1, e2]⟩
          subst e1 e2
          simp (maxSteps := 1000000) (disch := (first | omega | (simp only [lnA, List.length_map, List.length_range, true_and, and_true]; (try omega); done) | fail)) only [go_sem, ea, eb, Int.reduceEq, Int.reduceToNat, Nat.reduceAdd, Nat.reduceMul, Nat.reduceEqDiff, ↓reduceIte]
          refine nextW (i + 1) [] ⟨by omega, hs'⟩ (by omega)
        · rw [decide_eq_false (hne (fun e => e2 (by injection e)))] at hQ
          have e2' : ¬ (a2 : Int) = (b2 : Int) := by omega
          subst e1
          simp (maxSteps := 1000000) (disch := (first | omega | (simp only [lnA, List.length_map, List.length_range, true_and, and_true]; (try omega); done) | fail)) only [go_sem, ea, eb, decide_eq_false e2', Int.reduceEq, Int.reduceToNat, Nat.reduceAdd, Nat.reduceMul, Nat.reduceEqDiff, ↓reduceIte]
          exact endW [] hQ
      · rw [decide_eq_false (hne (fun e => e1 (by injection e)))] at hQ
        have e1' : ¬ (a1 : Int) = (b1 : Int) := by omega
        simp (maxSteps := 1000000) (disch := (first | omega | (simp only [lnA, List.length_map, List.length_range, true_and, and_true]; (try omega); done) | fail)) only [go_sem, ea, eb, decide_eq_false e1', Bool.false_and, Int.reduceEq, Int.reduceToNat, Nat.reduceAdd, Nat.reduceMul, Nat.reduceEqDiff, ↓reduceIte]
        exact endW [] hQ
    · obtain rfl : i = A.length := by omega
      rw [List.take_length, hl, List.take_length] at ht
      rw [decide_eq_true ht] at hQ
      refine runW ?_
      exact endW [] hQ
  · rw [decide_eq_false (fun e => hl (by rw [e]))] at hQ
    refine runW ?_
    exact endW [] hQ
theorem asame_fn {K P C : Int} {X Y : List (Nat × Nat)} {N M : Nat} (hX : X.length ≤ 1000000) (hY : Y.length ≤ 1000000) : Fn1 Tryz.prog 13 [amP K P C X N, amP K P C Y M] [] (.lit (.bool (decide (N = M ∧ X = Y)))) [] := by
  have q := equalS_fn hX hY
  refine fn1N_of pl13 (by kernel_rfl) Tryz.call13 Tryz.func13 rfl (by kernel_rfl) rfl [.tmp 4] (by kernel_rfl) fun Q hQ => ?_
  by_cases h : N = M
  · subst h
    rw [show decide (N = N ∧ X = Y) = decide (X = Y) by simp] at hQ
    refine runW ?_
    refine callV0 (q) rfl rfl ?_
    refine runW ?_
    exact endW [] hQ
  · have h' : ¬ (N : Int) = (M : Int) := by omega
    rw [decide_eq_false (fun e => h e.1)] at hQ
    simp (maxSteps := 1000000) (disch := (first | omega | (simp only [lnA, List.length_map, List.length_range, true_and, and_true]; (try omega); done) | fail)) only [go_sem, decide_eq_false h', Int.reduceEq, Int.reduceToNat, Nat.reduceAdd, Nat.reduceMul, Nat.reduceEqDiff, ↓reduceIte]
    exact endW [] hQ
theorem aupdE_fn {K P C : Int} {X : List (Nat × Nat)} {N key p : Nat} {d : Bool} {L : List Bool} (hk : 2305843009213693951 ≤ key) :
    Fn1 Tryz.prog 38 [.ref 0 0 0 0, .ref 1 0 0 0, .lit (.int .u64 (key : Int))] [some (amC K P C X N), some (tpC L p d)] (.lit (.int .i64 2)) [some (amC K P C X N), some (tpC L p d)] := by
  refine fn1N_of pl38 (by kernel_rfl) Tryz.call38 Tryz.func38 rfl (by kernel_rfl) rfl [.tmp 6] (by kernel_rfl) fun Q hQ => ?_
  refine runW ?_
  exact endW [some 0, some 1] hQ
def rfC (X : List (Nat × Nat)) (N : Nat) (L : List Bool) (p : Nat) (e : Int) : List V := [.row 2 (X.map sV), .lit (.int .i64 (N : Int)), .row 1 (L.map be), .lit (.int .i64 (p : Int)), .lit (.int .i64 e)]
def rfV (X : List (Nat × Nat)) (N : Nat) (L : List Bool) (p : Nat) (e : Int) : V := .agg (rfC X N L p e)
attribute [go_sem] rfC rfV
def updX (L : List Bool) (N key : Nat) (X : List (Nat × Nat)) (p : Nat) : List (Nat × Nat) × Nat × Int := match updL L (N + 1) key X p with | some r => (r.1, r.2, 0) | none => (X, L.length, 8)
theorem refUpd_fn {X : List (Nat × Nat)} {N key p : Nat} {L : List Bool} (hX : X.length ≤ 1000000) (hk : key < 18446744073709551616) (hN : N < 1048576) (hL : L.length ≤ 1048576) (hp : p ≤ L.length) (hR : ∀ x ∈ X, x.2 ≤ 1048576) :
    Fn1 Tryz.prog 43 [rfV X N L p 0, .lit (.int .u64 (key : Int))] [] (rfV (updX L N key X p).1 (N + 1) L (updX L N key X p).2.1 (updX L N key X p).2.2) [] := by
  have hN1 : (N : Int) + 1 = ((N + 1 : Nat) : Int) := by omega
  unfold updX
  refine fn1N_of pl43 (by kernel_rfl) Tryz.call43 Tryz.func43 rfl (by kernel_rfl) rfl [.cell 4 31] (by kernel_rfl) fun Q hQ => ?_
  simp (maxSteps := 1000000) (disch := (first | omega | (simp only [lnA, List.length_map, List.length_range, true_and, and_true]; (try omega); done) | fail)) only [go_sem, hN1, Int.reduceEq, Int.reduceToNat, Nat.reduceAdd, Nat.reduceMul, Nat.reduceEqDiff, ↓reduceIte]
  refine loopW (X := Nat × List (Nat × Nat) × Nat) (st := fun y => ([(1, .lit (.int .u64 (key : Int))), (2, .ref 0 0 0 0), (4, .ref 1 0 0 0), (5, .sl 2 2 0 X.length), (6, .lit (.int .i64 (y.1 : Int)))],
      [some (.cells (rfC X (N + 1) L y.2.2 0)), some (.cells [.lit (.slice none 0 0), .lit (.int .i64 0), .lit (.slice none 0 0), .lit (.int .i64 0), .lit (.int .i64 0)]), some (.row 2 (y.2.1.map sV))]))
    (inv := fun y => y.1 ≤ X.length ∧ y.2.1.length = X.length ∧ y.2.2 ≤ L.length ∧ updL L (N + 1) key X p = (updL L (N + 1) key (y.2.1.drop y.1) y.2.2).map (fun r => (y.2.1.take y.1 ++ r.1, r.2)) ∧ ∀ x ∈ y.2.1.drop y.1, x.2 ≤ 1048576) (m := fun y => X.length - y.1) (0, X, p) [some 0, some 1, some 3] ⟨Nat.zero_le _, rfl, hp, by simp, by simpa using hR⟩ ?_
  rintro ⟨i, Y, q⟩ ⟨hi, hY, hq, hu, hR2⟩
  dsimp only at hi hY hq hu hR2 ⊢
  by_cases hil : i < X.length
  · have hiY : i < Y.length := by omega
    have hdr : Y.drop i = Y[i] :: Y.drop (i + 1) := List.drop_eq_getElem_cons hiY
    have hget : Y.getD i default = Y[i] := by rw [List.getD_eq_getElem?_getD, List.getElem?_eq_getElem hiY]; rfl
    have hx2 : Y[i].2 ≤ 1048576 := hR2 Y[i] (by rw [hdr]; exact List.mem_cons_self)
    have hset : ∀ z : Nat × Nat, (Y.map sV).set i [.lit (.int .u64 (z.1 : Int)), .lit (.int .i64 (z.2 : Int))] = (Y.set i z).map sV := fun z => by rw [List.map_set]; rfl
    have hb := refBelow_fn (L := L) (n := N + 1) (p := q) hL hq (by omega) (by omega)
    have hub : updL L (N + 1) key (Y.drop i) q = if (belowX L (N + 1) q).2.1 = 0 then (updL L (N + 1) key (Y.drop (i + 1)) (belowX L (N + 1) q).2.2.1).map fun r => (stp key (belowX L (N + 1) q).1 Y[i] :: r.1, r.2) else none := by rw [hdr]; rfl
    have hnext : ∀ z q', updL L (N + 1) key (Y.drop i) q = (updL L (N + 1) key (Y.drop (i + 1)) q').map (fun r => (z :: r.1, r.2)) → updL L (N + 1) key X p = (updL L (N + 1) key ((Y.set i z).drop (i + 1)) q').map (fun r => ((Y.set i z).take (i + 1) ++ r.1, r.2)) := by
      intro z q' e
      have e1 : (Y.set i z).drop (i + 1) = Y.drop (i + 1) := by rw [List.drop_set_of_lt (by omega)]
      have e2 : (Y.set i z).take (i + 1) = Y.take i ++ [z] := by
        rw [List.take_succ_eq_append_getElem (by simpa using hiY), List.take_set_of_le (Nat.le_refl i)]
        simp
      rw [hu, e, e1, e2, Option.map_map]
      congr 1
      funext r
      simp
    have hR3 : ∀ z, ∀ x ∈ (Y.set i z).drop (i + 1), x.2 ≤ 1048576 := by
      intro z x hx
      rw [List.drop_set_of_lt (by omega)] at hx
      exact hR2 x (by rw [hdr]; exact List.mem_cons_of_mem _ hx)
    have hend := belowX_end (L := L) (n := N + 1) hq
    obtain ⟨tk, htk⟩ : ∃ tk, (belowX L (N + 1) q).2.2.1 = q + tk := ⟨(belowX L (N + 1) q).2.2.1 - q, by omega⟩
    by_cases h0 : (belowX L (N + 1) q).2.1 = 0
    · obtain ⟨hd, hlt⟩ := belowX_ok (Nat.succ_pos N) h0
      rw [if_pos h0] at hub
      rw [h0] at hb
      have hn := hnext _ _ hub
      rw [htk, Nat.add_sub_cancel_left] at hb
      rw [htk] at hn hend
      have hself : Y.set i Y[i] = Y := List.set_getElem_self _
      have hlen : ∀ z, (Y.set i z).length = X.length := fun z => by rw [List.length_set]; exact hY
      have hqt : (q : Int) + (tk : Int) = ((q + tk : Nat) : Int) := by omega
      generalize (belowX L (N + 1) q).1 = a at *
      generalize Y[i] = x at *
      unfold stp at hn
      by_cases ha : a = 0
      · rw [if_pos ha] at hn
        have hs : (Y.map sV).set i [.lit (.int .u64 (key : Int)), .lit (.int .i64 1)] = (Y.set i (key, 1)).map sV := hset (key, 1)
        subst ha
        simp (maxSteps := 1000000) (disch := (first | omega | (simp only [lnA, List.length_map, List.length_range, true_and, and_true]; (try omega); done) | fail)) only [go_sem, hget, Int.reduceEq, Int.reduceToNat, Nat.reduceAdd, Nat.reduceMul, Nat.reduceEqDiff, ↓reduceIte]
        refine callV0 (hb) rfl rfl ?_
        simp (maxSteps := 1000000) (disch := (first | omega | (simp only [lnA, List.length_map, List.length_range, true_and, and_true]; (try omega); done) | fail)) only [go_sem, hget, hs, hqt, Int.reduceEq, Int.reduceToNat, Nat.reduceAdd, Nat.reduceMul, Nat.reduceEqDiff, ↓reduceIte]
        refine nextW (i + 1, Y.set i (key, 1), q + tk) [some 0, some 1, some 2] ⟨hil, hlen _, hend.2, hn, hR3 _⟩ (by dsimp only; omega)
      · rw [if_neg ha] at hn
        by_cases hxk : x.1 = key
        · rw [if_pos hxk] at hn
          have hs := hset (x.1, x.2 + 1)
          have hx1 : ((x.2 + 1 : Nat) : Int) = (x.2 : Int) + 1 := by omega
          rw [hx1] at hs
          simp (maxSteps := 1000000) (disch := (first | omega | (simp only [lnA, List.length_map, List.length_range, true_and, and_true]; (try omega); done) | fail)) only [go_sem, hget, Int.reduceEq, Int.reduceToNat, Nat.reduceAdd, Nat.reduceMul, Nat.reduceEqDiff, ↓reduceIte]
          refine callV0 (hb) rfl rfl ?_
          simp (maxSteps := 1000000) (disch := (first | omega | (simp only [lnA, List.length_map, List.length_range, true_and, and_true]; (try omega); done) | fail)) only [go_sem, hget, hs, hqt, Int.reduceEq, Int.reduceToNat, Nat.reduceAdd, Nat.reduceMul, Nat.reduceEqDiff, ↓reduceIte]
          refine nextW (i + 1, Y.set i (x.1, x.2 + 1), q + tk) [some 0, some 1, some 2] ⟨hil, hlen _, hend.2, hn, hR3 _⟩ (by dsimp only; omega)
        · rw [if_neg hxk] at hn
          rw [hself] at hn
          have hR4 := hR3 x
          rw [hself] at hR4
          simp (maxSteps := 1000000) (disch := (first | omega | (simp only [lnA, List.length_map, List.length_range, true_and, and_true]; (try omega); done) | fail)) only [go_sem, hget, Int.reduceEq, Int.reduceToNat, Nat.reduceAdd, Nat.reduceMul, Nat.reduceEqDiff, ↓reduceIte]
          refine callV0 (hb) rfl rfl ?_
          simp (maxSteps := 1000000) (disch := (first | omega | (simp only [lnA, List.length_map, List.length_range, true_and, and_true]; (try omega); done) | fail)) only [go_sem, hget, hqt, Int.reduceEq, Int.reduceToNat, Nat.reduceAdd, Nat.reduceMul, Nat.reduceEqDiff, ↓reduceIte]
          refine nextW (i + 1, Y, q + tk) [some 0, some 1, some 2] ⟨hil, hY, hend.2, hn, hR4⟩ (by dsimp only; omega)
    · have he := belowX_err (Nat.succ_pos N) h0
      rw [if_neg h0] at hub
      rw [he] at hb htk
      rw [hub, Option.map_none] at hu
      rw [hu] at hQ
      dsimp only at hQ hb htk
      rw [htk, Nat.add_sub_cancel_left] at hb
      have hqt : (q : Int) + (tk : Int) = ((L.length : Nat) : Int) := by omega
      simp (maxSteps := 1000000) (disch := (first | omega | (simp only [lnA, List.length_map, List.length_range, true_and, and_true]; (try omega); done) | fail)) only [go_sem, hget, Int.reduceEq, Int.reduceToNat, Nat.reduceAdd, Nat.reduceMul, Nat.reduceEqDiff, ↓reduceIte]
      refine callV0 (hb) rfl rfl ?_
      simp (maxSteps := 1000000) (disch := (first | omega | (simp only [lnA, List.length_map, List.length_range, true_and, and_true]; (try omega); done) | fail)) only [go_sem, hqt, Int.reduceEq, Int.reduceToNat, Nat.reduceAdd, Nat.reduceMul, Nat.reduceEqDiff, ↓reduceIte]
      exact endW [] hQ
  · obtain rfl : i = X.length := by omega
    have hdr : Y.drop X.length = [] := List.drop_eq_nil_of_le (by omega)
    have htk : Y.take X.length = Y := List.take_of_length_le (by omega)
    rw [hdr, htk] at hu
    have hu2 : updL L (N + 1) key X p = some (Y, q) := by rw [hu]; simp [updL]
    rw [hu2] at hQ
    dsimp only at hQ
    refine runW ?_
    exact endW [] hQ
end Go.Proofs.YtpkfddfkacijoaaGreatDoor
