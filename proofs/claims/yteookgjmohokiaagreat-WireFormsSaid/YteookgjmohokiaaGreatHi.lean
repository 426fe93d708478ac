import Derived.Test.YteookgjmohokiaaGreatHh
/-! Law 18: an array of states that may be. -/
namespace Go.Proofs.YteookgjmohokiaaGreat
open Go.Eng Go.Vx
set_option linter.unusedSimpArgs false
set_option linter.unusedVariables false
set_option maxRecDepth 100000
def stI (x : Int × Int × Bool) : List PV := [.lit (.int .i64 x.1), .lit (.int .i64 x.2.1), .lit (.bool x.2.2)]
@[go_sem] theorem stI_eq {x : Int × Int × Bool} : stI x = [.lit (.int .i64 x.1), .lit (.int .i64 x.2.1), .lit (.bool x.2.2)] := (rfl)
def stN (x : Nat × Nat × Bool) : List PV := [.lit (.int .i64 (x.1 : Int)), .lit (.int .i64 (x.2.1 : Int)), .lit (.bool x.2.2)]
@[go_sem] theorem stN_eq {x : Nat × Nat × Bool} : stN x = [.lit (.int .i64 (x.1 : Int)), .lit (.int .i64 (x.2.1 : Int)), .lit (.bool x.2.2)] := (rfl)
theorem getD_some3 {α : Type} [Inhabited α] {l : List α} {i : Nat} {x : α} (h : l[i]? = some x) : l.getD i default = x := by rw [List.getD_eq_getElem?_getD, h]; rfl
/-- The states. -/
def mkS (k a b : Nat) (l : List (Int × Int × Bool)) : List (Nat × Nat × Bool) := if l = [] then [(0, 0, false)] else (l.take 8).map (wi k a b)
/-- Their numbers, so many of them. -/
def nuS (k a b : Nat) (S : List (Nat × Nat × Bool)) (i : Nat) : List Nat := (S.take i).map (fun s => numOf (rgB k a b s)) ++ List.replicate (S.length - i) 0
theorem nuS_len (k a b : Nat) (S : List (Nat × Nat × Bool)) {i : Nat} (hi : i ≤ S.length) : (nuS k a b S i).length = S.length := by
  unfold nuS
  rw [List.length_append, List.length_map, List.length_take, List.length_replicate]
  omega
theorem nuS_lt (k a b : Nat) (S : List (Nat × Nat × Bool)) (i : Nat) : ∀ x ∈ nuS k a b S i, x < 2 ^ wd k a b := by
  intro x hx
  unfold nuS at hx
  rcases List.mem_append.1 hx with hx | hx
  · obtain ⟨s, _, rfl⟩ := List.mem_map.1 hx
    have := numOf_lt (rgB k a b s)
    rw [rgB_len] at this
    exact this
  · rw [(List.mem_replicate.1 hx).2]
    exact Nat.pow_pos (by decide)
theorem nuS_set (k a b : Nat) {S : List (Nat × Nat × Bool)} {i : Nat} {s : Nat × Nat × Bool} (h : S[i]? = some s) : (nuS k a b S i).set i (numOf (rgB k a b s)) = nuS k a b S (i + 1) := by
  have hi : i < S.length := (List.getElem?_eq_some_iff.1 h).1
  unfold nuS
  rw [List.set_append, if_neg (by simp; omega), List.length_map, List.length_take, Nat.min_eq_left (by omega), Nat.sub_self]
  obtain ⟨q, hq⟩ : ∃ q, S.length - i = q + 1 := ⟨S.length - i - 1, by omega⟩
  rw [hq, List.replicate_succ, List.set_cons_zero, List.take_add_one, h, show S.length - (i + 1) = q by omega]
  simp
theorem mkS_len {k a b : Nat} {l : List (Int × Int × Bool)} : 1 ≤ (mkS k a b l).length ∧ (mkS k a b l).length ≤ 8 := by
  unfold mkS
  by_cases h : l = []
  · rw [if_pos h]; exact ⟨Nat.le_refl _, by decide⟩
  · rw [if_neg h, List.length_map, List.length_take]
    have := List.length_pos_iff.2 h
    omega
theorem mkS_well {k a b : Nat} {l : List (Int × Int × Bool)} : ∀ s ∈ mkS k a b l, wellN k a b s := by
  intro s hs
  unfold mkS at hs
  split at hs
  · rw [List.mem_singleton.1 hs]
    unfold wellN
    split
    · exact ⟨Nat.zero_le _, Nat.zero_le _, fun h => by cases h⟩
    · exact ⟨rfl, Nat.zero_le _, fun h => by cases h⟩
  · obtain ⟨x, _, rfl⟩ := List.mem_map.1 hs
    exact wi_well
set_option maxHeartbeats 4000000 in
theorem make18_fn {k a b : Nat} {l : List (Int × Int × Bool)} (h : smN k a b) (hl : l.length ≤ 9223372036854775807) :
    Fn1 Tryz.prog 16 [pR k a b, .row 3 (l.map stI)] [] (.tup [.ref 0 0 0 0, .row 3 ((mkS k a b l).map stN), .lit (.bool true)])
      [some (caC 1 k a b), some (vcC 2 (mkS k a b l).length (wd k a b)), some (vcR (mkS k a b l).length (wd k a b) (packN (wd k a b) (nuS k a b (mkS k a b l) (mkS k a b l).length)))] := by
  have hb := smN_b h
  have hgood := smN_good h
  have wn := fun s => within_fn (k := k) (a := a) (b := b) (s := s) hb.2 hb.1
  refine fn1N_of pl16 (by kernel_rfl) Tryz.call16 Tryz.func16 rfl (by kernel_rfl) rfl [.tmp 4, .tmp 5, .tmp 6] (by kernel_rfl) fun Q hQ => ?_
  simp (maxSteps := 1000000) (disch := (first | omega | (simp only [lnA, List.length_map, List.length_range, true_and, and_true]; (try omega); done) | fail)) only [go_sem, Int.reduceEq, Int.reduceToNat, Nat.reduceAdd, Nat.reduceMul, Nat.reduceEqDiff, ↓reduceIte]
  refine LoopV_of (X := Nat) (st := fun i => ([(1, .row 3 (l.map stI)), (2, .ref 0 0 0 0), (7, .sl 1 3 0 i), (8, .lit (.int .i64 (i : Int)))],
      [some (.cells [.lit (.int .i64 (k : Int)), .lit (.int .i64 (a : Int)), .lit (.int .i64 (b : Int))]), some (.row 3 (((l.take i).map (wi k a b)).map stN))]))
    (inv := fun i => i ≤ l.length ∧ i ≤ 8) (m := fun i => 8 - i) 0 [some 0, none] rfl (by simp (disch := (first | omega | (simp only [lnA, List.length_map, List.length_range, true_and, and_true]; (try omega); done) | fail)) only [go_sem, Int.reduceEq, Int.reduceToNat, Nat.reduceAdd, Nat.reduceMul, Nat.reduceEqDiff, ↓reduceIte, true_and, and_true, and_self, List.drop_zero, List.take_length, Nat.le_refl, V.lit.injEq, Value.int.injEq, Value.bool.injEq]; try (first | omega | (simp; done) | (simp; omega))) (by simp (disch := (first | omega | (simp only [lnA, List.length_map, List.length_range, true_and, and_true]; (try omega); done) | fail)) only [go_sem, Int.reduceEq, Int.reduceToNat, Nat.reduceAdd, Nat.reduceMul, Nat.reduceEqDiff, ↓reduceIte, true_and, and_true, and_self, List.drop_zero, List.take_length, Nat.le_refl, V.lit.injEq, Value.int.injEq, Value.bool.injEq]; try (first | omega | (simp; done) | (simp; omega))) ⟨Nat.zero_le _, Nat.zero_le _⟩ ?_
  rintro i ⟨hi, hi8⟩
  by_cases hil : i < l.length
  · by_cases hil8 : i < 8
    · have hgi : l[i]? = some l[i] := List.getElem?_eq_getElem hil
      have hget := getD_some3 hgi
      have wnx := wn l[i]
      have htk : (l.take (i + 1)).map (wi k a b) = (l.take i).map (wi k a b) ++ [wi k a b l[i]] := by rw [List.take_add_one, hgi, List.map_append]; rfl
      have hml : ((l.take i).map (wi k a b)).length = i := by rw [List.length_map, List.length_take]; omega
      generalize (l.take i).map (wi k a b) = M at *
      generalize wi k a b l[i] = r at *
      have st17 := state17_fn (s := r)
      simp (maxSteps := 1000000) (disch := (first | omega | (simp only [lnA, List.length_map, List.length_range, true_and, and_true]; (try omega); done) | fail)) only [go_sem, hget, Int.reduceEq, Int.reduceToNat, Nat.reduceAdd, Nat.reduceMul, Nat.reduceEqDiff, ↓reduceIte]
      refine callV0 (wnx) rfl rfl ?_
      simp (maxSteps := 1000000) (disch := (first | omega | (simp only [lnA, List.length_map, List.length_range, true_and, and_true]; (try omega); done) | fail)) only [go_sem, hget, Int.reduceEq, Int.reduceToNat, Nat.reduceAdd, Nat.reduceMul, Nat.reduceEqDiff, ↓reduceIte]
      refine callV0 (st17) rfl rfl ?_
      simp (maxSteps := 1000000) (disch := (first | omega | (simp only [lnA, List.length_map, List.length_range, true_and, and_true]; (try omega); done) | fail)) only [go_sem, hget, Int.reduceEq, Int.reduceToNat, Nat.reduceAdd, Nat.reduceMul, Nat.reduceEqDiff, ↓reduceIte]
      refine NextV_of (i + 1) [some 0, some 3] rfl ?_ ?_ ⟨hil, hil8⟩ (by omega)
      · dsimp only
        rw [htk, List.map_append, List.map_singleton, stN_eq]
        (simp (disch := (first | omega | (simp only [lnA, List.length_map, List.length_range, true_and, and_true]; (try omega); done) | fail)) only [go_sem, Int.reduceEq, Int.reduceToNat, Nat.reduceAdd, Nat.reduceMul, Nat.reduceEqDiff, ↓reduceIte, true_and, and_true, and_self, List.drop_zero, List.take_length, Nat.le_refl, V.lit.injEq, Value.int.injEq, Value.bool.injEq]; try (first | omega | (simp; done) | (simp; omega)))
      · (simp (disch := (first | omega | (simp only [lnA, List.length_map, List.length_range, true_and, and_true]; (try omega); done) | fail)) only [go_sem, Int.reduceEq, Int.reduceToNat, Nat.reduceAdd, Nat.reduceMul, Nat.reduceEqDiff, ↓reduceIte, true_and, and_true, and_self, List.drop_zero, List.take_length, Nat.le_refl, V.lit.injEq, Value.int.injEq, Value.bool.injEq]; try (first | omega | (simp; done) | (simp; omega)))
    · have hie : i = 8 := by omega
      have hS : mkS k a b l = (l.take i).map (wi k a b) := by
        unfold mkS
        rw [if_neg (fun e => by rw [e] at hil; simp at hil), hie]
      rw [← hS]
      have hSl : (mkS k a b l).length = i := by rw [hS, List.length_map, List.length_take]; omega
      have hSw := mkS_well (k := k) (a := a) (b := b) (l := l)
      generalize mkS k a b l = S at *
      have own := own17_fn (k := k) (a := a) (b := b)
      have cn := cNew_fn (n := i) hgood (by omega)
      have hz : vcR i (wd k a b) 0 = vcR i (wd k a b) (packN (wd k a b) (nuS k a b S 0)) := by
        unfold nuS
        rw [List.take_zero]
        show _ = vcR i (wd k a b) (packN (wd k a b) (List.replicate _ 0))
        rw [packN_rep]
      rw [hz] at cn
      clear hz
      rw [hSl] at hQ
      simp (maxSteps := 1000000) (disch := (first | omega | (simp only [lnA, List.length_map, List.length_range, true_and, and_true]; (try omega); done) | fail)) only [go_sem, hSl, Int.reduceEq, Int.reduceToNat, Nat.reduceAdd, Nat.reduceMul, Nat.reduceEqDiff, ↓reduceIte]
      refine callV0 (own) rfl rfl ?_
      simp (maxSteps := 1000000) (disch := (first | omega | (simp only [lnA, List.length_map, List.length_range, true_and, and_true]; (try omega); done) | fail)) only [go_sem, hSl, Int.reduceEq, Int.reduceToNat, Nat.reduceAdd, Nat.reduceMul, Nat.reduceEqDiff, ↓reduceIte]
      refine callW [] [] (cn) ?_
      simp (maxSteps := 1000000) (disch := (first | omega | (simp only [lnA, List.length_map, List.length_range, true_and, and_true]; (try omega); done) | fail)) only [go_sem, Int.reduceEq, Int.reduceToNat, Nat.reduceAdd, Nat.reduceMul, Nat.reduceEqDiff, ↓reduceIte]
      refine LoopV_of (X := Nat) (st := fun j => ([(7, .row 3 (S.map stN)), (9, .ref 0 0 0 0), (52, .row 3 (S.map stN)), (53, .lit (.int .i64 (i : Int))), (54, .lit (.int .i64 (j : Int)))],
          [some (caC 1 k a b), some (vcC 2 i (wd k a b)), some (vcR i (wd k a b) (packN (wd k a b) (nuS k a b S j)))]))
        (inv := fun j => j ≤ i) (m := fun j => i - j) 0 [some 2, some 3, some 4] rfl (by simp (disch := (first | omega | (simp only [lnA, List.length_map, List.length_range, true_and, and_true]; (try omega); done) | fail)) only [go_sem, Int.reduceEq, Int.reduceToNat, Nat.reduceAdd, Nat.reduceMul, Nat.reduceEqDiff, ↓reduceIte, true_and, and_true, and_self, List.drop_zero, List.take_length, Nat.le_refl, V.lit.injEq, Value.int.injEq, Value.bool.injEq]; try (first | omega | (simp; done) | (simp; omega))) (by simp (disch := (first | omega | (simp only [lnA, List.length_map, List.length_range, true_and, and_true]; (try omega); done) | fail)) only [go_sem, Int.reduceEq, Int.reduceToNat, Nat.reduceAdd, Nat.reduceMul, Nat.reduceEqDiff, ↓reduceIte, true_and, and_true, and_self, List.drop_zero, List.take_length, Nat.le_refl, V.lit.injEq, Value.int.injEq, Value.bool.injEq]; try (first | omega | (simp; done) | (simp; omega))) (Nat.zero_le _) ?_
      intro j hj
      by_cases hjl : j < i
      · have hgj : S[j]? = some S[j] := List.getElem?_eq_getElem (by omega)
        have hget := getD_some3 hgj
        have hset := nuS_set k a b hgj
        have st := cSet_fn (n := i) (i := j) (N := nuS k a b S j) (s := S[j]) hgood (hSw _ (List.getElem_mem _)) (by omega) hjl (by rw [nuS_len k a b S (by omega), hSl]) (nuS_lt k a b S j)
        rw [hset] at st
        generalize S[j] = r at *
        simp (maxSteps := 1000000) (disch := (first | omega | (simp only [lnA, List.length_map, List.length_range, true_and, and_true]; (try omega); done) | fail)) only [go_sem, hget, Int.reduceEq, Int.reduceToNat, Nat.reduceAdd, Nat.reduceMul, Nat.reduceEqDiff, ↓reduceIte]
        refine callW [some 0, some 1, some 2] [] (st) ?_
        simp (maxSteps := 1000000) (disch := (first | omega | (simp only [lnA, List.length_map, List.length_range, true_and, and_true]; (try omega); done) | fail)) only [go_sem, Int.reduceEq, Int.reduceToNat, Nat.reduceAdd, Nat.reduceMul, Nat.reduceEqDiff, ↓reduceIte]
        refine nextW (j + 1) [some 0, some 1, some 2] (by omega) (by omega)
      · obtain rfl : i = j := by omega
        simp (maxSteps := 1000000) (disch := (first | omega | (simp only [lnA, List.length_map, List.length_range, true_and, and_true]; (try omega); done) | fail)) only [go_sem, Int.reduceEq, Int.reduceToNat, Nat.reduceAdd, Nat.reduceMul, Nat.reduceEqDiff, ↓reduceIte]
        exact endW [some 0, some 1, some 2] hQ
  · have hie : i = l.length := by omega
    by_cases h0 : l = []
    · subst h0
      obtain rfl : i = 0 := by simpa using hie
      have hSr : (mkS k a b []).map stN = zrow [.int .i64 0, .int .i64 0, .bool false] 1 := rfl
      have hSl : (mkS k a b []).length = 1 := rfl
      have hSw := mkS_well (k := k) (a := a) (b := b) (l := [])
      generalize mkS k a b [] = S at *
      have own := own17_fn (k := k) (a := a) (b := b)
      have cn := cNew_fn (n := 1) hgood (by omega)
      have hz : vcR 1 (wd k a b) 0 = vcR 1 (wd k a b) (packN (wd k a b) (nuS k a b S 0)) := by
        unfold nuS
        rw [List.take_zero]
        show _ = vcR 1 (wd k a b) (packN (wd k a b) (List.replicate _ 0))
        rw [packN_rep]
      rw [hz] at cn
      clear hz
      rw [hSl] at hQ
      simp (maxSteps := 1000000) (disch := (first | omega | (simp only [lnA, List.length_map, List.length_range, true_and, and_true]; (try omega); done) | fail)) only [go_sem, hSl, Int.reduceEq, Int.reduceToNat, Nat.reduceAdd, Nat.reduceMul, Nat.reduceEqDiff, ↓reduceIte]
      rw [← hSr]
      refine callV0 (own) rfl rfl ?_
      simp (maxSteps := 1000000) (disch := (first | omega | (simp only [lnA, List.length_map, List.length_range, true_and, and_true]; (try omega); done) | fail)) only [go_sem, hSl, Int.reduceEq, Int.reduceToNat, Nat.reduceAdd, Nat.reduceMul, Nat.reduceEqDiff, ↓reduceIte]
      refine callW [] [] (cn) ?_
      simp (maxSteps := 1000000) (disch := (first | omega | (simp only [lnA, List.length_map, List.length_range, true_and, and_true]; (try omega); done) | fail)) only [go_sem, Int.reduceEq, Int.reduceToNat, Nat.reduceAdd, Nat.reduceMul, Nat.reduceEqDiff, ↓reduceIte]
      refine LoopV_of (X := Nat) (st := fun j => ([(7, .row 3 (S.map stN)), (9, .ref 0 0 0 0), (52, .row 3 (S.map stN)), (53, .lit (.int .i64 1)), (54, .lit (.int .i64 (j : Int)))],
          [some (caC 1 k a b), some (vcC 2 1 (wd k a b)), some (vcR 1 (wd k a b) (packN (wd k a b) (nuS k a b S j)))]))
        (inv := fun j => j ≤ 1) (m := fun j => 1 - j) 0 [some 3, some 4, some 5] rfl (by simp (disch := (first | omega | (simp only [lnA, List.length_map, List.length_range, true_and, and_true]; (try omega); done) | fail)) only [go_sem, Int.reduceEq, Int.reduceToNat, Nat.reduceAdd, Nat.reduceMul, Nat.reduceEqDiff, ↓reduceIte, true_and, and_true, and_self, List.drop_zero, List.take_length, Nat.le_refl, V.lit.injEq, Value.int.injEq, Value.bool.injEq]; try (first | omega | (simp; done) | (simp; omega))) (by simp (disch := (first | omega | (simp only [lnA, List.length_map, List.length_range, true_and, and_true]; (try omega); done) | fail)) only [go_sem, Int.reduceEq, Int.reduceToNat, Nat.reduceAdd, Nat.reduceMul, Nat.reduceEqDiff, ↓reduceIte, true_and, and_true, and_self, List.drop_zero, List.take_length, Nat.le_refl, V.lit.injEq, Value.int.injEq, Value.bool.injEq]; try (first | omega | (simp; done) | (simp; omega))) (Nat.zero_le _) ?_
      intro j hj
      by_cases hjl : j < 1
      · have hgj : S[j]? = some S[j] := List.getElem?_eq_getElem (by omega)
        have hget := getD_some3 hgj
        have hset := nuS_set k a b hgj
        have st := cSet_fn (n := 1) (i := j) (N := nuS k a b S j) (s := S[j]) hgood (hSw _ (List.getElem_mem _)) (by omega) hjl (by rw [nuS_len k a b S (by omega), hSl]) (nuS_lt k a b S j)
        rw [hset] at st
        generalize S[j] = r at *
        simp (maxSteps := 1000000) (disch := (first | omega | (simp only [lnA, List.length_map, List.length_range, true_and, and_true]; (try omega); done) | fail)) only [go_sem, hget, hSl, Int.reduceEq, Int.reduceToNat, Nat.reduceAdd, Nat.reduceMul, Nat.reduceEqDiff, ↓reduceIte]
        refine callW [some 0, some 1, some 2] [] (st) ?_
        simp (maxSteps := 1000000) (disch := (first | omega | (simp only [lnA, List.length_map, List.length_range, true_and, and_true]; (try omega); done) | fail)) only [go_sem, Int.reduceEq, Int.reduceToNat, Nat.reduceAdd, Nat.reduceMul, Nat.reduceEqDiff, ↓reduceIte]
        refine nextW (j + 1) [some 0, some 1, some 2] (by omega) (by omega)
      · obtain rfl : j = 1 := by omega
        simp (maxSteps := 1000000) (disch := (first | omega | (simp only [lnA, List.length_map, List.length_range, true_and, and_true]; (try omega); done) | fail)) only [go_sem, Int.reduceEq, Int.reduceToNat, Nat.reduceAdd, Nat.reduceMul, Nat.reduceEqDiff, ↓reduceIte]
        exact endW [some 0, some 1, some 2] hQ
    · have hS : mkS k a b l = (l.take i).map (wi k a b) := by
        unfold mkS
        rw [if_neg h0, hie, List.take_length, List.take_of_length_le (by omega)]
      rw [← hS]
      have hSl : (mkS k a b l).length = i := by rw [hS, List.length_map, List.length_take]; omega
      have hi1 : 1 ≤ i := by have := List.length_pos_iff.2 h0; omega
      have hSw := mkS_well (k := k) (a := a) (b := b) (l := l)
      generalize mkS k a b l = S at *
      have own := own17_fn (k := k) (a := a) (b := b)
      have cn := cNew_fn (n := i) hgood (by omega)
      have hz : vcR i (wd k a b) 0 = vcR i (wd k a b) (packN (wd k a b) (nuS k a b S 0)) := by
        unfold nuS
        rw [List.take_zero]
        show _ = vcR i (wd k a b) (packN (wd k a b) (List.replicate _ 0))
        rw [packN_rep]
      rw [hz] at cn
      clear hz
      rw [hSl] at hQ
      simp (maxSteps := 1000000) (disch := (first | omega | (simp only [lnA, List.length_map, List.length_range, true_and, and_true]; (try omega); done) | fail)) only [go_sem, hSl, Int.reduceEq, Int.reduceToNat, Nat.reduceAdd, Nat.reduceMul, Nat.reduceEqDiff, ↓reduceIte]
      refine callV0 (own) rfl rfl ?_
      simp (maxSteps := 1000000) (disch := (first | omega | (simp only [lnA, List.length_map, List.length_range, true_and, and_true]; (try omega); done) | fail)) only [go_sem, hSl, Int.reduceEq, Int.reduceToNat, Nat.reduceAdd, Nat.reduceMul, Nat.reduceEqDiff, ↓reduceIte]
      refine callW [] [] (cn) ?_
      simp (maxSteps := 1000000) (disch := (first | omega | (simp only [lnA, List.length_map, List.length_range, true_and, and_true]; (try omega); done) | fail)) only [go_sem, Int.reduceEq, Int.reduceToNat, Nat.reduceAdd, Nat.reduceMul, Nat.reduceEqDiff, ↓reduceIte]
      refine LoopV_of (X := Nat) (st := fun j => ([(7, .row 3 (S.map stN)), (9, .ref 0 0 0 0), (52, .row 3 (S.map stN)), (53, .lit (.int .i64 (i : Int))), (54, .lit (.int .i64 (j : Int)))],
          [some (caC 1 k a b), some (vcC 2 i (wd k a b)), some (vcR i (wd k a b) (packN (wd k a b) (nuS k a b S j)))]))
        (inv := fun j => j ≤ i) (m := fun j => i - j) 0 [some 2, some 3, some 4] rfl (by simp (disch := (first | omega | (simp only [lnA, List.length_map, List.length_range, true_and, and_true]; (try omega); done) | fail)) only [go_sem, Int.reduceEq, Int.reduceToNat, Nat.reduceAdd, Nat.reduceMul, Nat.reduceEqDiff, ↓reduceIte, true_and, and_true, and_self, List.drop_zero, List.take_length, Nat.le_refl, V.lit.injEq, Value.int.injEq, Value.bool.injEq]; try (first | omega | (simp; done) | (simp; omega))) (by simp (disch := (first | omega | (simp only [lnA, List.length_map, List.length_range, true_and, and_true]; (try omega); done) | fail)) only [go_sem, Int.reduceEq, Int.reduceToNat, Nat.reduceAdd, Nat.reduceMul, Nat.reduceEqDiff, ↓reduceIte, true_and, and_true, and_self, List.drop_zero, List.take_length, Nat.le_refl, V.lit.injEq, Value.int.injEq, Value.bool.injEq]; try (first | omega | (simp; done) | (simp; omega))) (Nat.zero_le _) ?_
      intro j hj
      by_cases hjl : j < i
      · have hgj : S[j]? = some S[j] := List.getElem?_eq_getElem (by omega)
        have hget := getD_some3 hgj
        have hset := nuS_set k a b hgj
        have st := cSet_fn (n := i) (i := j) (N := nuS k a b S j) (s := S[j]) hgood (hSw _ (List.getElem_mem _)) (by omega) hjl (by rw [nuS_len k a b S (by omega), hSl]) (nuS_lt k a b S j)
        rw [hset] at st
        generalize S[j] = r at *
        simp (maxSteps := 1000000) (disch := (first | omega | (simp only [lnA, List.length_map, List.length_range, true_and, and_true]; (try omega); done) | fail)) only [go_sem, hget, Int.reduceEq, Int.reduceToNat, Nat.reduceAdd, Nat.reduceMul, Nat.reduceEqDiff, ↓reduceIte]
        refine callW [some 0, some 1, some 2] [] (st) ?_
        simp (maxSteps := 1000000) (disch := (first | omega | (simp only [lnA, List.length_map, List.length_range, true_and, and_true]; (try omega); done) | fail)) only [go_sem, Int.reduceEq, Int.reduceToNat, Nat.reduceAdd, Nat.reduceMul, Nat.reduceEqDiff, ↓reduceIte]
        refine nextW (j + 1) [some 0, some 1, some 2] (by omega) (by omega)
      · obtain rfl : i = j := by omega
        simp (maxSteps := 1000000) (disch := (first | omega | (simp only [lnA, List.length_map, List.length_range, true_and, and_true]; (try omega); done) | fail)) only [go_sem, Int.reduceEq, Int.reduceToNat, Nat.reduceAdd, Nat.reduceMul, Nat.reduceEqDiff, ↓reduceIte]
        exact endW [some 0, some 1, some 2] hQ
end Go.Proofs.YteookgjmohokiaaGreat
