import Derived.Test.YteookgjmohokiaaGreatHi
/-! Law 25: forms. -/
namespace Go.Proofs.YteookgjmohokiaaGreat
open Go.Eng Go.Vx
set_option linter.unusedSimpArgs false
set_option linter.unusedVariables false
set_option maxRecDepth 100000
theorem awake25_fn : Fn1 Tryz.prog 5 [] [] (.lit (.bool true)) [] := by
  have hg : goodN 2 1 3 := .inr (.inl ⟨rfl, by decide, by decide, by decide⟩)
  have hw : wellN 2 1 3 (5, 0, false) := by unfold wellN; rw [if_neg (by decide)]; exact ⟨rfl, by decide, fun h => by cases h⟩
  have hp : pkb (hdB 1 ++ gms [2, 1, 3] ++ rgB 2 1 3 (5, 0, false)) = [18, 209, 40] := by decide +kernel
  obtain ⟨c0, c1, c2, c3, hc⟩ : ∃ c0 c1 c2 c3, (nl (sealN [18, 209, 40])).map (ie .u8) = [[.lit (.int .u8 18)], [.lit (.int .u8 209)], [.lit (.int .u8 40)], c0, c1, c2, c3] := ⟨_, _, _, _, rfl⟩
  have en := eReg_fn hg hw
  have ck := ckReg_fn hg hw
  rw [hp, hc] at en
  generalize hx : itR 2 1 3 (5, 0, false) = x at en ck
  have hx' : x = .agg [.lit (.int .i64 1), .lit (.int .i64 2), .lit (.int .i64 1), .lit (.int .i64 3), .lit (.int .i64 5), .lit (.int .i64 0), .lit (.bool false), .lit (.pointer none), .lit (.pointer none), .lit (.pointer none), .lit (.pointer none)] := hx.symm
  subst hx'
  clear hx
  refine fn1N_of pl5 (by kernel_rfl) Tryz.call5 Tryz.func5 rfl (by kernel_rfl) rfl [.tmp 0] (by kernel_rfl) fun Q hQ => ?_
  simp (maxSteps := 1000000) (disch := (first | omega | (simp only [lnA, List.length_map, List.length_range, true_and, and_true]; (try omega); done) | fail)) only [go_sem, Int.reduceEq, Int.reduceToNat, Nat.reduceAdd, Nat.reduceMul, Nat.reduceEqDiff, ↓reduceIte]
  refine callV0 (en) rfl rfl ?_
  simp (maxSteps := 1000000) (disch := (first | omega | (simp only [lnA, List.length_map, List.length_range, true_and, and_true]; (try omega); done) | fail)) only [go_sem, Int.reduceEq, Int.reduceToNat, Nat.reduceAdd, Nat.reduceMul, Nat.reduceEqDiff, ↓reduceIte]
  refine callV0 (ck) rfl rfl ?_
  simp (maxSteps := 1000000) (disch := (first | omega | (simp only [lnA, List.length_map, List.length_range, true_and, and_true]; (try omega); done) | fail)) only [go_sem, Int.reduceEq, Int.reduceToNat, Nat.reduceAdd, Nat.reduceMul, Nat.reduceEqDiff, ↓reduceIte]
  exact endW [] hQ
/-- Registers' bits, one behind the other. -/
def rgs (k a b : Nat) (S : List (Nat × Nat × Bool)) : List Bool := S.flatMap (rgB k a b)
theorem rgs_take {k a b : Nat} {S : List (Nat × Nat × Bool)} {i : Nat} {s : Nat × Nat × Bool} (h : S[i]? = some s) : rgs k a b (S.take (i + 1)) = rgs k a b (S.take i) ++ rgB k a b s := by
  unfold rgs
  rw [List.take_add_one, h, List.flatMap_append]
  simp
theorem rgs_len (k a b : Nat) : ∀ S : List (Nat × Nat × Bool), (rgs k a b S).length = S.length * wd k a b
  | [] => by simp [rgs]
  | s :: S => by
    have ih := rgs_len k a b S
    show (rgB k a b s ++ rgs k a b S).length = _
    rw [List.length_append, ih, rgB_len, List.length_cons, Nat.succ_mul]
    show wd k a b + _ = _
    omega
theorem rgs_w (k a b : Nat) (S : List (Nat × Nat × Bool)) : wbits (wd k a b) (nuS k a b S S.length) = rgs k a b S := by
  unfold nuS
  rw [List.take_length, Nat.sub_self, List.replicate_zero, List.append_nil]
  unfold wbits rgs
  rw [List.flatMap_map]
  congr 1
  funext s
  have := numBits_numOf (rgB k a b s)
  rw [rgB_len] at this
  exact this
set_option maxHeartbeats 16000000 in
theorem wireForms_fn {kk aa bb : Int} {l : List (Int × Int × Bool)} (hl : l.length ≤ 9223372036854775807) :
    Fn1 Tryz.prog 3 [.agg [.lit (.int .i64 kk), .lit (.int .i64 aa), .lit (.int .i64 bb)], .row 3 (l.map stI)] [] (.lit (.bool true)) [] := by
  obtain ⟨k, a, b, hsm, sml⟩ := small17_fn (kk := kk) (aa := aa) (bb := bb)
  have hgood := smN_good hsm
  have hb := smN_b hsm
  have aw := awake25_fn
  have s1 := sml (0, 0, false)
  have p1 := refPut_fn (L := []) (n := 1) (m := 4) (by decide) (by decide) (by decide) (by decide)
  have p2 := refPut_fn (L := numBits 1 4) (n := 1) (m := 3) (by rw [numBits_len]; decide) (by decide) (by decide) (by decide)
  have p3 := refPut_fn (L := numBits 1 4) (n := 2) (m := 3) (by rw [numBits_len]; decide) (by decide) (by decide) (by decide)
  rw [List.nil_append] at p1
  change Fn1 _ _ _ _ (.tup [.row 1 ((hdB 1).map be), _]) _ at p2
  change Fn1 _ _ _ _ (.tup [.row 1 ((hdB 2).map be), _]) _ at p3
  refine fn1N_of pl3 (by kernel_rfl) Tryz.call3 Tryz.func3 rfl (by kernel_rfl) rfl [.tmp 4] (by kernel_rfl) fun Q hQ => ?_
  simp (maxSteps := 1000000) (disch := (first | omega | (simp only [lnA, List.length_map, List.length_range, true_and, and_true]; (try omega); done) | fail)) only [go_sem, Int.reduceEq, Int.reduceToNat, Nat.reduceAdd, Nat.reduceMul, Nat.reduceEqDiff, ↓reduceIte]
  refine callV0 (aw) rfl rfl ?_
  simp (maxSteps := 1000000) (disch := (first | omega | (simp only [lnA, List.length_map, List.length_range, true_and, and_true]; (try omega); done) | fail)) only [go_sem, Int.reduceEq, Int.reduceToNat, Nat.reduceAdd, Nat.reduceMul, Nat.reduceEqDiff, ↓reduceIte]
  refine callV0 (s1) rfl rfl ?_
  have hwz : ∀ x, wellN k a b (wi k a b x) := fun x => wi_well
  by_cases h0 : l = []
  · have h0l : l.length = 0 := by rw [h0]; rfl
    have wz := hwz (0, 0, false)
    simp (maxSteps := 1000000) (disch := (first | omega | (simp only [lnA, List.length_map, List.length_range, true_and, and_true]; (try omega); done) | fail)) only [go_sem, Int.reduceEq, Int.reduceToNat, Nat.reduceAdd, Nat.reduceMul, Nat.reduceEqDiff, ↓reduceIte]
    generalize wi k a b (0, 0, false) = z at *
    refine callW [] [] (p1) ?_
    simp (maxSteps := 1000000) (disch := (first | omega | (simp only [lnA, List.length_map, List.length_range, true_and, and_true]; (try omega); done) | fail)) only [go_sem, Int.reduceEq, Int.reduceToNat, Nat.reduceAdd, Nat.reduceMul, Nat.reduceEqDiff, ↓reduceIte]
    refine callV0 (p2) rfl rfl ?_
    simp (maxSteps := 1000000) (disch := (first | omega | (simp only [lnA, List.length_map, List.length_range, true_and, and_true]; (try omega); done) | fail)) only [go_sem, Int.reduceEq, Int.reduceToNat, Nat.reduceAdd, Nat.reduceMul, Nat.reduceEqDiff, ↓reduceIte]
    have hN3 : ([k, a, b] : List Nat).length = 3 := rfl
    have hNe : (nl [k, a, b]).map (ie .i64) = [[.lit (.int .i64 (k : Int))], [.lit (.int .i64 (a : Int))], [.lit (.int .i64 (b : Int))]] := rfl
    have hNm : ∀ x ∈ ([k, a, b] : List Nat), x ≤ 1048576 := by
      intro x hx
      simp only [List.mem_cons, List.not_mem_nil, or_false] at hx
      rcases hsm with h | h | h | h <;> omega
    have er := eReg_fn hgood wz
    generalize [k, a, b] = N at *
    have hnl := nl_len N
    have hgl := gms_len hNm
    have hhl := hdB_len 1
    have hrl := rgB_len k a b z
    have hwl := w_le hgood
    refine LoopV_of (X := Nat) (st := fun i => ([(1, .row 3 (l.map stI)), (5, .ref 0 0 0 0), (6, .ref 1 0 0 0), (7, .row 1 ((numBits 1 4).map be)), (9, .row 1 ((hdB 1 ++ gms (N.take i)).map be)), (58, .row 1 ((nl N).map (ie .i64))), (59, .lit (.int .i64 3)), (60, .lit (.int .i64 (i : Int)))],
        [some (.cells [.lit (.int .i64 (k : Int)), .lit (.int .i64 (a : Int)), .lit (.int .i64 (b : Int))]), some (.cells [.lit (.int .i64 (z.1 : Int)), .lit (.int .i64 (z.2.1 : Int)), .lit (.bool z.2.2)])]))
      (inv := fun i => i ≤ 3) (m := fun i => 3 - i) 0 [some 1, some 2] rfl (by simp (disch := (first | omega | (simp only [lnA, List.length_map, List.length_range, true_and, and_true]; (try omega); done) | fail)) only [go_sem, Int.reduceEq, Int.reduceToNat, Nat.reduceAdd, Nat.reduceMul, Nat.reduceEqDiff, ↓reduceIte, true_and, and_true, and_self, List.drop_zero, List.take_length, Nat.le_refl, V.lit.injEq, Value.int.injEq, Value.bool.injEq]; try (first | omega | (simp; done) | (simp; omega))) (by dsimp only; rw [List.take_zero, show hdB 1 ++ gms [] = hdB 1 from List.append_nil _, hNe]; (simp (disch := (first | omega | (simp only [lnA, List.length_map, List.length_range, true_and, and_true]; (try omega); done) | fail)) only [go_sem, Int.reduceEq, Int.reduceToNat, Nat.reduceAdd, Nat.reduceMul, Nat.reduceEqDiff, ↓reduceIte, true_and, and_true, and_self, List.drop_zero, List.take_length, Nat.le_refl, V.lit.injEq, Value.int.injEq, Value.bool.injEq]; try (first | omega | (simp; done) | (simp; omega)))) (Nat.zero_le _) ?_
    intro i hi
    by_cases hil : i < 3
    · have hg := nl_get N i
      have hx := getD_leN hNm i
      have hgl2 := gms_len (N := N.take i) fun x hx => hNm x (List.mem_of_mem_take hx)
      have hti : (N.take i).length ≤ 3 := by rw [List.length_take]; omega
      have gm := refGamma_fn (L := hdB 1 ++ gms (N.take i)) (n := N.getD i 0 + 1) (by rw [List.length_append]; omega) (by omega) (by omega)
      rw [List.append_assoc, ← gms_take (by omega)] at gm
      generalize N.getD i 0 = x at *
      rw [show ((x + 1 : Nat) : Int) = (x : Int) + 1 by omega] at gm
      simp (maxSteps := 1000000) (disch := (first | omega | (simp only [lnA, List.length_map, List.length_range, true_and, and_true]; (try omega); done) | fail)) only [go_sem, hg, Int.reduceEq, Int.reduceToNat, Nat.reduceAdd, Nat.reduceMul, Nat.reduceEqDiff, ↓reduceIte]
      refine callV0 (gm) rfl rfl ?_
      simp (maxSteps := 1000000) (disch := (first | omega | (simp only [lnA, List.length_map, List.length_range, true_and, and_true]; (try omega); done) | fail)) only [go_sem, Int.reduceEq, Int.reduceToNat, Nat.reduceAdd, Nat.reduceMul, Nat.reduceEqDiff, ↓reduceIte]
      refine nextW (i + 1) [some 0, some 1] (by omega) (by omega)
    · have hie : i = 3 := by omega
      rw [List.take_of_length_le (by omega)]
      have wr := refWrite_fn (L := hdB 1 ++ gms N) hgood wz (by rw [List.length_append]; omega)
      have hbl : (hdB 1 ++ gms N ++ rgB k a b z).length ≤ 200 := by
        rw [List.length_append, List.length_append]
        omega
      have rb := refBytes_fn (L := hdB 1 ++ gms N ++ rgB k a b z) (by omega)
      rw [pk_nl] at rb
      have hpl := pkb_len (hdB 1 ++ gms N ++ rgB k a b z)
      have hlt := pkb_lt (hdB 1 ++ gms N ++ rgB k a b z)
      generalize pkb (hdB 1 ++ gms N ++ rgB k a b z) = B1 at *
      have sl := refSeal_fn (l := B1) hlt (by omega)
      have hsl : (sealN B1).length = B1.length + 4 := by unfold sealN; rw [List.length_append]; rfl
      generalize sealN B1 = B2 at *
      have rs := refSame_fn (A := nl B2) (B := nl B2) (by rw [nl_len]; omega) (by rw [nl_len]; omega)
      rw [decide_eq_true rfl] at rs
      have own := own17_fn (k := k) (a := a) (b := b)
      have st := state17_fn (s := z)
      have mk := make18_fn (l := l) hsm hl
      have hSl := mkS_len (k := k) (a := a) (b := b) (l := l)
      have hSw := mkS_well (k := k) (a := a) (b := b) (l := l)
      generalize mkS k a b l = S at *
      obtain ⟨n, hn⟩ : ∃ n, S.length = n := ⟨_, rfl⟩
      have hwd := wd_ok hgood
      have hk4 : k ≤ 4 := by rcases hsm with h | h | h | h <;> omega
      have ea := eArr_fn (k := k) (a := a) (b := b) (n := n) (w := wd k a b) (M := nuS k a b S S.length) hk4 (by omega) (by omega) (by omega) (by omega) (by rw [nuS_len k a b S (Nat.le_refl _), hn]) (nuS_lt k a b S _)
      rw [rgs_w] at ea
      rw [hn] at mk ea hSl
      have hMe : (nl [k, a, b, n]).map (ie .i64) = [[.lit (.int .i64 (k : Int))], [.lit (.int .i64 (a : Int))], [.lit (.int .i64 (b : Int))], [.lit (.int .i64 (n : Int))]] := rfl
      have hM4 : ([k, a, b, n] : List Nat).length = 4 := rfl
      have hMm : ∀ x ∈ ([k, a, b, n] : List Nat), x ≤ 1048576 := by
        intro x hx
        simp only [List.mem_cons, List.not_mem_nil, or_false] at hx
        omega
      generalize [k, a, b, n] = M at *
      generalize packN (wd k a b) (nuS k a b S n) = X at *
      have hml := nl_len M
      have hmg := gms_len hMm
      have hh2 := hdB_len 2
      simp (maxSteps := 1000000) (disch := (first | omega | (simp only [lnA, List.length_map, List.length_range, true_and, and_true]; (try omega); done) | fail)) only [go_sem, Int.reduceEq, Int.reduceToNat, Nat.reduceAdd, Nat.reduceMul, Nat.reduceEqDiff, ↓reduceIte]
      refine callV0 (wr) rfl rfl ?_
      simp (maxSteps := 1000000) (disch := (first | omega | (simp only [lnA, List.length_map, List.length_range, true_and, and_true]; (try omega); done) | fail)) only [go_sem, Int.reduceEq, Int.reduceToNat, Nat.reduceAdd, Nat.reduceMul, Nat.reduceEqDiff, ↓reduceIte]
      refine callV0 (rb) rfl rfl ?_
      simp (maxSteps := 1000000) (disch := (first | omega | (simp only [lnA, List.length_map, List.length_range, true_and, and_true]; (try omega); done) | fail)) only [go_sem, Int.reduceEq, Int.reduceToNat, Nat.reduceAdd, Nat.reduceMul, Nat.reduceEqDiff, ↓reduceIte]
      refine callV0 (sl) rfl rfl ?_
      simp (maxSteps := 1000000) (disch := (first | omega | (simp only [lnA, List.length_map, List.length_range, true_and, and_true]; (try omega); done) | fail)) only [go_sem, Int.reduceEq, Int.reduceToNat, Nat.reduceAdd, Nat.reduceMul, Nat.reduceEqDiff, ↓reduceIte]
      refine callV0 (own) rfl rfl ?_
      simp (maxSteps := 1000000) (disch := (first | omega | (simp only [lnA, List.length_map, List.length_range, true_and, and_true]; (try omega); done) | fail)) only [go_sem, Int.reduceEq, Int.reduceToNat, Nat.reduceAdd, Nat.reduceMul, Nat.reduceEqDiff, ↓reduceIte]
      refine callV0 (st) rfl rfl ?_
      simp (maxSteps := 1000000) (disch := (first | omega | (simp only [lnA, List.length_map, List.length_range, true_and, and_true]; (try omega); done) | fail)) only [go_sem, Int.reduceEq, Int.reduceToNat, Nat.reduceAdd, Nat.reduceMul, Nat.reduceEqDiff, ↓reduceIte]
      refine callV0 (er) rfl rfl ?_
      simp (maxSteps := 1000000) (disch := (first | omega | (simp only [lnA, List.length_map, List.length_range, true_and, and_true]; (try omega); done) | fail)) only [go_sem, Int.reduceEq, Int.reduceToNat, Nat.reduceAdd, Nat.reduceMul, Nat.reduceEqDiff, ↓reduceIte]
      refine callV0 (rs) rfl rfl ?_
      simp (maxSteps := 1000000) (disch := (first | omega | (simp only [lnA, List.length_map, List.length_range, true_and, and_true]; (try omega); done) | fail)) only [go_sem, Int.reduceEq, Int.reduceToNat, Nat.reduceAdd, Nat.reduceMul, Nat.reduceEqDiff, ↓reduceIte]
      refine callW [] [] (mk) ?_
      simp (maxSteps := 1000000) (disch := (first | omega | (simp only [lnA, List.length_map, List.length_range, true_and, and_true]; (try omega); done) | fail)) only [go_sem, Int.reduceEq, Int.reduceToNat, Nat.reduceAdd, Nat.reduceMul, Nat.reduceEqDiff, ↓reduceIte]
      refine callV0 (p3) rfl rfl ?_
      simp (maxSteps := 1000000) (disch := (first | omega | (simp only [lnA, List.length_map, List.length_range, true_and, and_true]; (try omega); done) | fail)) only [go_sem, Int.reduceEq, Int.reduceToNat, Nat.reduceAdd, Nat.reduceMul, Nat.reduceEqDiff, ↓reduceIte]
      refine LoopV_of (X := Nat) (st := fun j => ([(5, .ref 0 0 0 0), (9, .row 1 ((hdB 2 ++ gms (M.take j)).map be)), (16, .ref 1 0 0 0), (17, .row 3 (S.map stN)), (115, .row 1 ((nl M).map (ie .i64))), (116, .lit (.int .i64 4)), (117, .lit (.int .i64 (j : Int)))],
          [some (.cells [.lit (.int .i64 (k : Int)), .lit (.int .i64 (a : Int)), .lit (.int .i64 (b : Int))]), some (caC 2 k a b), some (vcC 3 n (wd k a b)), some (vcR n (wd k a b) X)]))
        (inv := fun j => j ≤ 4) (m := fun j => 4 - j) 0 [some 0, some 2, some 3, some 4] rfl (by simp (disch := (first | omega | (simp only [lnA, List.length_map, List.length_range, true_and, and_true]; (try omega); done) | fail)) only [go_sem, Int.reduceEq, Int.reduceToNat, Nat.reduceAdd, Nat.reduceMul, Nat.reduceEqDiff, ↓reduceIte, true_and, and_true, and_self, List.drop_zero, List.take_length, Nat.le_refl, V.lit.injEq, Value.int.injEq, Value.bool.injEq]; try (first | omega | (simp; done) | (simp; omega))) (by dsimp only; rw [List.take_zero, show hdB 2 ++ gms [] = hdB 2 from List.append_nil _, hMe]; (simp (disch := (first | omega | (simp only [lnA, List.length_map, List.length_range, true_and, and_true]; (try omega); done) | fail)) only [go_sem, Int.reduceEq, Int.reduceToNat, Nat.reduceAdd, Nat.reduceMul, Nat.reduceEqDiff, ↓reduceIte, true_and, and_true, and_self, List.drop_zero, List.take_length, Nat.le_refl, V.lit.injEq, Value.int.injEq, Value.bool.injEq]; try (first | omega | (simp; done) | (simp; omega)))) (Nat.zero_le _) ?_
      intro j hj
      by_cases hjl : j < 4
      · have hg := nl_get M j
        have hx := getD_leN hMm j
        have hgl2 := gms_len (N := M.take j) fun x hx => hMm x (List.mem_of_mem_take hx)
        have hti : (M.take j).length ≤ 4 := by rw [List.length_take]; omega
        have gm := refGamma_fn (L := hdB 2 ++ gms (M.take j)) (n := M.getD j 0 + 1) (by rw [List.length_append]; omega) (by omega) (by omega)
        rw [List.append_assoc, ← gms_take (by omega)] at gm
        generalize M.getD j 0 = x at *
        rw [show ((x + 1 : Nat) : Int) = (x : Int) + 1 by omega] at gm
        simp (maxSteps := 1000000) (disch := (first | omega | (simp only [lnA, List.length_map, List.length_range, true_and, and_true]; (try omega); done) | fail)) only [go_sem, hg, Int.reduceEq, Int.reduceToNat, Nat.reduceAdd, Nat.reduceMul, Nat.reduceEqDiff, ↓reduceIte]
        refine callV0 (gm) rfl rfl ?_
        simp (maxSteps := 1000000) (disch := (first | omega | (simp only [lnA, List.length_map, List.length_range, true_and, and_true]; (try omega); done) | fail)) only [go_sem, Int.reduceEq, Int.reduceToNat, Nat.reduceAdd, Nat.reduceMul, Nat.reduceEqDiff, ↓reduceIte]
        refine nextW (j + 1) [some 0, some 1, some 2, some 3] (by omega) (by omega)
      · have hje : j = 4 := by omega
        rw [List.take_of_length_le (by omega)]
        simp (maxSteps := 1000000) (disch := (first | omega | (simp only [lnA, List.length_map, List.length_range, true_and, and_true]; (try omega); done) | fail)) only [go_sem, Int.reduceEq, Int.reduceToNat, Nat.reduceAdd, Nat.reduceMul, Nat.reduceEqDiff, ↓reduceIte]
        refine LoopV_of (X := Nat) (st := fun i => ([(5, .ref 0 0 0 0), (9, .row 1 ((hdB 2 ++ gms M ++ rgs k a b (S.take i)).map be)), (16, .ref 1 0 0 0), (127, .row 3 (S.map stN)), (128, .lit (.int .i64 (n : Int))), (129, .lit (.int .i64 (i : Int)))],
            [some (.cells [.lit (.int .i64 (k : Int)), .lit (.int .i64 (a : Int)), .lit (.int .i64 (b : Int))]), some (caC 2 k a b), some (vcC 3 n (wd k a b)), some (vcR n (wd k a b) X)]))
          (inv := fun i => i ≤ n) (m := fun i => n - i) 0 [some 0, some 1, some 2, some 3] rfl (by simp (disch := (first | omega | (simp only [lnA, List.length_map, List.length_range, true_and, and_true]; (try omega); done) | fail)) only [go_sem, Int.reduceEq, Int.reduceToNat, Nat.reduceAdd, Nat.reduceMul, Nat.reduceEqDiff, ↓reduceIte, true_and, and_true, and_self, List.drop_zero, List.take_length, Nat.le_refl, V.lit.injEq, Value.int.injEq, Value.bool.injEq]; try (first | omega | (simp; done) | (simp; omega))) (by dsimp only; rw [List.take_zero, show hdB 2 ++ gms M ++ rgs k a b [] = hdB 2 ++ gms M from List.append_nil _, hn]; (simp (disch := (first | omega | (simp only [lnA, List.length_map, List.length_range, true_and, and_true]; (try omega); done) | fail)) only [go_sem, Int.reduceEq, Int.reduceToNat, Nat.reduceAdd, Nat.reduceMul, Nat.reduceEqDiff, ↓reduceIte, true_and, and_true, and_self, List.drop_zero, List.take_length, Nat.le_refl, V.lit.injEq, Value.int.injEq, Value.bool.injEq]; try (first | omega | (simp; done) | (simp; omega)))) (Nat.zero_le _) ?_
        intro i hi3
        have hrg := rgs_len k a b (S.take i)
        have hrm : (S.take i).length * wd k a b ≤ 8 * 16 := Nat.mul_le_mul (by rw [List.length_take]; omega) hwd.2
        by_cases hil3 : i < n
        · have hgi : S[i]? = some S[i] := List.getElem?_eq_getElem (by omega)
          have hget := getD_some3 hgi
          have htk := rgs_take (k := k) (a := a) (b := b) hgi
          have wr := refWrite_fn (L := hdB 2 ++ gms M ++ rgs k a b (S.take i)) hgood (hSw _ (List.getElem_mem (by omega : i < S.length))) (by rw [List.length_append, List.length_append]; omega)
          rw [List.append_assoc _ (rgs k a b (S.take i)), ← htk] at wr
          generalize S[i] = r at *
          simp (maxSteps := 1000000) (disch := (first | omega | (simp only [lnA, List.length_map, List.length_range, true_and, and_true]; (try omega); done) | fail)) only [go_sem, hget, Int.reduceEq, Int.reduceToNat, Nat.reduceAdd, Nat.reduceMul, Nat.reduceEqDiff, ↓reduceIte]
          refine callV0 (wr) rfl rfl ?_
          simp (maxSteps := 1000000) (disch := (first | omega | (simp only [lnA, List.length_map, List.length_range, true_and, and_true]; (try omega); done) | fail)) only [go_sem, Int.reduceEq, Int.reduceToNat, Nat.reduceAdd, Nat.reduceMul, Nat.reduceEqDiff, ↓reduceIte]
          refine nextW (i + 1) [some 0, some 1, some 2, some 3] (by omega) (by omega)
        · have hie3 : i = n := by omega
          rw [List.take_of_length_le (by omega)] at hrg hrm ⊢
          have hbl2 : (hdB 2 ++ gms M ++ rgs k a b S).length ≤ 400 := by
            rw [List.length_append, List.length_append]
            omega
          have rb := refBytes_fn (L := hdB 2 ++ gms M ++ rgs k a b S) (by omega)
          rw [pk_nl] at rb
          have hpl := pkb_len (hdB 2 ++ gms M ++ rgs k a b S)
          have hlt := pkb_lt (hdB 2 ++ gms M ++ rgs k a b S)
          generalize pkb (hdB 2 ++ gms M ++ rgs k a b S) = C1 at *
          have sl := refSeal_fn (l := C1) hlt (by omega)
          have hsl : (sealN C1).length = C1.length + 4 := by unfold sealN; rw [List.length_append]; rfl
          generalize sealN C1 = C2 at *
          have rs := refSame_fn (A := nl C2) (B := nl C2) (by rw [nl_len]; omega) (by rw [nl_len]; omega)
          rw [decide_eq_true rfl] at rs
          simp (maxSteps := 1000000) (disch := (first | omega | (simp only [lnA, List.length_map, List.length_range, true_and, and_true]; (try omega); done) | fail)) only [go_sem, Int.reduceEq, Int.reduceToNat, Nat.reduceAdd, Nat.reduceMul, Nat.reduceEqDiff, ↓reduceIte]
          refine callW [some 1, some 2, some 3] [] (ea) ?_
          simp (maxSteps := 1000000) (disch := (first | omega | (simp only [lnA, List.length_map, List.length_range, true_and, and_true]; (try omega); done) | fail)) only [go_sem, Int.reduceEq, Int.reduceToNat, Nat.reduceAdd, Nat.reduceMul, Nat.reduceEqDiff, ↓reduceIte]
          refine callV0 (rb) rfl rfl ?_
          simp (maxSteps := 1000000) (disch := (first | omega | (simp only [lnA, List.length_map, List.length_range, true_and, and_true]; (try omega); done) | fail)) only [go_sem, Int.reduceEq, Int.reduceToNat, Nat.reduceAdd, Nat.reduceMul, Nat.reduceEqDiff, ↓reduceIte]
          refine callV0 (sl) rfl rfl ?_
          simp (maxSteps := 1000000) (disch := (first | omega | (simp only [lnA, List.length_map, List.length_range, true_and, and_true]; (try omega); done) | fail)) only [go_sem, Int.reduceEq, Int.reduceToNat, Nat.reduceAdd, Nat.reduceMul, Nat.reduceEqDiff, ↓reduceIte]
          refine callV0 (rs) rfl rfl ?_
          simp (maxSteps := 1000000) (disch := (first | omega | (simp only [lnA, List.length_map, List.length_range, true_and, and_true]; (try omega); done) | fail)) only [go_sem, Int.reduceEq, Int.reduceToNat, Nat.reduceAdd, Nat.reduceMul, Nat.reduceEqDiff, ↓reduceIte]
          exact endW [] hQ
  · have h0l : 0 < l.length := List.length_pos_iff.2 h0
    have hget := getD_some3 (List.getElem?_eq_getElem h0l)
    have s2 := sml l[0]
    have wz := hwz l[0]
    simp (maxSteps := 1000000) (disch := (first | omega | (simp only [lnA, List.length_map, List.length_range, true_and, and_true]; (try omega); done) | fail)) only [go_sem, hget, Int.reduceEq, Int.reduceToNat, Nat.reduceAdd, Nat.reduceMul, Nat.reduceEqDiff, ↓reduceIte]
    refine callV0 (s2) rfl rfl ?_
    simp (maxSteps := 1000000) (disch := (first | omega | (simp only [lnA, List.length_map, List.length_range, true_and, and_true]; (try omega); done) | fail)) only [go_sem, hget, Int.reduceEq, Int.reduceToNat, Nat.reduceAdd, Nat.reduceMul, Nat.reduceEqDiff, ↓reduceIte]
    generalize wi k a b l[0] = z at *
    refine callW [] [] (p1) ?_
    simp (maxSteps := 1000000) (disch := (first | omega | (simp only [lnA, List.length_map, List.length_range, true_and, and_true]; (try omega); done) | fail)) only [go_sem, Int.reduceEq, Int.reduceToNat, Nat.reduceAdd, Nat.reduceMul, Nat.reduceEqDiff, ↓reduceIte]
    refine callV0 (p2) rfl rfl ?_
    simp (maxSteps := 1000000) (disch := (first | omega | (simp only [lnA, List.length_map, List.length_range, true_and, and_true]; (try omega); done) | fail)) only [go_sem, Int.reduceEq, Int.reduceToNat, Nat.reduceAdd, Nat.reduceMul, Nat.reduceEqDiff, ↓reduceIte]
    have hN3 : ([k, a, b] : List Nat).length = 3 := rfl
    have hNe : (nl [k, a, b]).map (ie .i64) = [[.lit (.int .i64 (k : Int))], [.lit (.int .i64 (a : Int))], [.lit (.int .i64 (b : Int))]] := rfl
    have hNm : ∀ x ∈ ([k, a, b] : List Nat), x ≤ 1048576 := by
      intro x hx
      simp only [List.mem_cons, List.not_mem_nil, or_false] at hx
      rcases hsm with h | h | h | h <;> omega
    have er := eReg_fn hgood wz
    generalize [k, a, b] = N at *
    have hnl := nl_len N
    have hgl := gms_len hNm
    have hhl := hdB_len 1
    have hrl := rgB_len k a b z
    have hwl := w_le hgood
    refine LoopV_of (X := Nat) (st := fun i => ([(1, .row 3 (l.map stI)), (5, .ref 0 0 0 0), (6, .ref 1 0 0 0), (7, .row 1 ((numBits 1 4).map be)), (9, .row 1 ((hdB 1 ++ gms (N.take i)).map be)), (58, .row 1 ((nl N).map (ie .i64))), (59, .lit (.int .i64 3)), (60, .lit (.int .i64 (i : Int)))],
        [some (.cells [.lit (.int .i64 (k : Int)), .lit (.int .i64 (a : Int)), .lit (.int .i64 (b : Int))]), some (.cells [.lit (.int .i64 (z.1 : Int)), .lit (.int .i64 (z.2.1 : Int)), .lit (.bool z.2.2)])]))
      (inv := fun i => i ≤ 3) (m := fun i => 3 - i) 0 [some 1, some 2] rfl (by simp (disch := (first | omega | (simp only [lnA, List.length_map, List.length_range, true_and, and_true]; (try omega); done) | fail)) only [go_sem, Int.reduceEq, Int.reduceToNat, Nat.reduceAdd, Nat.reduceMul, Nat.reduceEqDiff, ↓reduceIte, true_and, and_true, and_self, List.drop_zero, List.take_length, Nat.le_refl, V.lit.injEq, Value.int.injEq, Value.bool.injEq]; try (first | omega | (simp; done) | (simp; omega))) (by dsimp only; rw [List.take_zero, show hdB 1 ++ gms [] = hdB 1 from List.append_nil _, hNe]; (simp (disch := (first | omega | (simp only [lnA, List.length_map, List.length_range, true_and, and_true]; (try omega); done) | fail)) only [go_sem, Int.reduceEq, Int.reduceToNat, Nat.reduceAdd, Nat.reduceMul, Nat.reduceEqDiff, ↓reduceIte, true_and, and_true, and_self, List.drop_zero, List.take_length, Nat.le_refl, V.lit.injEq, Value.int.injEq, Value.bool.injEq]; try (first | omega | (simp; done) | (simp; omega)))) (Nat.zero_le _) ?_
    intro i hi
    by_cases hil : i < 3
    · have hg := nl_get N i
      have hx := getD_leN hNm i
      have hgl2 := gms_len (N := N.take i) fun x hx => hNm x (List.mem_of_mem_take hx)
      have hti : (N.take i).length ≤ 3 := by rw [List.length_take]; omega
      have gm := refGamma_fn (L := hdB 1 ++ gms (N.take i)) (n := N.getD i 0 + 1) (by rw [List.length_append]; omega) (by omega) (by omega)
      rw [List.append_assoc, ← gms_take (by omega)] at gm
      generalize N.getD i 0 = x at *
      rw [show ((x + 1 : Nat) : Int) = (x : Int) + 1 by omega] at gm
      simp (maxSteps := 1000000) (disch := (first | omega | (simp only [lnA, List.length_map, List.length_range, true_and, and_true]; (try omega); done) | fail)) only [go_sem, hg, Int.reduceEq, Int.reduceToNat, Nat.reduceAdd, Nat.reduceMul, Nat.reduceEqDiff, ↓reduceIte]
      refine callV0 (gm) rfl rfl ?_
      simp (maxSteps := 1000000) (disch := (first | omega | (simp only [lnA, List.length_map, List.length_range, true_and, and_true]; (try omega); done) | fail)) only [go_sem, Int.reduceEq, Int.reduceToNat, Nat.reduceAdd, Nat.reduceMul, Nat.reduceEqDiff, ↓reduceIte]
      refine nextW (i + 1) [some 0, some 1] (by omega) (by omega)
    · have hie : i = 3 := by omega
      rw [List.take_of_length_le (by omega)]
      have wr := refWrite_fn (L := hdB 1 ++ gms N) hgood wz (by rw [List.length_append]; omega)
      have hbl : (hdB 1 ++ gms N ++ rgB k a b z).length ≤ 200 := by
        rw [List.length_append, List.length_append]
        omega
      have rb := refBytes_fn (L := hdB 1 ++ gms N ++ rgB k a b z) (by omega)
      rw [pk_nl] at rb
      have hpl := pkb_len (hdB 1 ++ gms N ++ rgB k a b z)
      have hlt := pkb_lt (hdB 1 ++ gms N ++ rgB k a b z)
      generalize pkb (hdB 1 ++ gms N ++ rgB k a b z) = B1 at *
      have sl := refSeal_fn (l := B1) hlt (by omega)
      have hsl : (sealN B1).length = B1.length + 4 := by unfold sealN; rw [List.length_append]; rfl
      generalize sealN B1 = B2 at *
      have rs := refSame_fn (A := nl B2) (B := nl B2) (by rw [nl_len]; omega) (by rw [nl_len]; omega)
      rw [decide_eq_true rfl] at rs
      have own := own17_fn (k := k) (a := a) (b := b)
      have st := state17_fn (s := z)
      have mk := make18_fn (l := l) hsm hl
      have hSl := mkS_len (k := k) (a := a) (b := b) (l := l)
      have hSw := mkS_well (k := k) (a := a) (b := b) (l := l)
      generalize mkS k a b l = S at *
      obtain ⟨n, hn⟩ : ∃ n, S.length = n := ⟨_, rfl⟩
      have hwd := wd_ok hgood
      have hk4 : k ≤ 4 := by rcases hsm with h | h | h | h <;> omega
      have ea := eArr_fn (k := k) (a := a) (b := b) (n := n) (w := wd k a b) (M := nuS k a b S S.length) hk4 (by omega) (by omega) (by omega) (by omega) (by rw [nuS_len k a b S (Nat.le_refl _), hn]) (nuS_lt k a b S _)
      rw [rgs_w] at ea
      rw [hn] at mk ea hSl
      have hMe : (nl [k, a, b, n]).map (ie .i64) = [[.lit (.int .i64 (k : Int))], [.lit (.int .i64 (a : Int))], [.lit (.int .i64 (b : Int))], [.lit (.int .i64 (n : Int))]] := rfl
      have hM4 : ([k, a, b, n] : List Nat).length = 4 := rfl
      have hMm : ∀ x ∈ ([k, a, b, n] : List Nat), x ≤ 1048576 := by
        intro x hx
        simp only [List.mem_cons, List.not_mem_nil, or_false] at hx
        omega
      generalize [k, a, b, n] = M at *
      generalize packN (wd k a b) (nuS k a b S n) = X at *
      have hml := nl_len M
      have hmg := gms_len hMm
      have hh2 := hdB_len 2
      simp (maxSteps := 1000000) (disch := (first | omega | (simp only [lnA, List.length_map, List.length_range, true_and, and_true]; (try omega); done) | fail)) only [go_sem, Int.reduceEq, Int.reduceToNat, Nat.reduceAdd, Nat.reduceMul, Nat.reduceEqDiff, ↓reduceIte]
      refine callV0 (wr) rfl rfl ?_
      simp (maxSteps := 1000000) (disch := (first | omega | (simp only [lnA, List.length_map, List.length_range, true_and, and_true]; (try omega); done) | fail)) only [go_sem, Int.reduceEq, Int.reduceToNat, Nat.reduceAdd, Nat.reduceMul, Nat.reduceEqDiff, ↓reduceIte]
      refine callV0 (rb) rfl rfl ?_
      simp (maxSteps := 1000000) (disch := (first | omega | (simp only [lnA, List.length_map, List.length_range, true_and, and_true]; (try omega); done) | fail)) only [go_sem, Int.reduceEq, Int.reduceToNat, Nat.reduceAdd, Nat.reduceMul, Nat.reduceEqDiff, ↓reduceIte]
      refine callV0 (sl) rfl rfl ?_
      simp (maxSteps := 1000000) (disch := (first | omega | (simp only [lnA, List.length_map, List.length_range, true_and, and_true]; (try omega); done) | fail)) only [go_sem, Int.reduceEq, Int.reduceToNat, Nat.reduceAdd, Nat.reduceMul, Nat.reduceEqDiff, ↓reduceIte]
      refine callV0 (own) rfl rfl ?_
      simp (maxSteps := 1000000) (disch := (first | omega | (simp only [lnA, List.length_map, List.length_range, true_and, and_true]; (try omega); done) | fail)) only [go_sem, Int.reduceEq, Int.reduceToNat, Nat.reduceAdd, Nat.reduceMul, Nat.reduceEqDiff, ↓reduceIte]
      refine callV0 (st) rfl rfl ?_
      simp (maxSteps := 1000000) (disch := (first | omega | (simp only [lnA, List.length_map, List.length_range, true_and, and_true]; (try omega); done) | fail)) only [go_sem, Int.reduceEq, Int.reduceToNat, Nat.reduceAdd, Nat.reduceMul, Nat.reduceEqDiff, ↓reduceIte]
      refine callV0 (er) rfl rfl ?_
      simp (maxSteps := 1000000) (disch := (first | omega | (simp only [lnA, List.length_map, List.length_range, true_and, and_true]; (try omega); done) | fail)) only [go_sem, Int.reduceEq, Int.reduceToNat, Nat.reduceAdd, Nat.reduceMul, Nat.reduceEqDiff, ↓reduceIte]
      refine callV0 (rs) rfl rfl ?_
      simp (maxSteps := 1000000) (disch := (first | omega | (simp only [lnA, List.length_map, List.length_range, true_and, and_true]; (try omega); done) | fail)) only [go_sem, Int.reduceEq, Int.reduceToNat, Nat.reduceAdd, Nat.reduceMul, Nat.reduceEqDiff, ↓reduceIte]
      refine callW [] [] (mk) ?_
      simp (maxSteps := 1000000) (disch := (first | omega | (simp only [lnA, List.length_map, List.length_range, true_and, and_true]; (try omega); done) | fail)) only [go_sem, Int.reduceEq, Int.reduceToNat, Nat.reduceAdd, Nat.reduceMul, Nat.reduceEqDiff, ↓reduceIte]
      refine callV0 (p3) rfl rfl ?_
      simp (maxSteps := 1000000) (disch := (first | omega | (simp only [lnA, List.length_map, List.length_range, true_and, and_true]; (try omega); done) | fail)) only [go_sem, Int.reduceEq, Int.reduceToNat, Nat.reduceAdd, Nat.reduceMul, Nat.reduceEqDiff, ↓reduceIte]
      refine LoopV_of (X := Nat) (st := fun j => ([(5, .ref 0 0 0 0), (9, .row 1 ((hdB 2 ++ gms (M.take j)).map be)), (16, .ref 1 0 0 0), (17, .row 3 (S.map stN)), (115, .row 1 ((nl M).map (ie .i64))), (116, .lit (.int .i64 4)), (117, .lit (.int .i64 (j : Int)))],
          [some (.cells [.lit (.int .i64 (k : Int)), .lit (.int .i64 (a : Int)), .lit (.int .i64 (b : Int))]), some (caC 2 k a b), some (vcC 3 n (wd k a b)), some (vcR n (wd k a b) X)]))
        (inv := fun j => j ≤ 4) (m := fun j => 4 - j) 0 [some 0, some 2, some 3, some 4] rfl (by simp (disch := (first | omega | (simp only [lnA, List.length_map, List.length_range, true_and, and_true]; (try omega); done) | fail)) only [go_sem, Int.reduceEq, Int.reduceToNat, Nat.reduceAdd, Nat.reduceMul, Nat.reduceEqDiff, ↓reduceIte, true_and, and_true, and_self, List.drop_zero, List.take_length, Nat.le_refl, V.lit.injEq, Value.int.injEq, Value.bool.injEq]; try (first | omega | (simp; done) | (simp; omega))) (by dsimp only; rw [List.take_zero, show hdB 2 ++ gms [] = hdB 2 from List.append_nil _, hMe]; (simp (disch := (first | omega | (simp only [lnA, List.length_map, List.length_range, true_and, and_true]; (try omega); done) | fail)) only [go_sem, Int.reduceEq, Int.reduceToNat, Nat.reduceAdd, Nat.reduceMul, Nat.reduceEqDiff, ↓reduceIte, true_and, and_true, and_self, List.drop_zero, List.take_length, Nat.le_refl, V.lit.injEq, Value.int.injEq, Value.bool.injEq]; try (first | omega | (simp; done) | (simp; omega)))) (Nat.zero_le _) ?_
      intro j hj
      by_cases hjl : j < 4
      · have hg := nl_get M j
        have hx := getD_leN hMm j
        have hgl2 := gms_len (N := M.take j) fun x hx => hMm x (List.mem_of_mem_take hx)
        have hti : (M.take j).length ≤ 4 := by rw [List.length_take]; omega
        have gm := refGamma_fn (L := hdB 2 ++ gms (M.take j)) (n := M.getD j 0 + 1) (by rw [List.length_append]; omega) (by omega) (by omega)
        rw [List.append_assoc, ← gms_take (by omega)] at gm
        generalize M.getD j 0 = x at *
        rw [show ((x + 1 : Nat) : Int) = (x : Int) + 1 by omega] at gm
        simp (maxSteps := 1000000) (disch := (first | omega | (simp only [lnA, List.length_map, List.length_range, true_and, and_true]; (try omega); done) | fail)) only [go_sem, hg, Int.reduceEq, Int.reduceToNat, Nat.reduceAdd, Nat.reduceMul, Nat.reduceEqDiff, ↓reduceIte]
        refine callV0 (gm) rfl rfl ?_
        simp (maxSteps := 1000000) (disch := (first | omega | (simp only [lnA, List.length_map, List.length_range, true_and, and_true]; (try omega); done) | fail)) only [go_sem, Int.reduceEq, Int.reduceToNat, Nat.reduceAdd, Nat.reduceMul, Nat.reduceEqDiff, ↓reduceIte]
        refine nextW (j + 1) [some 0, some 1, some 2, some 3] (by omega) (by omega)
      · have hje : j = 4 := by omega
        rw [List.take_of_length_le (by omega)]
        simp (maxSteps := 1000000) (disch := (first | omega | (simp only [lnA, List.length_map, List.length_range, true_and, and_true]; (try omega); done) | fail)) only [go_sem, Int.reduceEq, Int.reduceToNat, Nat.reduceAdd, Nat.reduceMul, Nat.reduceEqDiff, ↓reduceIte]
        refine LoopV_of (X := Nat) (st := fun i => ([(5, .ref 0 0 0 0), (9, .row 1 ((hdB 2 ++ gms M ++ rgs k a b (S.take i)).map be)), (16, .ref 1 0 0 0), (127, .row 3 (S.map stN)), (128, .lit (.int .i64 (n : Int))), (129, .lit (.int .i64 (i : Int)))],
            [some (.cells [.lit (.int .i64 (k : Int)), .lit (.int .i64 (a : Int)), .lit (.int .i64 (b : Int))]), some (caC 2 k a b), some (vcC 3 n (wd k a b)), some (vcR n (wd k a b) X)]))
          (inv := fun i => i ≤ n) (m := fun i => n - i) 0 [some 0, some 1, some 2, some 3] rfl (by simp (disch := (first | omega | (simp only [lnA, List.length_map, List.length_range, true_and, and_true]; (try omega); done) | fail)) only [go_sem, Int.reduceEq, Int.reduceToNat, Nat.reduceAdd, Nat.reduceMul, Nat.reduceEqDiff, ↓reduceIte, true_and, and_true, and_self, List.drop_zero, List.take_length, Nat.le_refl, V.lit.injEq, Value.int.injEq, Value.bool.injEq]; try (first | omega | (simp; done) | (simp; omega))) (by dsimp only; rw [List.take_zero, show hdB 2 ++ gms M ++ rgs k a b [] = hdB 2 ++ gms M from List.append_nil _, hn]; (simp (disch := (first | omega | (simp only [lnA, List.length_map, List.length_range, true_and, and_true]; (try omega); done) | fail)) only [go_sem, Int.reduceEq, Int.reduceToNat, Nat.reduceAdd, Nat.reduceMul, Nat.reduceEqDiff, ↓reduceIte, true_and, and_true, and_self, List.drop_zero, List.take_length, Nat.le_refl, V.lit.injEq, Value.int.injEq, Value.bool.injEq]; try (first | omega | (simp; done) | (simp; omega)))) (Nat.zero_le _) ?_
        intro i hi3
        have hrg := rgs_len k a b (S.take i)
        have hrm : (S.take i).length * wd k a b ≤ 8 * 16 := Nat.mul_le_mul (by rw [List.length_take]; omega) hwd.2
        by_cases hil3 : i < n
        · have hgi : S[i]? = some S[i] := List.getElem?_eq_getElem (by omega)
          have hget := getD_some3 hgi
          have htk := rgs_take (k := k) (a := a) (b := b) hgi
          have wr := refWrite_fn (L := hdB 2 ++ gms M ++ rgs k a b (S.take i)) hgood (hSw _ (List.getElem_mem (by omega : i < S.length))) (by rw [List.length_append, List.length_append]; omega)
          rw [List.append_assoc _ (rgs k a b (S.take i)), ← htk] at wr
          generalize S[i] = r at *
          simp (maxSteps := 1000000) (disch := (first | omega | (simp only [lnA, List.length_map, List.length_range, true_and, and_true]; (try omega); done) | fail)) only [go_sem, hget, Int.reduceEq, Int.reduceToNat, Nat.reduceAdd, Nat.reduceMul, Nat.reduceEqDiff, ↓reduceIte]
          refine callV0 (wr) rfl rfl ?_
          simp (maxSteps := 1000000) (disch := (first | omega | (simp only [lnA, List.length_map, List.length_range, true_and, and_true]; (try omega); done) | fail)) only [go_sem, Int.reduceEq, Int.reduceToNat, Nat.reduceAdd, Nat.reduceMul, Nat.reduceEqDiff, ↓reduceIte]
          refine nextW (i + 1) [some 0, some 1, some 2, some 3] (by omega) (by omega)
        · have hie3 : i = n := by omega
          rw [List.take_of_length_le (by omega)] at hrg hrm ⊢
          have hbl2 : (hdB 2 ++ gms M ++ rgs k a b S).length ≤ 400 := by
            rw [List.length_append, List.length_append]
            omega
          have rb := refBytes_fn (L := hdB 2 ++ gms M ++ rgs k a b S) (by omega)
          rw [pk_nl] at rb
          have hpl := pkb_len (hdB 2 ++ gms M ++ rgs k a b S)
          have hlt := pkb_lt (hdB 2 ++ gms M ++ rgs k a b S)
          generalize pkb (hdB 2 ++ gms M ++ rgs k a b S) = C1 at *
          have sl := refSeal_fn (l := C1) hlt (by omega)
          have hsl : (sealN C1).length = C1.length + 4 := by unfold sealN; rw [List.length_append]; rfl
          generalize sealN C1 = C2 at *
          have rs := refSame_fn (A := nl C2) (B := nl C2) (by rw [nl_len]; omega) (by rw [nl_len]; omega)
          rw [decide_eq_true rfl] at rs
          simp (maxSteps := 1000000) (disch := (first | omega | (simp only [lnA, List.length_map, List.length_range, true_and, and_true]; (try omega); done) | fail)) only [go_sem, Int.reduceEq, Int.reduceToNat, Nat.reduceAdd, Nat.reduceMul, Nat.reduceEqDiff, ↓reduceIte]
          refine callW [some 1, some 2, some 3] [] (ea) ?_
          simp (maxSteps := 1000000) (disch := (first | omega | (simp only [lnA, List.length_map, List.length_range, true_and, and_true]; (try omega); done) | fail)) only [go_sem, Int.reduceEq, Int.reduceToNat, Nat.reduceAdd, Nat.reduceMul, Nat.reduceEqDiff, ↓reduceIte]
          refine callV0 (rb) rfl rfl ?_
          simp (maxSteps := 1000000) (disch := (first | omega | (simp only [lnA, List.length_map, List.length_range, true_and, and_true]; (try omega); done) | fail)) only [go_sem, Int.reduceEq, Int.reduceToNat, Nat.reduceAdd, Nat.reduceMul, Nat.reduceEqDiff, ↓reduceIte]
          refine callV0 (sl) rfl rfl ?_
          simp (maxSteps := 1000000) (disch := (first | omega | (simp only [lnA, List.length_map, List.length_range, true_and, and_true]; (try omega); done) | fail)) only [go_sem, Int.reduceEq, Int.reduceToNat, Nat.reduceAdd, Nat.reduceMul, Nat.reduceEqDiff, ↓reduceIte]
          refine callV0 (rs) rfl rfl ?_
          simp (maxSteps := 1000000) (disch := (first | omega | (simp only [lnA, List.length_map, List.length_range, true_and, and_true]; (try omega); done) | fail)) only [go_sem, Int.reduceEq, Int.reduceToNat, Nat.reduceAdd, Nat.reduceMul, Nat.reduceEqDiff, ↓reduceIte]
          exact endW [] hQ
end Go.Proofs.YteookgjmohokiaaGreat
