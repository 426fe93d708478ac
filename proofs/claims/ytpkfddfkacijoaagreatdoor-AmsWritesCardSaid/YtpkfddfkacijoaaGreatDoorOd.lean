import Derived.Test.YtpkfddfkacijoaaGreatDoorOc
import Derived.Test.YtpkfddfkacijoaaGreatDoorAh
import Derived.Test.YtpkfddfkacijoaaGreatDoorAc
namespace Go.Proofs.YtpkfddfkacijoaaGreatDoor
open Go.Eng Go.Vx
set_option linter.unusedSimpArgs false
set_option linter.unusedVariables false
set_option maxRecDepth 100000
@[go_sem] theorem pk_nil : pk [] = [] := rfl
def coA (i : Nat) : List Bool := (List.range i).map fun j => decide (j % 7 = 2) || decide (j % 3 = 1)
theorem coA_len (i : Nat) : (coA i).length = i := by simp [coA]
theorem coA_succ (i : Nat) : coA (i + 1) = coA i ++ [decide (i % 7 = 2) || decide (i % 3 = 1)] := by simp [coA, List.range_succ]
theorem okA_len {C : Nat} {X : List (Nat × Nat)} {N : Nat} (h : okA C X N) (hC : C ≤ 16) : (amsB X N).length ≤ 2000 := by
  obtain ⟨h1, h2, h3, h4⟩ := h
  have hv := varB_short h2
  unfold amsB
  rw [List.length_append]
  split
  · simp; omega
  · rcases h4 with ⟨h4, h5⟩ | ⟨h4, h5⟩
    · have := smB_len (X := X) fun x hx => ⟨h5 x hx, Nat.le_trans (h3 x hx).2 h2⟩
      omega
    · omega
theorem okA_one {C : Nat} {X : List (Nat × Nat)} {N : Nat} (h : okA C X N) : N = 0 ∨ ∀ x ∈ X, 1 ≤ x.2 := by
  rcases h.2.2.2 with h | h
  · exact .inr h.2
  · exact .inl h.1
theorem bit_one (b : Bool) : decide (b.toNat = 1) = b := by cases b <;> rfl
theorem getD_app {l r : List Bool} {i : Nat} (h : i < l.length) : (l ++ r).getD i false = l.getD i false := by
  rw [List.getD_eq_getElem?_getD, List.getElem?_append_left h, List.getD_eq_getElem?_getD]
set_option maxHeartbeats 16000000 in
theorem amsWrites_fn {a b c : Int} {W : List Nat} {B0 : List Int} (hW : W.length ≤ 9223372036854775807) (hk : ∀ k ∈ W, k < 18446744073709551616) (hI0 : IsB B0) (hB0 : B0.length ≤ 9223372036854775807) :
    Fn1 Tryz.prog 3 [.agg [.lit (.int .i64 a), .lit (.int .i64 b), .lit (.int .i64 c)], .row 1 ((nl W).map (ie .u64)), .row 1 (B0.map (ie .u8))] [] (.lit (.bool true)) [] := by
  obtain ⟨K, P, C, hg, hoA, hP, hC, hK, how⟩ := own22_fn (a := a) (b := b) (c := c)
  have hp := plays22_fn (L := coA 600) hg hW hk (by rw [coA_len]; decide)
  have hIt : IsB (B0.take 200) := fun x hx => hI0 x (List.mem_of_mem_take hx)
  have htl : (B0.take 200).length ≤ 200 := by simp; omega
  refine fn1N_of pl3 (by kernel_rfl) Tryz.call3 Tryz.func3 rfl (by kernel_rfl) rfl [.tmp 6] (by kernel_rfl) fun Q hQ => ?_
  simp (maxSteps := 1000000) (disch := (first | omega | (simp only [lnA, List.length_map, List.length_range, true_and, and_true]; (try omega); done) | fail)) only [go_sem, Int.reduceEq, Int.reduceToNat, Nat.reduceAdd, Nat.reduceMul, Nat.reduceEqDiff, ↓reduceIte]
  refine callV0 (awake22_fn) rfl rfl ?_
  simp (maxSteps := 1000000) (disch := (first | omega | (simp only [lnA, List.length_map, List.length_range, true_and, and_true]; (try omega); done) | fail)) only [go_sem, Int.reduceEq, Int.reduceToNat, Nat.reduceAdd, Nat.reduceMul, Nat.reduceEqDiff, ↓reduceIte]
  refine LoopV_of (X := Nat) (st := fun i => ([(1, .row 1 ((nl W).map (ie .u64))), (2, .row 1 (B0.map (ie .u8))), (3, .ref 0 0 0 0), (7, .sl 1 1 0 i), (29, .lit (.int .i64 (i : Int)))], [some (.cells [.lit (.int .i64 a), .lit (.int .i64 b), .lit (.int .i64 c)]), some (.row 1 ((coA i).map be))]))
    (inv := fun i => i ≤ 600) (m := fun i => 600 - i) 0 [some 0, none] rfl (by simp only [show (coA 0).map be = [] from rfl]; (simp (disch := (first | omega | (simp only [lnA, List.length_map, List.length_range, true_and, and_true]; (try omega); done) | fail)) only [go_sem, Int.reduceEq, Int.reduceToNat, Nat.reduceAdd, Nat.reduceMul, Nat.reduceEqDiff, ↓reduceIte, true_and, and_true, and_self, List.drop_zero, List.take_length, Nat.le_refl, V.lit.injEq, Value.int.injEq, Value.bool.injEq]; try (first | omega | (simp; done) | (simp; omega)))) (by simp (disch := (first | omega | (simp only [lnA, List.length_map, List.length_range, true_and, and_true]; (try omega); done) | fail)) only [go_sem, Int.reduceEq, Int.reduceToNat, Nat.reduceAdd, Nat.reduceMul, Nat.reduceEqDiff, ↓reduceIte, true_and, and_true, and_self, List.drop_zero, List.take_length, Nat.le_refl, V.lit.injEq, Value.int.injEq, Value.bool.injEq]; try (first | omega | (simp; done) | (simp; omega))) (Nat.zero_le _) ?_
  intro i hi
  have hcl := coA_len i
  by_cases hil : i < 600
  · have hcs := coA_succ i
    have hd2 : decide ((i : Int) % 3 = 1) = decide (i % 3 = 1) := by rw [decide_eq_decide]; omega
    by_cases h7 : i % 7 = 2
    · rw [decide_eq_true h7, Bool.true_or] at hcs
      simp (maxSteps := 1000000) (disch := (first | omega | (simp only [lnA, List.length_map, List.length_range, true_and, and_true]; (try omega); done) | fail)) only [go_sem, Int.reduceEq, Int.reduceToNat, Nat.reduceAdd, Nat.reduceMul, Nat.reduceEqDiff, ↓reduceIte]
      refine NextV_of (i + 1) [some 0, some 3] rfl (by dsimp only; rw [hcs]; (simp (disch := (first | omega | (simp only [lnA, List.length_map, List.length_range, true_and, and_true]; (try omega); done) | fail)) only [go_sem, Int.reduceEq, Int.reduceToNat, Nat.reduceAdd, Nat.reduceMul, Nat.reduceEqDiff, ↓reduceIte, true_and, and_true, and_self, List.drop_zero, List.take_length, Nat.le_refl, V.lit.injEq, Value.int.injEq, Value.bool.injEq]; try (first | omega | (simp; done) | (simp; omega)))) (by simp (disch := (first | omega | (simp only [lnA, List.length_map, List.length_range, true_and, and_true]; (try omega); done) | fail)) only [go_sem, Int.reduceEq, Int.reduceToNat, Nat.reduceAdd, Nat.reduceMul, Nat.reduceEqDiff, ↓reduceIte, true_and, and_true, and_self, List.drop_zero, List.take_length, Nat.le_refl, V.lit.injEq, Value.int.injEq, Value.bool.injEq]; try (first | omega | (simp; done) | (simp; omega))) hil (by omega)
    · rw [decide_eq_false h7, Bool.false_or] at hcs
      simp (maxSteps := 1000000) (disch := (first | omega | (simp only [lnA, List.length_map, List.length_range, true_and, and_true]; (try omega); done) | fail)) only [go_sem, Int.reduceEq, Int.reduceToNat, Nat.reduceAdd, Nat.reduceMul, Nat.reduceEqDiff, ↓reduceIte]
      refine NextV_of (i + 1) [some 0, some 3] rfl (by dsimp only; rw [hcs, ← hd2]; (simp (disch := (first | omega | (simp only [lnA, List.length_map, List.length_range, true_and, and_true]; (try omega); done) | fail)) only [go_sem, Int.reduceEq, Int.reduceToNat, Nat.reduceAdd, Nat.reduceMul, Nat.reduceEqDiff, ↓reduceIte, true_and, and_true, and_self, List.drop_zero, List.take_length, Nat.le_refl, V.lit.injEq, Value.int.injEq, Value.bool.injEq]; try (first | omega | (simp; done) | (simp; omega)))) (by simp (disch := (first | omega | (simp only [lnA, List.length_map, List.length_range, true_and, and_true]; (try omega); done) | fail)) only [go_sem, Int.reduceEq, Int.reduceToNat, Nat.reduceAdd, Nat.reduceMul, Nat.reduceEqDiff, ↓reduceIte, true_and, and_true, and_self, List.drop_zero, List.take_length, Nat.le_refl, V.lit.injEq, Value.int.injEq, Value.bool.injEq]; try (first | omega | (simp; done) | (simp; omega))) hil (by omega)
  obtain rfl : i = 600 := by omega
  simp (maxSteps := 1000000) (disch := (first | omega | (simp only [lnA, List.length_map, List.length_range, true_and, and_true]; (try omega); done) | fail)) only [go_sem, Int.reduceEq, Int.reduceToNat, Nat.reduceAdd, Nat.reduceMul, Nat.reduceEqDiff, ↓reduceIte]
  refine callV0 (how) rfl rfl ?_
  simp (maxSteps := 1000000) (disch := (first | omega | (simp only [lnA, List.length_map, List.length_range, true_and, and_true]; (try omega); done) | fail)) only [go_sem, Int.reduceEq, Int.reduceToNat, Nat.reduceAdd, Nat.reduceMul, Nat.reduceEqDiff, ↓reduceIte]
  refine callR [] [1] (hp) ?_
  rintro ⟨X, N, pt, et⟩ ⟨hX, hN, hR, hR1⟩
  dsimp only at hX hN hR hR1
  have hok : okA C X N := ⟨hX, by omega, hR, hR1⟩
  have hal := okA_len hok hC
  have aw := awrite_fn (K := K) (P := P) (C := C) (X := X) (N := N) (L := []) (by omega) (fun x hx => ⟨(hR x hx).1, by have := (hR x hx).2; omega⟩) (okA_one hok) (by omega) (by decide)
  rw [List.nil_append] at aw
  have by1 := bytesR_fn (L := amsB X N) (by omega)
  have hpl := pk_len (amsB X N)
  have hplB : (pk (amsB X N)).length ≤ 300 := by omega
  have rd := read_fn (B := pk (amsB X N)) (by omega)
  have pr := aparam_fn (K := K) (P := P) (C := C) (X := X) (N := N)
  have ar := aread_fn (p := 0) hg (isB_pk3 (amsB X N)) (by omega) (Nat.zero_le _)
  have hbk := arR_back (A := []) (R := List.replicate (8 * (((amsB X N).length + 7) / 8) - (amsB X N).length) false) hok
  rw [List.nil_append, ← bitsOf_pk, List.length_nil] at hbk
  rw [hbk] at ar
  unfold arV arS at ar
  dsimp only at ar
  have sm := asame_fn (K := K) (P := P) (C := C) (X := X) (Y := X) (N := N) (M := N) (by omega) (by omega)
  rw [decide_eq_true ⟨rfl, rfl⟩] at sm
  clear hbk hp how
  simp (maxSteps := 1000000) (disch := (first | omega | (simp only [lnA, List.length_map, List.length_range, true_and, and_true]; (try omega); done) | fail)) only [go_sem, Int.reduceEq, Int.reduceToNat, Nat.reduceAdd, Nat.reduceMul, Nat.reduceEqDiff, ↓reduceIte]
  refine callW [some 2, some 4, none] [] (aw) ?_
  simp (maxSteps := 1000000) (disch := (first | omega | (simp only [lnA, List.length_map, List.length_range, true_and, and_true]; (try omega); done) | fail)) only [go_sem, Int.reduceEq, Int.reduceToNat, Nat.reduceAdd, Nat.reduceMul, Nat.reduceEqDiff, ↓reduceIte]
  refine callW [some 4, some 6] [] (by1) ?_
  simp (maxSteps := 1000000) (disch := (first | omega | (simp only [lnA, List.length_map, List.length_range, true_and, and_true]; (try omega); done) | fail)) only [go_sem, Int.reduceEq, Int.reduceToNat, Nat.reduceAdd, Nat.reduceMul, Nat.reduceEqDiff, ↓reduceIte]
  refine callW [] [] (rd) ?_
  simp (maxSteps := 1000000) (disch := (first | omega | (simp only [lnA, List.length_map, List.length_range, true_and, and_true]; (try omega); done) | fail)) only [go_sem, Int.reduceEq, Int.reduceToNat, Nat.reduceAdd, Nat.reduceMul, Nat.reduceEqDiff, ↓reduceIte]
  refine callT (pr) ?_
  simp (maxSteps := 1000000) (disch := (first | omega | (simp only [lnA, List.length_map, List.length_range, true_and, and_true]; (try omega); done) | fail)) only [go_sem, Int.reduceEq, Int.reduceToNat, Nat.reduceAdd, Nat.reduceMul, Nat.reduceEqDiff, ↓reduceIte]
  refine callW [some 7] [] (ar) ?_
  simp (maxSteps := 1000000) (disch := (first | omega | (simp only [lnA, List.length_map, List.length_range, true_and, and_true]; (try omega); done) | fail)) only [go_sem, Int.reduceEq, Int.reduceToNat, Nat.reduceAdd, Nat.reduceMul, Nat.reduceEqDiff, ↓reduceIte]
  refine callT (sm) ?_
  by_cases hlen : 200 < B0.length
  case' pos =>
    simp (maxSteps := 1000000) (disch := (first | omega | (simp only [lnA, List.length_map, List.length_range, true_and, and_true]; (try omega); done) | fail)) only [go_sem, Int.reduceEq, Int.reduceToNat, Nat.reduceAdd, Nat.reduceMul, Nat.reduceEqDiff, ↓reduceIte]
    obtain ⟨B, hBe⟩ : ∃ B, B = B0.take 200 := ⟨_, rfl⟩
    have hI : IsB B := by rw [hBe]; exact hIt
    have hB : B.length ≤ 200 := by rw [hBe]; exact htl
    rw [← hBe]
  case' neg =>
    simp (maxSteps := 1000000) (disch := (first | omega | (simp only [lnA, List.length_map, List.length_range, true_and, and_true]; (try omega); done) | fail)) only [go_sem, Int.reduceEq, Int.reduceToNat, Nat.reduceAdd, Nat.reduceMul, Nat.reduceEqDiff, ↓reduceIte]
    obtain ⟨B, hBe⟩ : ∃ B, B = B0 := ⟨_, rfl⟩
    have hI : IsB B := by rw [hBe]; exact hI0
    have hB : B.length ≤ 200 := by rw [hBe]; omega
    rw [← hBe]
  all_goals
    clear hBe htl hIt hlen aw by1 rd ar sm hpl hplB
    have hbl := bitsOf_len B
    have rd := read_fn (B := B) (by omega)
    have ar := aread_fn (p := 0) hg hI (by omega) (Nat.zero_le _)
    refine callW [] [] (rd) ?_
    simp (maxSteps := 1000000) (disch := (first | omega | (simp only [lnA, List.length_map, List.length_range, true_and, and_true]; (try omega); done) | fail)) only [go_sem, Int.reduceEq, Int.reduceToNat, Nat.reduceAdd, Nat.reduceMul, Nat.reduceEqDiff, ↓reduceIte]
    refine callT (pr) ?_
    cases ho : (arR (bitsOf B) C 0).1 with
    | none =>
      have he := arR_none ho
      have eV : arV (arR (bitsOf B) C 0) = .tup [.lit (.pointer none), .lit (.int .i64 (arR (bitsOf B) C 0).2.2)] := by unfold arV; rw [ho]
      have eS : arS K P C B (arR (bitsOf B) C 0) = [some (rdC B (arR (bitsOf B) C 0).2.1)] := by unfold arS; rw [ho]
      rw [eV, eS] at ar
      generalize (arR (bitsOf B) C 0).2.1 = q at *
      generalize (arR (bitsOf B) C 0).2.2 = e at *
      simp (maxSteps := 1000000) (disch := (first | omega | (simp only [lnA, List.length_map, List.length_range, true_and, and_true]; (try omega); done) | fail)) only [go_sem, Int.reduceEq, Int.reduceToNat, Nat.reduceAdd, Nat.reduceMul, Nat.reduceEqDiff, ↓reduceIte]
      refine callW [some 9] [] (ar) ?_
      rcases he with he | he
      · subst he
        simp (maxSteps := 1000000) (disch := (first | omega | (simp only [lnA, List.length_map, List.length_range, true_and, and_true]; (try omega); done) | fail)) only [go_sem, Int.reduceEq, Int.reduceToNat, Nat.reduceAdd, Nat.reduceMul, Nat.reduceEqDiff, ↓reduceIte]
        exact endW [] hQ
      · subst he
        simp (maxSteps := 1000000) (disch := (first | omega | (simp only [lnA, List.length_map, List.length_range, true_and, and_true]; (try omega); done) | fail)) only [go_sem, Int.reduceEq, Int.reduceToNat, Nat.reduceAdd, Nat.reduceMul, Nat.reduceEqDiff, ↓reduceIte]
        exact endW [] hQ
    | some Y =>
      obtain ⟨X2, N2⟩ := Y
      obtain ⟨hw1, hw2, hok2, hw3⟩ := arR_way (Nat.zero_le _) ho
      have hql := arR_le (C := C) (p := 0) (Nat.zero_le (bitsOf B).length)
      have eV : arV (arR (bitsOf B) C 0) = .tup [.ref 1 0 0 0, .lit (.int .i64 0)] := by unfold arV; rw [ho]
      have eS : arS K P C B (arR (bitsOf B) C 0) = [some (rdC B (arR (bitsOf B) C 0).2.1), some (amC K P C X2 N2)] := by unfold arS; rw [ho]
      rw [eV, eS] at ar
      generalize (arR (bitsOf B) C 0).2.1 = q at *
      have hal2 := okA_len hok2 hC
      obtain ⟨hX2, hN2, hR2, hR12⟩ := id hok2
      have aw := awrite_fn (K := K) (P := P) (C := C) (X := X2) (N := N2) (L := []) (by omega) (fun x hx => ⟨(hR2 x hx).1, by have := (hR2 x hx).2; omega⟩) (okA_one hok2) (by omega) (by decide)
      rw [List.nil_append] at aw
      have hsp : bitsOf B = amsB X2 N2 ++ (bitsOf B).drop q := by rw [← hw1]; rfl
      have hq : q = (amsB X2 N2).length := by
        have := congrArg List.length hsp
        rw [List.length_append, List.length_drop] at this
        omega
      have hpk := bitsOf_pk (amsB X2 N2)
      have hg1 : ∀ i, i < (amsB X2 N2).length → (bitsOf B).getD i false = (amsB X2 N2).getD i false := fun i hi => by rw [hsp]; exact getD_app hi
      have hg2 : ∀ i, i < (amsB X2 N2).length → (bitsOf (pk (amsB X2 N2))).getD i false = (amsB X2 N2).getD i false := fun i hi => by rw [hpk]; exact getD_app hi
      have by1 := bytesR_fn (L := amsB X2 N2) (by omega)
      have ln := wlen_fn (L := amsB X2 N2)
      have hpl := pk_len (amsB X2 N2)
      have hplB : (pk (amsB X2 N2)).length ≤ 300 := by omega
      have hIp := isB_pk3 (amsB X2 N2)
      have hbl2 := bitsOf_len (pk (amsB X2 N2))
      have rd2 := read_fn (B := pk (amsB X2 N2)) (by omega)
      have hbit1 := fun (i : Nat) (h1 : i < (amsB X2 N2).length) => rbitX_fn (B := B) (p := i) hI (by omega) (by omega)
      have hbit2 := fun (i : Nat) (h1 : i < (amsB X2 N2).length) => rbitX_fn (B := pk (amsB X2 N2)) (p := i) hIp (by omega) (by omega)
      have l1 := left_fn (B := B) (p := (amsB X2 N2).length) (by omega) (by omega)
      rw [hq] at ar
      clear hsp hpk hw1 eV eS
      generalize pk (amsB X2 N2) = B2 at *
      generalize amsB X2 N2 = V2 at *
      simp (maxSteps := 1000000) (disch := (first | omega | (simp only [lnA, List.length_map, List.length_range, true_and, and_true]; (try omega); done) | fail)) only [go_sem, Int.reduceEq, Int.reduceToNat, Nat.reduceAdd, Nat.reduceMul, Nat.reduceEqDiff, ↓reduceIte]
      refine callW [some 9] [] (ar) ?_
      simp (maxSteps := 1000000) (disch := (first | omega | (simp only [lnA, List.length_map, List.length_range, true_and, and_true]; (try omega); done) | fail)) only [go_sem, Int.reduceEq, Int.reduceToNat, Nat.reduceAdd, Nat.reduceMul, Nat.reduceEqDiff, ↓reduceIte]
      refine callW [some 10, some 11, none] [] (aw) ?_
      simp (maxSteps := 1000000) (disch := (first | omega | (simp only [lnA, List.length_map, List.length_range, true_and, and_true]; (try omega); done) | fail)) only [go_sem, Int.reduceEq, Int.reduceToNat, Nat.reduceAdd, Nat.reduceMul, Nat.reduceEqDiff, ↓reduceIte]
      refine callW [] [] (rd) ?_
      simp (maxSteps := 1000000) (disch := (first | omega | (simp only [lnA, List.length_map, List.length_range, true_and, and_true]; (try omega); done) | fail)) only [go_sem, Int.reduceEq, Int.reduceToNat, Nat.reduceAdd, Nat.reduceMul, Nat.reduceEqDiff, ↓reduceIte]
      refine callW [some 11, some 13] [] (by1) ?_
      simp (maxSteps := 1000000) (disch := (first | omega | (simp only [lnA, List.length_map, List.length_range, true_and, and_true]; (try omega); done) | fail)) only [go_sem, Int.reduceEq, Int.reduceToNat, Nat.reduceAdd, Nat.reduceMul, Nat.reduceEqDiff, ↓reduceIte]
      refine callW [] [] (rd2) ?_
      simp (maxSteps := 1000000) (disch := (first | omega | (simp only [lnA, List.length_map, List.length_range, true_and, and_true]; (try omega); done) | fail)) only [go_sem, Int.reduceEq, Int.reduceToNat, Nat.reduceAdd, Nat.reduceMul, Nat.reduceEqDiff, ↓reduceIte]
      refine callW [some 11, some 13] [] (ln) ?_
      simp (maxSteps := 1000000) (disch := (first | omega | (simp only [lnA, List.length_map, List.length_range, true_and, and_true]; (try omega); done) | fail)) only [go_sem, Int.reduceEq, Int.reduceToNat, Nat.reduceAdd, Nat.reduceMul, Nat.reduceEqDiff, ↓reduceIte]
      refine loopW (X := Nat) (st := fun i => ([(9, .ref 0 0 0 0), (15, .ref 2 0 0 0), (16, .ref 1 0 0 0), (18, .ref 3 0 0 0), (19, .ref 4 0 0 0), (105, .lit (.int .i64 (V2.length : Int))), (106, .lit (.int .i64 (i : Int)))],
          [some (amC K P C X N), some (amC K P C X2 N2), some (rdC B V2.length), some (rdC B i), some (rdC B2 i)]))
        (inv := fun i => i ≤ V2.length) (m := fun i => V2.length - i) 0 [some 2, some 10, some 9, some 14, some 15] (Nat.zero_le _) ?_
      intro i hi
      by_cases hil : i < V2.length
      · have b1 := hbit1 i hil
        have b2 := hbit2 i hil
        rw [rX_one (by omega)] at b1 b2
        dsimp only at b1 b2
        rw [bit_one, hg1 i hil] at b1
        rw [bit_one, hg2 i hil] at b2
        clear hbit1 hbit2
        generalize V2.getD i false = vb at *
        cases vb with
        | true =>
          simp (maxSteps := 1000000) (disch := (first | omega | (simp only [lnA, List.length_map, List.length_range, true_and, and_true]; (try omega); done) | fail)) only [go_sem, Int.reduceEq, Int.reduceToNat, Nat.reduceAdd, Nat.reduceMul, Nat.reduceEqDiff, ↓reduceIte]
          refine callW [some 3] [] (b1) ?_
          simp (maxSteps := 1000000) (disch := (first | omega | (simp only [lnA, List.length_map, List.length_range, true_and, and_true]; (try omega); done) | fail)) only [go_sem, Int.reduceEq, Int.reduceToNat, Nat.reduceAdd, Nat.reduceMul, Nat.reduceEqDiff, ↓reduceIte]
          refine callW [some 4] [] (b2) ?_
          simp (maxSteps := 1000000) (disch := (first | omega | (simp only [lnA, List.length_map, List.length_range, true_and, and_true]; (try omega); done) | fail)) only [go_sem, Int.reduceEq, Int.reduceToNat, Nat.reduceAdd, Nat.reduceMul, Nat.reduceEqDiff, ↓reduceIte]
          refine nextW (i + 1) [some 0, some 1, some 2, some 3, some 4] hil (by omega)
        | false =>
          simp (maxSteps := 1000000) (disch := (first | omega | (simp only [lnA, List.length_map, List.length_range, true_and, and_true]; (try omega); done) | fail)) only [go_sem, Int.reduceEq, Int.reduceToNat, Nat.reduceAdd, Nat.reduceMul, Nat.reduceEqDiff, ↓reduceIte]
          refine callW [some 3] [] (b1) ?_
          simp (maxSteps := 1000000) (disch := (first | omega | (simp only [lnA, List.length_map, List.length_range, true_and, and_true]; (try omega); done) | fail)) only [go_sem, Int.reduceEq, Int.reduceToNat, Nat.reduceAdd, Nat.reduceMul, Nat.reduceEqDiff, ↓reduceIte]
          refine callW [some 4] [] (b2) ?_
          simp (maxSteps := 1000000) (disch := (first | omega | (simp only [lnA, List.length_map, List.length_range, true_and, and_true]; (try omega); done) | fail)) only [go_sem, Int.reduceEq, Int.reduceToNat, Nat.reduceAdd, Nat.reduceMul, Nat.reduceEqDiff, ↓reduceIte]
          refine nextW (i + 1) [some 0, some 1, some 2, some 3, some 4] hil (by omega)
      · obtain rfl : i = V2.length := by omega
        clear hbit1 hbit2
        simp (maxSteps := 1000000) (disch := (first | omega | (simp only [lnA, List.length_map, List.length_range, true_and, and_true]; (try omega); done) | fail)) only [go_sem, Int.reduceEq, Int.reduceToNat, Nat.reduceAdd, Nat.reduceMul, Nat.reduceEqDiff, ↓reduceIte]
        refine callT (pr) ?_
        simp (maxSteps := 1000000) (disch := (first | omega | (simp only [lnA, List.length_map, List.length_range, true_and, and_true]; (try omega); done) | fail)) only [go_sem, Int.reduceEq, Int.reduceToNat, Nat.reduceAdd, Nat.reduceMul, Nat.reduceEqDiff, ↓reduceIte]
        refine loopW (X := Nat) (st := fun j => ([(15, .ref 1 0 0 0), (16, .ref 0 0 0 0), (18, .ref 2 0 0 0), (132, .lit (.int .i64 (C : Int))), (133, .lit (.int .i64 (j : Int)))],
            [some (amC K P C X2 N2), some (rdC B V2.length), some (rdC B V2.length)]))
          (inv := fun j => j ≤ C) (m := fun j => C - j) 0 [some 1, some 2, some 3] (Nat.zero_le _) ?_
        intro j hj
        by_cases hjl : j < C
        · have hjX : j < X2.length := by omega
          have sp := asamp_fn (K := K) (P := P) (C := C) (X := X2) (N := N2) (i := j) (x := X2[j]) (List.getElem?_eq_getElem hjX) (by omega)
          have hxb := hR2 X2[j] (List.getElem_mem hjX)
          have tot := atotal_fn (K := K) (P := P) (C := C) (X := X2) (N := N2)
          generalize X2[j] = x at *
          obtain ⟨x1, x2⟩ := x
          dsimp only at hxb sp
          have o := of1_fn (x := x1) (by omega)
          have bb := bits_fn (n := x1) (Nat.le_trans (wg_one (by omega)) (by decide))
          have hb61 := bl_le_of (n := x1) (k := 61) (by omega)
          simp (maxSteps := 1000000) (disch := (first | omega | (simp only [lnA, List.length_map, List.length_range, true_and, and_true]; (try omega); done) | fail)) only [go_sem, Int.reduceEq, Int.reduceToNat, Nat.reduceAdd, Nat.reduceMul, Nat.reduceEqDiff, ↓reduceIte]
          refine callT (sp) ?_
          simp (maxSteps := 1000000) (disch := (first | omega | (simp only [lnA, List.length_map, List.length_range, true_and, and_true]; (try omega); done) | fail)) only [go_sem, Int.reduceEq, Int.reduceToNat, Nat.reduceAdd, Nat.reduceMul, Nat.reduceEqDiff, ↓reduceIte]
          refine callT (tot) ?_
          simp (maxSteps := 1000000) (disch := (first | omega | (simp only [lnA, List.length_map, List.length_range, true_and, and_true]; (try omega); done) | fail)) only [go_sem, Int.reduceEq, Int.reduceToNat, Nat.reduceAdd, Nat.reduceMul, Nat.reduceEqDiff, ↓reduceIte]
          refine callW [] [4] (o) ?_
          simp (maxSteps := 1000000) (disch := (first | omega | (simp only [lnA, List.length_map, List.length_range, true_and, and_true]; (try omega); done) | fail)) only [go_sem, Int.reduceEq, Int.reduceToNat, Nat.reduceAdd, Nat.reduceMul, Nat.reduceEqDiff, ↓reduceIte]
          refine callV0 (bb) rfl rfl ?_
          simp (maxSteps := 1000000) (disch := (first | omega | (simp only [lnA, List.length_map, List.length_range, true_and, and_true]; (try omega); done) | fail)) only [go_sem, Int.reduceEq, Int.reduceToNat, Nat.reduceAdd, Nat.reduceMul, Nat.reduceEqDiff, ↓reduceIte]
          refine nextW (j + 1) [some 0, some 1, some 2] (by omega) (by omega)
        · obtain rfl : j = C := by omega
          simp (maxSteps := 1000000) (disch := (first | omega | (simp only [lnA, List.length_map, List.length_range, true_and, and_true]; (try omega); done) | fail)) only [go_sem, Int.reduceEq, Int.reduceToNat, Nat.reduceAdd, Nat.reduceMul, Nat.reduceEqDiff, ↓reduceIte]
          refine callW [some 2] [] (l1) ?_
          simp (maxSteps := 1000000) (disch := (first | omega | (simp only [lnA, List.length_map, List.length_range, true_and, and_true]; (try omega); done) | fail)) only [go_sem, Int.reduceEq, Int.reduceToNat, Nat.reduceAdd, Nat.reduceMul, Nat.reduceEqDiff, ↓reduceIte]
          refine callW [some 1] [] (l1) ?_
          simp (maxSteps := 1000000) (disch := (first | omega | (simp only [lnA, List.length_map, List.length_range, true_and, and_true]; (try omega); done) | fail)) only [go_sem, Int.reduceEq, Int.reduceToNat, Nat.reduceAdd, Nat.reduceMul, Nat.reduceEqDiff, ↓reduceIte]
          exact endW [] hQ
end Go.Proofs.YtpkfddfkacijoaaGreatDoor
