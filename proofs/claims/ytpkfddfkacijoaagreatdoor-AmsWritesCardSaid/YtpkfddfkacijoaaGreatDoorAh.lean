import Derived.Test.YtpkfddfkacijoaaGreatDoorAg
namespace Go.Proofs.YtpkfddfkacijoaaGreatDoor
open Go.Eng Go.Vx
set_option linter.unusedSimpArgs false
set_option linter.unusedVariables false
set_option maxRecDepth 100000
abbrev PS := List (Nat × Nat) × Nat × Nat × Int
def okP (C : Nat) (y : PS) : Prop := y.1.length = C ∧ y.2.1 ≤ 20 ∧ (∀ x ∈ y.1, x.1 < 2305843009213693951 ∧ x.2 ≤ y.2.1) ∧ ((0 < y.2.1 ∧ ∀ x ∈ y.1, 1 ≤ x.2) ∨ (y.2.1 = 0 ∧ ∀ x ∈ y.1, x = (0, 0)))
theorem updL_one {L : List Bool} {N key : Nat} {X X' : List (Nat × Nat)} {p q : Nat} (hX : 0 < N → ∀ x ∈ X, 1 ≤ x.2) (h : updL L (N + 1) key X p = some (X', q)) : ∀ x ∈ X', 1 ≤ x.2 := by
  have st : ∀ (x : Nat × Nat) (a : Nat), a < N + 1 → (N = 0 ∨ 1 ≤ x.2) → 1 ≤ (stp key a x).2 := by
    intro x a ha hx
    unfold stp
    split
    · exact Nat.le_refl _
    · split
      · show 1 ≤ x.2 + 1; omega
      · omega
  rcases Nat.eq_zero_or_pos N with h0 | h0
  · exact updL_all (Nat.succ_pos N) (A := fun _ => True) (fun x a ha _ => st x a ha (.inl h0)) (fun _ _ => trivial) h
  · exact updL_all (Nat.succ_pos N) (A := fun x => 1 ≤ x.2) (fun x a ha hx => st x a ha (.inr hx)) (hX h0) h
set_option maxHeartbeats 4000000 in
theorem plays22_fn {K P : Int} {C : Nat} {W : List Nat} {L : List Bool} (h : goodA K P C) (hW : W.length ≤ 9223372036854775807) (hk : ∀ k ∈ W, k < 18446744073709551616) (hL : L.length ≤ 1048576) :
    FnR Tryz.prog 6 [.agg [.lit (.int .i64 K), .lit (.int .i64 P), .lit (.int .i64 (C : Int))], .row 1 ((nl W).map (ie .u64)), .row 1 (L.map be)] []
      (okP C) (fun y => .tup [.ref 0 0 0 0, rfV y.1 y.2.1 L y.2.2.1 y.2.2.2, .lit (.bool true)]) (fun y => [some (amC K P C y.1 y.2.1)]) := by
  have hC1 : 1 ≤ C := by have := h.2; omega
  have hC16 : C ≤ 16 := by have := h.2; omega
  have hn := anew_fn h
  have ht := newT_fn (L := L) hL
  have hz : (List.replicate C ((0 : Nat), (0 : Nat))).map sV = zrow [.int .u64 0, .int .i64 0] C := by rw [List.map_replicate]; rfl
  have hzl : (List.replicate C ((0 : Nat), (0 : Nat))).length = C := List.length_replicate
  have hzb : ∀ x ∈ List.replicate C ((0 : Nat), (0 : Nat)), x.1 < 2305843009213693951 ∧ x.2 ≤ 0 := fun x hx => by rw [List.eq_of_mem_replicate hx]; exact ⟨by decide, Nat.le_refl _⟩
  have hza : ∀ x ∈ List.replicate C ((0 : Nat), (0 : Nat)), x = (0, 0) := fun x hx => List.eq_of_mem_replicate hx
  have hlW := nl_len W
  generalize List.replicate C ((0 : Nat), (0 : Nat)) = z0 at *
  have etk : List.take C (z0.map sV) = z0.map sV := List.take_of_length_le (by rw [List.length_map]; omega)
  refine fnRN_of pl6 (by kernel_rfl) Tryz.call6 Tryz.func6 rfl (by kernel_rfl) rfl [.tmp 6, .cell 7 31, .tmp 8] (by kernel_rfl) fun Q hQ => ?_
  refine runW ?_
  refine callW [] [] (hn) ?_
  simp (maxSteps := 1000000) (disch := (first | omega | (simp only [lnA, List.length_map, List.length_range, true_and, and_true]; (try omega); done) | fail)) only [go_sem, ← hz, Int.reduceEq, Int.reduceToNat, Nat.reduceAdd, Nat.reduceMul, Nat.reduceEqDiff, ↓reduceIte]
  refine callW [] [] (ht) ?_
  refine runW ?_
  refine loopW (X := Nat × List (Nat × Nat) × Nat × Nat) (st := fun y => ([(1, .row 1 ((nl W).map (ie .u64))), (2, .row 1 (L.map be)), (7, .ref 0 0 0 0), (9, .ref 1 0 0 0), (11, .ref 2 0 0 0), (12, .ref 3 0 0 0), (13, .lit (.int .i64 (y.1 : Int)))],
      [some (.cells [.lit (.slice none 0 0), .lit (.int .i64 0), .lit (.slice none 0 0), .lit (.int .i64 0), .lit (.int .i64 0)]), some (amC K P C y.2.1 y.2.2.1), some (.cells (rfC y.2.1 y.2.2.1 L y.2.2.2 0)), some (tpC L y.2.2.2 false)]))
    (inv := fun y => y.1 ≤ 20 ∧ y.2.1.length = C ∧ y.2.2.1 ≤ y.1 ∧ y.2.2.2 ≤ L.length ∧ (∀ x ∈ y.2.1, x.1 < 2305843009213693951 ∧ x.2 ≤ y.2.2.1) ∧ ((0 < y.2.2.1 ∧ ∀ x ∈ y.2.1, 1 ≤ x.2) ∨ (y.2.2.1 = 0 ∧ ∀ x ∈ y.2.1, x = (0, 0)))) (m := fun y => 20 - y.1) (0, z0, 0, 0) [some 1, some 2, some 4, some 5] ⟨Nat.zero_le _, hzl, Nat.le_refl _, Nat.zero_le _, hzb, .inr ⟨rfl, hza⟩⟩ ?_
  rintro ⟨i, X, N, p⟩ ⟨hi, hX, hN, hp, hR, hR1⟩
  dsimp only at hi hX hN hp hR hR1 ⊢
  by_cases h1 : i < W.length
  · by_cases h2 : i < 20
    · have hXne : X ≠ [] := fun e => by rw [e] at hX; simp at hX; omega
      have hkey : (nl W).getD i 0 = ((W.getD i 0 : Nat) : Int) := nl_get W i
      have hkb : W.getD i 0 < 18446744073709551616 := by
        rw [List.getD_eq_getElem?_getD, List.getElem?_eq_getElem h1]
        exact hk _ (List.getElem_mem h1)
      generalize W.getD i 0 = key at *
      have hc := aClone_fn (K := K) (P := P) (C := C) (X := X) (N := N) (by omega) hXne
      by_cases h3 : 2305843009213693951 ≤ key
      · have hu := aupdE_fn (K := K) (P := P) (C := C) (X := X) (N := N) (key := key) (p := p) (d := false) (L := L) h3
        have hs := asame_fn (K := K) (P := P) (C := C) (X := X) (Y := X) (N := N) (M := N) (by omega) (by omega)
        rw [decide_eq_true ⟨rfl, rfl⟩] at hs
        simp (maxSteps := 1000000) (disch := (first | omega | (simp only [lnA, List.length_map, List.length_range, true_and, and_true]; (try omega); done) | fail)) only [go_sem, hkey, Int.reduceEq, Int.reduceToNat, Nat.reduceAdd, Nat.reduceMul, Nat.reduceEqDiff, ↓reduceIte]
        refine callF (hc) ?_
        simp (maxSteps := 1000000) (disch := (first | omega | (simp only [lnA, List.length_map, List.length_range, true_and, and_true]; (try omega); done) | fail)) only [go_sem, hkey, Int.reduceEq, Int.reduceToNat, Nat.reduceAdd, Nat.reduceMul, Nat.reduceEqDiff, ↓reduceIte]
        refine callW [some 1, some 3] [] (hu) ?_
        simp (maxSteps := 1000000) (disch := (first | omega | (simp only [lnA, List.length_map, List.length_range, true_and, and_true]; (try omega); done) | fail)) only [go_sem, hkey, Int.reduceEq, Int.reduceToNat, Nat.reduceAdd, Nat.reduceMul, Nat.reduceEqDiff, ↓reduceIte]
        refine callT (hs) ?_
        refine runW ?_
        refine nextW (i + 1, X, N, p) [some 0, some 1, some 2, some 3] ⟨h2, hX, by dsimp only; omega, hp, hR, hR1⟩ (by dsimp only; omega)
      · have hu := aupd_fn (K := K) (P := P) (C := C) (X := X) (N := N) (key := key) (p := p) (L := L) (by omega) hXne (by omega) (by omega) hL hp (fun x hx => by have := hR x hx; omega)
        have hr := refUpd_fn (X := X) (N := N) (key := key) (p := p) (L := L) (by omega) (by omega) (by omega) hL hp (fun x hx => by have := hR x hx; omega)
        unfold updX at hr
        cases hup : updL L (N + 1) key X p with
        | some r =>
          obtain ⟨X', q⟩ := r
          obtain ⟨k1, k2, k3⟩ := updL_ok hp hup
          have hR' := updL_le (B := 2305843009213693951) (by omega) hR hup
          have hP1 := updL_one (fun h => hR1.elim (fun h1 => h1.2) (fun h1 => absurd h1.1 (by omega))) hup
          rw [hup] at hu hr
          dsimp only at hu hr k1 k2 k3
          have hs := asame_fn (K := K) (P := P) (C := C) (X := X') (Y := X) (N := N + 1) (M := N) (by omega) (by omega)
          rw [decide_eq_false (fun e => by omega)] at hs
          have rd := readT_fn (L := L) (p := q) (d := false)
          have is' := is22_fn (K := K) (P := P) (C := C) (X := X') (N := N + 1) (p := q) (L := L) (e := 0) (by omega)
          simp (maxSteps := 1000000) (disch := (first | omega | (simp only [lnA, List.length_map, List.length_range, true_and, and_true]; (try omega); done) | fail)) only [go_sem, hkey, Int.reduceEq, Int.reduceToNat, Nat.reduceAdd, Nat.reduceMul, Nat.reduceEqDiff, ↓reduceIte]
          refine callF (hc) ?_
          simp (maxSteps := 1000000) (disch := (first | omega | (simp only [lnA, List.length_map, List.length_range, true_and, and_true]; (try omega); done) | fail)) only [go_sem, hkey, Int.reduceEq, Int.reduceToNat, Nat.reduceAdd, Nat.reduceMul, Nat.reduceEqDiff, ↓reduceIte]
          refine callW [some 1, some 3] [] (hu) ?_
          simp (maxSteps := 1000000) (disch := (first | omega | (simp only [lnA, List.length_map, List.length_range, true_and, and_true]; (try omega); done) | fail)) only [go_sem, hkey, Int.reduceEq, Int.reduceToNat, Nat.reduceAdd, Nat.reduceMul, Nat.reduceEqDiff, ↓reduceIte]
          refine callV0 (hr) rfl rfl ?_
          refine runW ?_
          refine callT (rd) ?_
          refine runW ?_
          refine callT (is') ?_
          refine runW ?_
          refine callT (hs) ?_
          refine runW ?_
          refine nextW (i + 1, X', N + 1, q) [some 0, some 1, some 2, some 3] ⟨h2, by dsimp only; omega, by dsimp only; omega, k2, hR', .inl ⟨Nat.succ_pos _, hP1⟩⟩ (by dsimp only; omega)
        | none =>
          rw [hup] at hu hr
          dsimp only at hu hr
          have hs := asame_fn (K := K) (P := P) (C := C) (X := X) (Y := X) (N := N) (M := N) (by omega) (by omega)
          rw [decide_eq_true ⟨rfl, rfl⟩] at hs
          have rd := readT_fn (L := L) (p := L.length) (d := true)
          have is' := is22_fn (K := K) (P := P) (C := C) (X := X) (N := N) (p := p) (L := L) (e := 0) (by omega)
          simp (maxSteps := 1000000) (disch := (first | omega | (simp only [lnA, List.length_map, List.length_range, true_and, and_true]; (try omega); done) | fail)) only [go_sem, hkey, Int.reduceEq, Int.reduceToNat, Nat.reduceAdd, Nat.reduceMul, Nat.reduceEqDiff, ↓reduceIte]
          refine callF (hc) ?_
          simp (maxSteps := 1000000) (disch := (first | omega | (simp only [lnA, List.length_map, List.length_range, true_and, and_true]; (try omega); done) | fail)) only [go_sem, hkey, Int.reduceEq, Int.reduceToNat, Nat.reduceAdd, Nat.reduceMul, Nat.reduceEqDiff, ↓reduceIte]
          refine callW [some 1, some 3] [] (hu) ?_
          simp (maxSteps := 1000000) (disch := (first | omega | (simp only [lnA, List.length_map, List.length_range, true_and, and_true]; (try omega); done) | fail)) only [go_sem, hkey, Int.reduceEq, Int.reduceToNat, Nat.reduceAdd, Nat.reduceMul, Nat.reduceEqDiff, ↓reduceIte]
          refine callV0 (hr) rfl rfl ?_
          refine runW ?_
          refine callT (rd) ?_
          refine runW ?_
          refine callT (is') ?_
          refine runW ?_
          refine callT (hs) ?_
          refine runW ?_
          exact endW [some 1] (hQ (X, N, p, 0) ⟨hX, by dsimp only; omega, hR, hR1⟩)
    · refine runW ?_
      exact endW [some 1] (hQ (X, N, p, 0) ⟨hX, by dsimp only; omega, hR, hR1⟩)
  · refine runW ?_
    exact endW [some 1] (hQ (X, N, p, 0) ⟨hX, by dsimp only; omega, hR, hR1⟩)
end Go.Proofs.YtpkfddfkacijoaaGreatDoor
