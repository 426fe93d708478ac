import Derived.Test.YtpkfddfkacijoaaAo
import Derived.Test.YtpkfddfkacijoaaAv
import Derived.Test.YtpkfddfkacijoaaVz
namespace Go.Proofs.Ytpkfddfkacijoaa
open Go.Eng Go.Vx
set_option linter.unusedSimpArgs false
set_option linter.unusedVariables false
set_option maxRecDepth 100000
def wkBm (P n : Nat) (W : List Nat) (s : Rat × Nat) : St :=
  [some (.cells [.lit (.int .i64 1), .lit (.int .i64 (P : Int)), .lit (.int .i64 1)]), some (.cells [.lit (.int .i64 (s.2 : Int))]), some (.cells [.lit (.int .i64 (n : Int))]), some (.cells [.row 1 ((nl W).map (ie .u64))]),
    some (.cells [.clo 6 [.ref 0 0 0 0, .ref 1 0 0 0, .ref 2 0 0 0, .ref 3 0 0 0, .ref 4 0 0 0, .ref 5 0 0 0]]), some (.cells (rqC s.1))]
attribute [go_sem] wkBm
def argsBm (L : List Bool) : List V := [.row 1 (L.map be), .ref 0 0 0 0, .ref 1 0 0 0, .ref 2 0 0 0, .ref 3 0 0 0, .ref 4 0 0 0, .ref 5 0 0 0]
attribute [go_sem] argsBm
set_option maxHeartbeats 16000000 in
theorem walkB_step {P n f A : Nat} {W : List Nat} {L : List Bool} {s : Rat × Nat} (hg : goodA 1 P 1) (hn : n ≤ 3) (hnW : n ≤ W.length) (hWl : W.length ≤ 9223372036854775807) (hWb : ∀ k ∈ W, k < 18446744073709551616) (hf : L.length + f = 12)
    (hA : RS A s.1) (hA2 : A + 12 * 2 ^ f ≤ 300000) (hs2 : s.2 + 2 ^ f ≤ 1000000) (hest : ∀ x : Nat × Nat, x.2 ≤ 4 → RS 9 (estV 1 P n x))
    (ih : ∀ g, f = g + 1 → ∀ (v : Bool) (A : Nat) (s : Rat × Nat), RS A s.1 → A + 12 * 2 ^ g ≤ 300000 → s.2 + 2 ^ g ≤ 1000000 →
      Fn1 Try.prog 6 (argsBm (L ++ [v])) (wkBm P n W s) (.tup []) (wkBm P n W (qTr ((trB P n W).sub (L ++ [v])) g s))) :
    Fn1 Try.prog 6 (argsBm L) (wkBm P n W s) (.tup []) (wkBm P n W (qTr ((trB P n W).sub L) f s)) := by
  have hlW := nl_len W
  have hks : (ksB W n).length = n := by unfold ksB; rw [List.length_map, List.length_take]; omega
  have hdrop : ∀ i, i < n → (ksB W n).drop i = (W.getD i 0 % 2) :: (ksB W n).drop (i + 1) := by
    intro i hi
    rw [List.drop_eq_getElem_cons (by omega)]
    congr 1
    unfold ksB
    rw [List.getElem_map, List.getElem_take, List.getD_eq_getElem?_getD, List.getElem?_eq_getElem (by omega)]
    rfl
  have hnone : (trB P n W).run L 0 = none → (f = 0 → qTr ((trB P n W).sub L) f s = (s.1, s.2 + 1)) ∧ ∀ g, f = g + 1 → qTr ((trB P n W).sub L) f s = qTr ((trB P n W).sub (L ++ [true])) g (qTr ((trB P n W).sub (L ++ [false])) g s) := by
    intro h
    obtain ⟨g1, g2, e⟩ := run_none h
    rw [sub_snoc, sub_snoc, e, subQ_ask.1, subQ_ask.2]
    exact ⟨fun h => by rw [h]; exact qTr_ask0, fun g h => by rw [h]; exact qTr_ask⟩
  have hleaf : ∀ (v : Bool) (g : Nat), L.length + 1 + g = 12 → alf (fun a => RS 9 a) ((trB P n W).sub (L ++ [v])) g := by
    intro v g hg
    refine alf_sub (alf_run fun L' a p hL' hr => ?_)
    rw [List.length_append, List.length_singleton] at hL'
    obtain ⟨y, rfl, hy⟩ := play_leaf (fin := fun x => estV 1 P n x) (ks := ksB W n) (N := 0) (x := (0, 0)) (L := L') (by omega) (Nat.zero_le _) (Nat.le_refl _) hr
    exact hest y (by omega)
  have hn1 := anew_fn hg
  rw [show List.replicate 1 ((0 : Nat), (0 : Nat)) = [(0, 0)] from rfl, show ((1 : Nat) : Int) = 1 from rfl] at hn1
  have ht := newT_fn (L := L) (by omega)
  have hml : (12 : Int) - (L.length : Int) = (f : Int) := by omega
  have hsh := shA_n (k := f) (by omega)
  have hsum : ∀ x : Nat × Nat, sumE 1 P n [x] / (((1 : Nat) : Int) : Rat) = estV 1 P n x := fun x => by
    show (estV 1 P n x + 0) / 1 = _
    grind
  have hup := fun (i p : Nat) (x : Nat × Nat) (k : Nat) (h1 : i < n) (h2 : p ≤ L.length) (h3 : k < 2) (h4 : x.2 ≤ i) => aupd_fn (K := 1) (P := (P : Int)) (C := 1) (X := [x]) (N := i) (key := k) (p := p) (L := L) (by simp) (by simp) (by omega) (by omega) (by omega) h2 (fun y hy => by rw [List.mem_singleton.1 hy]; omega)
  refine fn1N_of pl6 (by kernel_rfl) Try.call6 Try.func6 rfl (by kernel_rfl) rfl [] (by kernel_rfl) fun Q hQ => ?_
  refine runW ?_
  refine callW [] [] (hn1) ?_
  refine runW ?_
  refine callW [] [] (ht) ?_
  refine runW ?_
  refine loopW (X := Nat × Nat × (Nat × Nat) × Nat × Int × Bool) (st := fun u => ([(0, .row 1 (L.map be)), (1, .ref 0 0 0 0), (2, .ref 1 0 0 0), (3, .ref 2 0 0 0), (4, .ref 3 0 0 0), (5, .ref 4 0 0 0), (6, .ref 5 0 0 0), (8, .ref 6 0 0 0), (9, .lit (.int .i64 u.2.2.2.2.1)), (10, .ref 7 0 0 0), (11, .lit (.int .i64 (u.1 : Int)))],
      wkBm P n W s ++ [some (amC 1 (P : Int) 1 [u.2.2.1] u.2.1), some (tpC L u.2.2.2.1 u.2.2.2.2.2)]))
    (inv := fun u => u.1 ≤ n ∧ ((u.2.2.2.2.1 = 0 ∧ u.2.2.2.2.2 = false ∧ u.2.1 = u.1 ∧ u.2.2.2.1 ≤ L.length ∧ u.2.2.1.2 ≤ u.1 ∧ (trB P n W).run L 0 = (playQ (fun x => estV 1 P n x) ((ksB W n).drop u.1) u.1 u.2.2.1).run L u.2.2.2.1) ∨ (u.2.2.2.2.1 = 8 ∧ (trB P n W).run L 0 = none)))
    (m := fun u => n - u.1) (0, 0, (0, 0), 0, 0, false) [some 0, some 1, some 2, some 3, some 4, some 5, some 6, some 7] ⟨Nat.zero_le _, .inl ⟨rfl, rfl, rfl, Nat.zero_le _, Nat.le_refl _, rfl⟩⟩ ?_
  rintro ⟨i, N, x, p, e, d⟩ ⟨hi, hinv⟩
  dsimp only at hi hinv ⊢
  rcases hinv with ⟨he, hd, hNi, hp, hx2, hrun⟩ | ⟨he, hrn⟩
  · have hNi := hNi.symm
    subst he hd hNi
    by_cases hil : i < n
    · have hkk : W.getD i 0 % 2 < 2 := Nat.mod_lt _ (by decide)
      have hu := hup i p x _ hil hp hkk hx2
      have hnl := nl_get W i
      have hk3 : ((W.getD i 0 : Nat) : Int) % 2 = ((W.getD i 0 % 2 : Nat) : Int) := rfl
      rw [hdrop i hil, run_playQ (by omega) hp] at hrun
      generalize W.getD i 0 % 2 = key at *
      cases hul : updL L (i + 1) key [x] p with
      | none =>
        rw [hul] at hu hrun
        dsimp only at hu hrun
        simp (maxSteps := 1000000) (disch := (first | omega | (simp only [lnA, List.length_map, List.length_range, true_and, and_true]; (try omega); done) | fail)) only [go_sem, hnl, hk3, Int.reduceEq, Int.reduceToNat, Nat.reduceAdd, Nat.reduceMul, Nat.reduceEqDiff, ↓reduceIte]
        refine callW [some 6, some 7] [] (hu) ?_
        refine runW ?_
        refine nextW (i + 1, i, x, L.length, 8, true) [some 0, some 1, some 2, some 3, some 4, some 5, some 6, some 7] ⟨hil, .inr ⟨rfl, hrun⟩⟩ (by dsimp only; omega)
      | some r =>
        obtain ⟨X', q⟩ := r
        obtain ⟨k1, k2, k3⟩ := updL_ok hp hul
        have hle := updL_le (B := max x.1 key + 1) (X := [x]) (by omega) (fun y hy => by rw [List.mem_singleton.1 hy]; exact ⟨by omega, hx2⟩) hul
        match X', k3, hul, hle with
        | [x'], _, hul, hle =>
          rw [hul] at hu hrun
          dsimp only at hu hrun
          simp (maxSteps := 1000000) (disch := (first | omega | (simp only [lnA, List.length_map, List.length_range, true_and, and_true]; (try omega); done) | fail)) only [go_sem, hnl, hk3, Int.reduceEq, Int.reduceToNat, Nat.reduceAdd, Nat.reduceMul, Nat.reduceEqDiff, ↓reduceIte]
          refine callW [some 6, some 7] [] (hu) ?_
          refine runW ?_
          refine nextW (i + 1, i + 1, x', q, 0, false) [some 0, some 1, some 2, some 3, some 4, some 5, some 6, some 7] ⟨hil, .inl ⟨rfl, rfl, rfl, k2, (hle x' (by simp)).2, hrun⟩⟩ (by dsimp only; omega)
    · obtain rfl : i = n := by omega
      rw [show (ksB W i).drop i = [] from List.drop_eq_nil_of_le (by omega)] at hrun
      have hrs : (trB P i W).run L 0 = some (estV 1 P i x, p) := hrun
      rw [run_some hrs, qTr_ret] at hQ
      have ev := aMeanP_fn (K := 1) (P := P) (C := 1) (N := i) (X := [x]) hg rfl (by omega) (fun y hy => by rw [List.mem_singleton.1 hy]; omega)
      rw [hsum] at ev
      have rse := hest x (by omega)
      have hpf : 2 ^ f ≤ 4096 := Nat.le_trans (Nat.pow_le_pow_right (by decide) (show f ≤ 12 by omega)) (by decide)
      have rs2 : RS 1 (vn (2 ^ f)) := RS_one (a := ((2 ^ f : Nat) : Int)) (by omega) (by omega)
      have o : Fn1 _ _ [.lit (.int .i64 ((2 ^ f : Nat) : Int))] [] (RV (vn (2 ^ f))) [] := rof_fn (n := ((2 ^ f : Nat) : Int)) (by omega) (by omega)
      have ml := rmul_fn (x := estV 1 P i x) (y := vn (2 ^ f)) (rse.mono (by decide)) (rs2.mono (by decide))
      have ad := radd_fn (x := s.1) (y := estV 1 P i x * vn (2 ^ f)) (hA.mono (by omega)) ((RS_mul rse rs2).mono (by decide))
      clear hnone hleaf ih hup
      generalize estV 1 P i x = ee at *
      generalize vn (2 ^ f) = v2 at *
      generalize ee * v2 = pr at *
      generalize s.1 + pr = sm at *
      generalize 2 ^ f = pf at *
      simp (maxSteps := 1000000) (disch := (first | omega | (simp only [lnA, List.length_map, List.length_range, true_and, and_true]; (try omega); done) | fail)) only [go_sem, hml, Int.toNat_natCast, hsh, Int.reduceEq, Int.reduceToNat, Nat.reduceAdd, Nat.reduceMul, Nat.reduceEqDiff, ↓reduceIte]
      refine frzV 6 [amP 1 (P : Int) 1 [x] i] ?_
      refine runW ?_
      refine callV0 (ev) rfl rfl ?_
      simp (maxSteps := 1000000) (disch := (first | omega | (simp only [lnA, List.length_map, List.length_range, true_and, and_true]; (try omega); done) | fail)) only [go_sem, hml, Int.toNat_natCast, hsh, Int.reduceEq, Int.reduceToNat, Nat.reduceAdd, Nat.reduceMul, Nat.reduceEqDiff, ↓reduceIte]
      refine callV0 (o) rfl rfl ?_
      refine runW ?_
      refine callV0 (ml) rfl rfl ?_
      refine runW ?_
      refine callV0 (ad) rfl rfl ?_
      refine runW ?_
      exact endW [some 0, some 1, some 2, some 3, some 4, some 5] hQ
  · subst he
    by_cases hil : i < n
    ·
      have hN := hnone hrn
      rcases Nat.eq_zero_or_pos f with h0 | h0
      · have hlen : (L.length : Int) = 12 := by omega
        rw [hN.1 h0] at hQ
        subst h0
        have hs1 : IntKind.i64.wrap ((s.2 : Int) + IntKind.i64.wrap (1 * 2 ^ ((12 : Int) - 12).toNat)) = ((s.2 + 1 : Nat) : Int) := by
          rw [show IntKind.i64.wrap (1 * 2 ^ ((12 : Int) - 12).toNat) = 1 from by decide, wrap_i64 (by omega)]; omega
        simp (maxSteps := 1000000) (disch := (first | omega | (simp only [lnA, List.length_map, List.length_range, true_and, and_true]; (try omega); done) | fail)) only [go_sem, hlen, hs1, Int.reduceEq, Int.reduceToNat, Nat.reduceAdd, Nat.reduceMul, Nat.reduceEqDiff, ↓reduceIte]
        exact endW [some 0, some 1, some 2, some 3, some 4, some 5] hQ
      · obtain ⟨g, rfl⟩ : ∃ g, f = g + 1 := ⟨f - 1, by omega⟩
        have h2g : 2 ^ (g + 1) = 2 * 2 ^ g := by rw [Nat.pow_succ, Nat.mul_comm]
        rw [hN.2 g rfl] at hQ
        have c1 := ih g rfl false A s hA (by omega) (by omega)
        have hp1 : 1 ≤ 2 ^ g := Nat.pow_pos (by decide)
        have hrs : RS (A + 12 * 2 ^ g) (qTr ((trB P n W).sub (L ++ [false])) g s).1 := (RS_add hA (sumQr_RS (hleaf false g (by omega)) (by omega))).mono (by omega)
        have hop : (qTr ((trB P n W).sub (L ++ [false])) g s).2 ≤ s.2 + 2 ^ g := Nat.add_le_add_left opQr_le _
        have c2 := ih g rfl true (A + 12 * 2 ^ g) (qTr ((trB P n W).sub (L ++ [false])) g s) hrs (by omega) (by omega)
        generalize qTr ((trB P n W).sub (L ++ [false])) g s = sA at *
        generalize qTr ((trB P n W).sub (L ++ [true])) g sA = sB at *
        simp (maxSteps := 1000000) (disch := (first | omega | (simp only [lnA, List.length_map, List.length_range, true_and, and_true]; (try omega); done) | fail)) only [go_sem, hml, Int.toNat_natCast, hsh, List.take_length, Int.reduceEq, Int.reduceToNat, Nat.reduceAdd, Nat.reduceMul, Nat.reduceEqDiff, ↓reduceIte]
        refine callW [some 0, some 1, some 2, some 3, some 4, some 5] [9] (c1) ?_
        simp (maxSteps := 1000000) (disch := (first | omega | (simp only [lnA, List.length_map, List.length_range, true_and, and_true]; (try omega); done) | fail)) only [go_sem, hml, Int.toNat_natCast, hsh, List.take_length, Int.reduceEq, Int.reduceToNat, Nat.reduceAdd, Nat.reduceMul, Nat.reduceEqDiff, ↓reduceIte]
        refine callW [some 0, some 1, some 2, some 3, some 4, some 5] [11] (c2) ?_
        refine runW ?_
        exact endW [some 0, some 1, some 2, some 3, some 4, some 5] hQ
    ·
      have hN := hnone hrn
      rcases Nat.eq_zero_or_pos f with h0 | h0
      · have hlen : (L.length : Int) = 12 := by omega
        rw [hN.1 h0] at hQ
        subst h0
        have hs1 : IntKind.i64.wrap ((s.2 : Int) + IntKind.i64.wrap (1 * 2 ^ ((12 : Int) - 12).toNat)) = ((s.2 + 1 : Nat) : Int) := by
          rw [show IntKind.i64.wrap (1 * 2 ^ ((12 : Int) - 12).toNat) = 1 from by decide, wrap_i64 (by omega)]; omega
        simp (maxSteps := 1000000) (disch := (first | omega | (simp only [lnA, List.length_map, List.length_range, true_and, and_true]; (try omega); done) | fail)) only [go_sem, hlen, hs1, Int.reduceEq, Int.reduceToNat, Nat.reduceAdd, Nat.reduceMul, Nat.reduceEqDiff, ↓reduceIte]
        exact endW [some 0, some 1, some 2, some 3, some 4, some 5] hQ
      · obtain ⟨g, rfl⟩ : ∃ g, f = g + 1 := ⟨f - 1, by omega⟩
        have h2g : 2 ^ (g + 1) = 2 * 2 ^ g := by rw [Nat.pow_succ, Nat.mul_comm]
        rw [hN.2 g rfl] at hQ
        have c1 := ih g rfl false A s hA (by omega) (by omega)
        have hp1 : 1 ≤ 2 ^ g := Nat.pow_pos (by decide)
        have hrs : RS (A + 12 * 2 ^ g) (qTr ((trB P n W).sub (L ++ [false])) g s).1 := (RS_add hA (sumQr_RS (hleaf false g (by omega)) (by omega))).mono (by omega)
        have hop : (qTr ((trB P n W).sub (L ++ [false])) g s).2 ≤ s.2 + 2 ^ g := Nat.add_le_add_left opQr_le _
        have c2 := ih g rfl true (A + 12 * 2 ^ g) (qTr ((trB P n W).sub (L ++ [false])) g s) hrs (by omega) (by omega)
        generalize qTr ((trB P n W).sub (L ++ [false])) g s = sA at *
        generalize qTr ((trB P n W).sub (L ++ [true])) g sA = sB at *
        simp (maxSteps := 1000000) (disch := (first | omega | (simp only [lnA, List.length_map, List.length_range, true_and, and_true]; (try omega); done) | fail)) only [go_sem, hml, Int.toNat_natCast, hsh, List.take_length, Int.reduceEq, Int.reduceToNat, Nat.reduceAdd, Nat.reduceMul, Nat.reduceEqDiff, ↓reduceIte]
        refine callW [some 0, some 1, some 2, some 3, some 4, some 5] [9] (c1) ?_
        simp (maxSteps := 1000000) (disch := (first | omega | (simp only [lnA, List.length_map, List.length_range, true_and, and_true]; (try omega); done) | fail)) only [go_sem, hml, Int.toNat_natCast, hsh, List.take_length, Int.reduceEq, Int.reduceToNat, Nat.reduceAdd, Nat.reduceMul, Nat.reduceEqDiff, ↓reduceIte]
        refine callW [some 0, some 1, some 2, some 3, some 4, some 5] [11] (c2) ?_
        refine runW ?_
        exact endW [some 0, some 1, some 2, some 3, some 4, some 5] hQ
theorem walkB_fn {P n : Nat} {W : List Nat} (hg : goodA 1 P 1) (hn : n ≤ 3) (hnW : n ≤ W.length) (hWl : W.length ≤ 9223372036854775807) (hWb : ∀ k ∈ W, k < 18446744073709551616) (hest : ∀ x : Nat × Nat, x.2 ≤ 4 → RS 9 (estV 1 P n x)) : ∀ (f : Nat) (A : Nat) (L : List Bool) (s : Rat × Nat), L.length + f = 12 →
    RS A s.1 → A + 12 * 2 ^ f ≤ 300000 → s.2 + 2 ^ f ≤ 1000000 →
    Fn1 Try.prog 6 (argsBm L) (wkBm P n W s) (.tup []) (wkBm P n W (qTr ((trB P n W).sub L) f s)) := by
  intro f
  induction f with
  | zero => intro A L s h hA h1 h2; exact walkB_step hg hn hnW hWl hWb h hA h1 h2 hest (fun g hg => absurd hg (by omega))
  | succ f ih =>
    intro A L s h hA h1 h2
    refine walkB_step hg hn hnW hWl hWb h hA h1 h2 hest (fun g hg v A' s' k0 k1 k2 => ?_)
    obtain rfl : g = f := by omega
    exact ih A' (L ++ [v]) s' (by simp; omega) k0 k1 k2
end Go.Proofs.Ytpkfddfkacijoaa
