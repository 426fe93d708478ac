import Derived.Test.YtdohmppildfjhaaGreatGm
namespace Go.Proofs.YtdohmppildfjhaaGreat
open Go.Eng Go.Vx
set_option linter.unusedSimpArgs false
set_option linter.unusedVariables false
set_option maxRecDepth 100000
theorem pw1_fn {k a w : Nat} {s : Nat × Nat × Bool} (hg : goodN k a w) (hw : wellN k a w s) : Fn1 Tryz.prog 48 [sR s, cpP k a w] [] (.lit (.bool false)) [] := by
 have h := rWell_fn hg hw
 obtain ⟨K, T, F⟩ := s
 refine fn1N_of pl48 (by kernel_rfl) Tryz.call48 Tryz.func48 rfl (by kernel_rfl) rfl [.tmp 3] (by kernel_rfl) fun Q hQ => ?_
 repeat (first | (refine callV0 (h) rfl rfl ?_) | (simp (maxSteps := 1000000) (disch := (first | omega | (simp only [lnA, List.length_map, List.length_range, true_and, and_true]; (try omega); done) | fail)) only [go_sem, Bool.not_true, Int.reduceEq, Int.reduceToNat, Nat.reduceAdd, Nat.reduceMul, Nat.reduceEqDiff, ↓reduceIte]))
 exact endW [] hQ
theorem pidx_fn {k a w : Nat} {s : Nat × Nat × Bool} (hg : goodN k a w) (hw : wellN k a w s) : Fn1 Tryz.prog 85 [.row 3 [[.lit (.int .i64 (s.1 : Int)), .lit (.int .i64 (s.2.1 : Int)), .lit (.bool s.2.2)]], .clo 48 [cpP k a w]] [] (.lit (.int .i64 (-1))) [] := by
 have h := pw1_fn hg hw
 obtain ⟨K, T, F⟩ := s
 refine fn1N_of pl85 (by kernel_rfl) Tryz.call85 Tryz.func85 rfl (by kernel_rfl) rfl [.tmp 4] (by kernel_rfl) fun Q hQ => ?_
 refine runW ?_
 refine loopW (X := Nat) (st := fun i => ([(0, .row 3 [[.lit (.int .i64 (K : Int)), .lit (.int .i64 (T : Int)), .lit (.bool F)]]), (1, .clo 48 [cpP k a w]), (6, .row 3 [[.lit (.int .i64 (K : Int)), .lit (.int .i64 (T : Int)), .lit (.bool F)]]), (7, .lit (.int .i64 ((1 : Nat) : Int))), (8, .lit (.int .i64 (i : Int)))], []))
  (inv := fun i => i = 0 ∨ i = 1) (m := fun i => 1 - i) 0 [] (.inl rfl) ?_
 rintro i (rfl | rfl)
 ·
  refine runW ?_
  refine callV0 (h) rfl rfl ?_
  refine runW ?_
  refine nextW 1 [] (.inr rfl) (by omega)
 ·
  refine runW ?_
  exact endW [] hQ
theorem pcont_fn {k a w : Nat} {s : Nat × Nat × Bool} (hg : goodN k a w) (hw : wellN k a w s) : Fn1 Tryz.prog 47 [.row 3 [[.lit (.int .i64 (s.1 : Int)), .lit (.int .i64 (s.2.1 : Int)), .lit (.bool s.2.2)]], .clo 48 [cpP k a w]] [] (.lit (.bool false)) [] := by
 have h := pidx_fn hg hw
 obtain ⟨K, T, F⟩ := s
 refine fn1N_of pl47 (by kernel_rfl) Tryz.call47 Tryz.func47 rfl (by kernel_rfl) rfl [.tmp 4] (by kernel_rfl) fun Q hQ => ?_
 repeat (first | (refine callV0 (h) rfl rfl ?_) | (refine runW ?_))
 exact endW [] hQ
set_option maxHeartbeats 1000000 in
theorem pwrong_fn {k a w : Nat} {s : Nat × Nat × Bool} (hg : goodN k a w) (hw : wellN k a w s) : Fn1 Tryz.prog 14 [pR k a w, .row 3 [[.lit (.int .i64 (s.1 : Int)), .lit (.int .i64 (s.2.1 : Int)), .lit (.bool s.2.2)]]] [] (.lit (.int .i64 0)) [] := by
 have rc := rCheck_fn hg
 have h := pcont_fn hg hw
 obtain ⟨K, T, F⟩ := s
 refine fn1N_of pl14 (by kernel_rfl) Tryz.call14 Tryz.func14 rfl (by kernel_rfl) rfl [.tmp 4] (by kernel_rfl) fun Q hQ => ?_
 refine runW ?_
 refine callV0 (rc) rfl rfl ?_
 refine runW ?_
 refine callT (h) ?_
 refine runW ?_
 exact endW [] hQ
theorem pstates_fn {k a w : Nat} (hk : k ≠ 4) (hw : w ≤ 10) : Fn1 Tryz.prog 15 [pR k a w] [] (.lit (.int .i64 ((2 ^ w : Nat) : Int))) [] := by
 have hs := shW (k := w) (by omega)
 have hk4 : ¬ (k : Int) = 4 := by omega
 refine fn1N_of pl15 (by kernel_rfl) Tryz.call15 Tryz.func15 rfl (by kernel_rfl) rfl [.tmp 2] (by kernel_rfl) fun Q hQ => ?_
 simp (maxSteps := 1000000) (disch := (first | omega | (simp only [lnA, List.length_map, List.length_range, true_and, and_true]; (try omega); done) | fail)) only [go_sem, hs, Int.toNat_natCast, Int.reduceEq, Int.reduceToNat, Nat.reduceAdd, Nat.reduceMul, Nat.reduceEqDiff, ↓reduceIte]
 exact endW [] hQ
set_option maxHeartbeats 4000000 in
theorem pof_fn {k a w n : Nat} (hs : smallG k a w) (hn : n ≤ 16) :
  Fn1 Tryz.prog 6 [pR k a w, kyS (0, 0, false), .lit (.int .i64 (n : Int))] [] (.tup [.sl 0 6 0 (atD (itD k a w n)).length, .lit (.int .i64 0)]) [some (.row 6 ((atD (itD k a w n)).map enA))] := by
 obtain ⟨hg, h4⟩ := smallG_good hs
 have hp : 2 ^ w ≤ 2 ^ 4 := Nat.pow_le_pow_right (by decide) hs.2.2
 have wr : Fn1 Tryz.prog 14 [pR k a w, .row 3 [[.lit (.int .i64 0), .lit (.int .i64 0), .lit (.bool false)]]] [] (.lit (.int .i64 0)) [] := pwrong_fn (s := (0, 0, false)) hg (by unfold wellN; rw [if_neg h4]; exact ⟨rfl, Nat.zero_le _, by simp⟩)
 have st := pstates_fn (k := k) (a := a) (w := w) h4 (by have := hs.2.2; omega)
 have su := psure_fn (k := (0, 0, false))
 have hi0 : enM [(((0, 0, false) : Ky), (1 : Rat))] = enM (itD k a w 0) := rfl
 rw [hi0] at su
 have hfin := it_ok hs n
 have hlen := hfin.len
 have hpow : 2 ^ n ≤ 2 ^ 16 := Nat.pow_le_pow_right (by decide) hn
 have fat := patoms_fn hfin.nd hfin.ne (hfin.rs hs (by omega)) (by omega)
 have hst : (2 ^ w : Nat) ≤ 16 := hp
 have hmul : ((n : Int) + 1) * ((2 ^ w : Nat) : Int) = (((n + 1) * 2 ^ w : Nat) : Int) := by simp
 have hml : (n + 1) * 2 ^ w ≤ 17 * 16 := Nat.mul_le_mul (by omega) hst
 clear hfin hlen
 generalize hA : atD (itD k a w n) = A at *
 generalize (n + 1) * 2 ^ w = cost at *
 generalize 2 ^ w = two at *
 refine fn1N_of pl6 (by kernel_rfl) Tryz.call6 Tryz.func6 rfl (by kernel_rfl) rfl [.tmp 6, .tmp 7] (by kernel_rfl) fun Q hQ => ?_
 refine runW ?_
 refine callW [] [2] (wr) ?_
 refine runW ?_
 refine callV0 (st) rfl rfl ?_
 simp (maxSteps := 1000000) (disch := (first | omega | (simp only [lnA, List.length_map, List.length_range, true_and, and_true]; (try omega); done) | fail)) only [go_sem, hmul, Int.reduceEq, Int.reduceToNat, Nat.reduceAdd, Nat.reduceMul, Nat.reduceEqDiff, ↓reduceIte]
 refine callW [] [] (su) ?_
 refine runW ?_
 refine loopW (X := Nat) (st := fun i => ([(3, cpP k a w), (9, .mref 0), (34, .lit (.int .i64 (n : Int))), (35, .lit (.int .i64 (i : Int)))], [some (.map (enM (itD k a w i)))]))
  (inv := fun i => i ≤ n) (m := fun i => n - i) 0 [some 3] (Nat.zero_le _) ?_
 intro i hi
 by_cases hlt : i < n
 ·
  have hI := it_ok hs i
  have hpi : 2 ^ i ≤ 2 ^ 16 := Nat.pow_le_pow_right (by decide) (by omega)
  have hil := hI.len
  have hN : ∀ e ∈ atD (itD k a w i), NxOk 18 k a w (stepD k a w) e.1 := fun e he => by
   have hok := (hI.all e (at_mem he).1).1
   have hst := step_ok hs hok
   obtain ⟨K, h1, h2, h3, h5⟩ := hok
   obtain ⟨⟨eK, eT, eF⟩, x⟩ := e
   dsimp only at h1 h2 h3 h5
   subst h1
   exact ⟨pofc_fn hs h2, hst.nd, hst.ne, hst.rs hs (by decide), Nat.le_trans hst.len (by decide)⟩
  have hm : ∀ x ∈ atD (itD k a w i), ∀ b ∈ atD (stepD k a w x.1), RS 400000 (x.2 * b.2) := fun x hx b hb => by
   have h1 := hI.all x (at_mem hx).1
   have hst := step_ok hs h1.1
   have r1 := RS_isI (Nat.ne_of_gt (Nat.pow_pos (Nat.pos_of_ne_zero (Dk_ok hs).2))) (Dk_len hs (show i ≤ 17 by omega)) h1.2.1 (hI.one (at_mem hx).1) h1.2.2
   have r2 := RS_isI (Nat.ne_of_gt (Nat.pow_pos (Nat.pos_of_ne_zero (Dk_ok hs).2))) (Dk_len hs (show 1 ≤ 17 by decide)) (hst.all b (at_mem hb).1).2.1 (hst.one (at_mem hb).1) (hst.all b (at_mem hb).1).2.2
   exact (RS_mul r1 r2).mono (by decide)
  have ti := ptimes_fn (kd := k) (a := a) (w := w) hI.nd hI.ne (hI.rs hs (by omega)) (by omega) hN hm (fun i' hi' j => part_rs hs (by omega) hI hi')
  rw [show timesD (itD k a w i) (stepD k a w) = itD k a w (i + 1) from rfl] at ti
  have e1 : (i : Int) + 1 = ((i + 1 : Nat) : Int) := by omega
  clear hN hm hI
  generalize itD k a w i = cur at *
  generalize hnx : itD k a w (i + 1) = nxt at *
  refine runW ?_
  refine callW [some 0] [] (ti) ?_
  refine runW ?_
  refine NextV_of (i + 1) [some 1] rfl (by simp only [hnx]; (simp (disch := (first | omega | (simp only [lnA, List.length_map, List.length_range, true_and, and_true]; (try omega); done) | fail)) only [go_sem, Int.reduceEq, Int.reduceToNat, Nat.reduceAdd, Nat.reduceMul, Nat.reduceEqDiff, ↓reduceIte, true_and, and_true, and_self, List.drop_zero, List.take_length, Nat.le_refl, V.lit.injEq, Value.int.injEq, Value.bool.injEq]; try (first | omega | (simp; done) | (simp; omega)))) (by simp (disch := (first | omega | (simp only [lnA, List.length_map, List.length_range, true_and, and_true]; (try omega); done) | fail)) only [go_sem, Int.reduceEq, Int.reduceToNat, Nat.reduceAdd, Nat.reduceMul, Nat.reduceEqDiff, ↓reduceIte, true_and, and_true, and_self, List.drop_zero, List.take_length, Nat.le_refl, V.lit.injEq, Value.int.injEq, Value.bool.injEq]; try (first | omega | (simp; done) | (simp; omega))) (by omega) (by omega)
 ·
  have hin : i = n := by omega
  subst hin
  refine runW ?_
  refine callW [some 0] [] (fat) ?_
  refine runW ?_
  exact endW [some 1] hQ
end Go.Proofs.YtdohmppildfjhaaGreat
