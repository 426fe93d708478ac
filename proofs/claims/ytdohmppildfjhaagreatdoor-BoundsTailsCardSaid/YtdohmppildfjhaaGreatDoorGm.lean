import Derived.Test.YtdohmppildfjhaaGreatDoorGk
namespace Go.Proofs.YtdohmppildfjhaaGreatDoor
open Go.Eng Go.Vx
set_option linter.unusedSimpArgs false
set_option linter.unusedVariables false
def Dk (k a : Nat) : Nat := if k = 1 then (a + 1) ^ 15 else 2 ^ 30
def kas : List (Nat × Nat) := [(1, 1), (1, 2), (1, 3), (1, 4), (2, 0), (2, 1), (3, 1), (3, 2)]
theorem kas_mem {k a w : Nat} (h : smallG k a w) : (k, a) ∈ kas := by
 obtain ⟨h, -⟩ := h
 have : (k = 1 ∧ a = 1) ∨ (k = 1 ∧ a = 2) ∨ (k = 1 ∧ a = 3) ∨ (k = 1 ∧ a = 4) ∨ (k = 2 ∧ a = 0) ∨ (k = 2 ∧ a = 1) ∨ (k = 3 ∧ a = 1) ∨ (k = 3 ∧ a = 2) := by omega
 rcases this with ⟨rfl, rfl⟩ | ⟨rfl, rfl⟩ | ⟨rfl, rfl⟩ | ⟨rfl, rfl⟩ | ⟨rfl, rfl⟩ | ⟨rfl, rfl⟩ | ⟨rfl, rfl⟩ | ⟨rfl, rfl⟩ <;> decide
theorem ch_key : ∀ ka ∈ kas, ∀ K ∈ List.range 16, ((chX ka.1 ka.2 K * ((Dk ka.1 ka.2 : Nat) : Int)).den = 1 ∧ 0 ≤ chX ka.1 ka.2 K ∧ chX ka.1 ka.2 K ≤ 1) ∧ Dk ka.1 ka.2 < 2 ^ 35 ∧ Dk ka.1 ka.2 ≠ 0 := by decide +kernel
theorem ch_ok {k a w K : Nat} (h : smallG k a w) (hK : K ≤ 15) : isI (Dk k a) (chX k a K) ∧ 0 ≤ chX k a K ∧ chX k a K ≤ 1 := by
 obtain ⟨⟨h1, h2, h3⟩, -⟩ := ch_key _ (kas_mem h) K (List.mem_range.2 (by omega))
 refine ⟨⟨(chX k a K * ((Dk k a : Nat) : Int)).num, ?_⟩, h2, h3⟩
 dsimp only at h1
 generalize chX k a K * ((Dk k a : Nat) : Int) = y at *
 exact Rat.ext rfl h1
theorem Dk_ok {k a w : Nat} (h : smallG k a w) : Dk k a < 2 ^ 35 ∧ Dk k a ≠ 0 := (ch_key _ (kas_mem h) 0 (by decide)).2
theorem wg_pw {n c : Nat} (h : 35 * n < 64 * c) : (wg (2 ^ (35 * n))).length ≤ c := wg_bl (bl_le_of (Nat.pow_lt_pow_right (by decide) h))
theorem Dk_len {k a w n : Nat} (h : smallG k a w) (hn : n ≤ 17) : (wg (Dk k a ^ n)).length ≤ 10 := by
 obtain ⟨h1, h2⟩ := Dk_ok h
 refine Nat.le_trans (wg_mono (Nat.pow_le_pow_left (Nat.le_of_lt h1) n)) ?_
 rw [← Nat.pow_mul]
 exact wg_pw (by omega)
def okS (w : Nat) (s : Ky) : Prop := ∃ K : Nat, s.1 = (K : Int) ∧ K ≤ 2 ^ w - 1 ∧ s.2.1 = 0 ∧ (s.2.2 = true → K = 2 ^ w - 1)
def eI (w N : Nat) (s : Ky) (x : Rat) : Prop := okS w s ∧ 0 ≤ x ∧ isI N x
theorem eI_add {w N : Nat} (k : Ky) (x y : Rat) (hx : eI w N k x) (hy : eI w N k y) : eI w N k (x + y) := ⟨hx.1, by have := hx.2.1; have := hy.2.1; grind, isI_add hx.2.2 hy.2.2⟩
structure StI (k a w n : Nat) (l : Ds) : Prop where
 nd : ndK l
 all : allE (eI w (Dk k a ^ n)) l
 mass : EX (fun _ => 1) l = 1
 len : l.length ≤ 2 ^ n
theorem StI.one {k a w n : Nat} {l : Ds} (h : StI k a w n l) {e : Ky × Rat} (he : e ∈ l) : e.2 ≤ 1 := by
 obtain ⟨s, x⟩ := e
 have := EX_one_le (fun e he => (h.all e he).2.1) he
 rw [h.mass] at this
 exact this
theorem StI.rs {k a w n : Nat} {l : Ds} (h : StI k a w n l) (hs : smallG k a w) (hn : n ≤ 17) : ∀ e ∈ l, RS 400000 e.2 := fun e he =>
 (RS_isI (Nat.ne_of_gt (Nat.pow_pos (Nat.pos_of_ne_zero (Dk_ok hs).2))) (Dk_len hs hn) (h.all e he).2.1 (h.one he) (h.all e he).2.2).mono (by decide)
theorem StI.ne {k a w n : Nat} {l : Ds} (h : StI k a w n l) : nzD l ≠ [] := fun e => by
 have h1 := EX_nz (fun _ => 1) l
 rw [e, h.mass] at h1
 exact absurd h1 (by decide +kernel)
theorem StI.start {k a w : Nat} : StI k a w 0 [((0, 0, false), 1)] where
 nd := by simp [ndK]
 all := fun e he => by
  simp at he
  subst he
  exact ⟨⟨0, rfl, Nat.zero_le _, rfl, by simp⟩, by decide +kernel, isI_one _⟩
 mass := by simp only [EX]; grind
 len := by simp
theorem EX_eit (g : Ky → Rat) (x : Rat) (s o : Ky) : EX g (eitD x s o) = x * g s + (1 - x) * g o := by
 unfold eitD
 rw [EX_add, EX_add]
 simp only [EX]
 grind
def stT (k a w : Nat) (g : Ky → Rat) (s : Ky) : Rat := if s.1 = ((2 ^ w - 1 : Nat) : Int) then g (s.1, s.2.1, true) else chX k a s.1.toNat * g (s.1 + 1, s.2.1, s.2.2) + (1 - chX k a s.1.toNat) * g s
theorem EX_step (k a w : Nat) (g : Ky → Rat) (s : Ky) : EX g (stepD k a w s) = stT k a w g s := by
 unfold stepD stT
 split
 ·
  simp only [EX]; grind
 ·
  exact EX_eit _ _ _ _
theorem step_ok {k a w : Nat} (hs : smallG k a w) {s : Ky} (h : okS w s) : StI k a w 1 (stepD k a w s) := by
 obtain ⟨K, hK, hK2, hT, hF⟩ := h
 obtain ⟨sK, sT, sF⟩ := s
 dsimp only at hK hT hF
 subst hK hT
 have hp : 2 ^ w ≤ 2 ^ 4 := Nat.pow_le_pow_right (by decide) hs.2.2
 have hmass : EX (fun _ => 1) (stepD k a w ((K : Int), 0, sF)) = 1 := by
  rw [EX_step]
  unfold stT
  split
  ·
   rfl
  ·
   generalize chX k a (((K : Int), (0 : Int), sF) : Ky).1.toNat = x
   grind
 unfold stepD at hmass ⊢
 dsimp only at hmass ⊢
 by_cases hKt : (K : Int) = ((2 ^ w - 1 : Nat) : Int)
 ·
  rw [if_pos hKt] at hmass ⊢
  refine ⟨by simp [ndK], fun e he => ?_, hmass, by simp⟩
  simp at he
  subst he
  exact ⟨⟨K, rfl, hK2, rfl, fun _ => by omega⟩, (show (0 : Rat) ≤ 1 by decide +kernel), isI_one _⟩
 ·
  rw [if_neg hKt] at hmass ⊢
  have hFf : sF = false := by
   cases sF with
   | false => rfl
   | true => exact absurd (hF rfl) (by omega)
  subst hFf
  rw [Int.toNat_natCast] at hmass ⊢
  obtain ⟨c1, c2, c3⟩ := ch_ok hs (K := K) (by omega)
  generalize chX k a K = x at *
  have c1' : isI (Dk k a ^ 1) x := by rw [Nat.pow_one]; exact c1
  have c2' : isI (Dk k a ^ 1) (1 - x) := by rw [Nat.pow_one]; exact isI_sub c1
  refine ⟨addD_nd (addD_nd (by simp [ndK])), ?_, hmass, ?_⟩
  ·
   refine addD_all eI_add (addD_all eI_add (fun e he => by simp at he) ?_) ?_
   ·
    exact ⟨⟨K + 1, by simp, by omega, rfl, by simp⟩, c2, c1'⟩
   ·
    exact ⟨⟨K, rfl, hK2, rfl, by simp⟩, by grind, c2'⟩
  ·
   unfold eitD addD
   refine Nat.le_trans (put_len _ _ _) ?_
   have := put_len (((K : Int) + 1, 0, false) : Ky) ((look (((K : Int) + 1, 0, false) : Ky) []).getD 0 + x) []
   simp only [List.length_nil] at this
   omega
def itD (k a w : Nat) : Nat → Ds
 | 0 => [((0, 0, false), 1)]
 | n + 1 => timesD (itD k a w n) (stepD k a w)
theorem StI.next {k a w n : Nat} {l : Ds} (hs : smallG k a w) (h : StI k a w n l) : StI k a w (n + 1) (timesD l (stepD k a w)) where
 nd := ou_nd _ _ (by simp [ndK])
 all := ou_all eI_add (fun x hx b hb => by
  have hl := h.all x (at_mem hx).1
  have hst := (step_ok hs hl.1).all b (at_mem hb).1
  refine ⟨hst.1, Rat.mul_nonneg hl.2.1 hst.2.1, ?_⟩
  have := isI_mul hl.2.2 hst.2.2
  rw [Nat.pow_one] at this
  rw [Nat.pow_succ]
  exact this) (fun e he => by simp at he)
 mass := by
  exact (EX_times _ _ _).trans ((EX_congr fun x hx => (step_ok hs (h.all x hx).1).mass).trans h.mass)
 len := by
  refine Nat.le_trans (ou_len (c := 2) _ (fun x hx => ?_) _) ?_
  ·
   exact (step_ok hs (h.all x (at_mem hx).1).1).len
  ·
   have h1 := at_len l
   have h2 := h.len
   rw [Nat.pow_succ]
   simp only [List.length_nil]
   omega
theorem it_ok {k a w : Nat} (hs : smallG k a w) : ∀ n, StI k a w n (itD k a w n)
 | 0 => StI.start
 | n + 1 => (it_ok hs n).next hs
def itT (k a w : Nat) (g : Ky → Rat) : Nat → Ky → Rat
 | 0 => g
 | n + 1 => stT k a w (itT k a w g n)
theorem EX_it {k a w : Nat} (g : Ky → Rat) : ∀ n, EX g (itD k a w n) = itT k a w g n (0, 0, false) := by
 have key : ∀ n m, EX (itT k a w g m) (itD k a w n) = itT k a w g (n + m) (0, 0, false) := by
  intro n
  induction n with
  | zero => intro m; simp only [itD, EX, Nat.zero_add]; grind
  | succ n ih =>
   intro m
   unfold itD
   rw [EX_times]
   have e : (fun s => EX (itT k a w g m) (stepD k a w s)) = itT k a w g (m + 1) := by
    funext s
    exact EX_step _ _ _ _ _
   rw [e, ih (m + 1)]
   congr 1
   omega
 intro n
 exact key n 0
theorem part_rs {k a w n : Nat} {l : Ds} (hs : smallG k a w) (hn : n ≤ 16) (h : StI k a w n l) {i j : Nat} (hi : i < (atD l).length) :
  ∀ e ∈ inD ((atD l).getD i default).2 ((atD (stepD k a w ((atD l).getD i default).1)).take j) (ouD (stepD k a w) ((atD l).take i) []), RS 400000 e.2 := by
 have hag := getD_mem (L := atD l) hi
 have hts := takeD_snoc (L := atD l) hi
 generalize hA : (atD l).getD i default = ag at *
 have hl := h.all ag (at_mem hag).1
 have hst := step_ok hs hl.1
 have hpos : ∀ e ∈ atD l, 0 ≤ e.2 := fun e he => (h.all e (at_mem he).1).2.1
 have hall : allE (eI w (Dk k a ^ (n + 1))) (inD ag.2 ((atD (stepD k a w ag.1)).take j) (ouD (stepD k a w) ((atD l).take i) [])) := by
  refine in_all eI_add (fun b hb => ?_) (ou_all eI_add (fun x hx b hb => ?_) (fun e he => by simp at he))
  ·
   have hb' := hst.all b (at_mem (List.mem_of_mem_take hb)).1
   refine ⟨hb'.1, Rat.mul_nonneg hl.2.1 hb'.2.1, ?_⟩
   have := isI_mul hl.2.2 hb'.2.2
   rw [Nat.pow_one] at this
   rw [Nat.pow_succ]
   exact this
  ·
   have hl' := h.all x (at_mem (List.mem_of_mem_take hx)).1
   have hb' := (step_ok hs hl'.1).all b (at_mem hb).1
   refine ⟨hb'.1, Rat.mul_nonneg hl'.2.1 hb'.2.1, ?_⟩
   have := isI_mul hl'.2.2 hb'.2.2
   rw [Nat.pow_one] at this
   rw [Nat.pow_succ]
   exact this
 have hm : EX (fun _ => 1) (inD ag.2 ((atD (stepD k a w ag.1)).take j) (ouD (stepD k a w) ((atD l).take i) [])) ≤ 1 := by
  rw [EX_in, EX_ou]
  have e1 : EX (fun s => EX (fun _ => 1) (stepD k a w s)) ((atD l).take i) = EX (fun _ => 1) ((atD l).take i) :=
   EX_congr fun x hx => (step_ok hs (h.all x (at_mem (List.mem_of_mem_take hx)).1).1).mass
  rw [e1]
  have e2 := EX1_mono (L := atD (stepD k a w ag.1)) (fun e he => (hst.all e (at_mem he).1).2.1) j
  rw [EX_at, hst.mass] at e2
  have e3 := EX1_mono hpos (i + 1)
  rw [hts, EX_app, EX_at, h.mass] at e3
  have e4 := Rat.mul_le_mul_of_nonneg_left e2 hl.2.1
  obtain ⟨s, x⟩ := ag
  simp only [EX] at e3 ⊢
  grind
 intro e he
 have h1 := hall e he
 have h2 : e.2 ≤ 1 := by
  obtain ⟨s, x⟩ := e
  have := EX_one_le (fun e he => (hall e he).2.1) he
  dsimp only
  grind
 exact (RS_isI (Nat.ne_of_gt (Nat.pow_pos (Nat.pos_of_ne_zero (Dk_ok hs).2))) (Dk_len hs (by omega)) h1.2.1 h2 h1.2.2).mono (by decide)
set_option maxRecDepth 100000
theorem pw1_fn {k a w : Nat} {s : Nat × Nat × Bool} (hg : goodN k a w) (hw : wellN k a w s) : Fn1 Tryz.prog 63 [sR s, cpP k a w] [] (.lit (.bool false)) [] := by
 have h := rWell_fn hg hw
 obtain ⟨K, T, F⟩ := s
 refine fn1N_of pl63 (by kernel_rfl) Tryz.call63 Tryz.func63 rfl (by kernel_rfl) rfl [.tmp 3] (by kernel_rfl) fun Q hQ => ?_
 repeat (first | (refine callV0 (h) rfl rfl ?_) | (simp (maxSteps := 1000000) (disch := (first | omega | (simp only [lnA, List.length_map, List.length_range, true_and, and_true]; (try omega); done) | fail)) only [go_sem, Bool.not_true, Int.reduceEq, Int.reduceToNat, Nat.reduceAdd, Nat.reduceMul, Nat.reduceEqDiff, ↓reduceIte]))
 exact endW [] hQ
theorem pidx_fn {k a w : Nat} {s : Nat × Nat × Bool} (hg : goodN k a w) (hw : wellN k a w s) : Fn1 Tryz.prog 100 [.row 3 [[.lit (.int .i64 (s.1 : Int)), .lit (.int .i64 (s.2.1 : Int)), .lit (.bool s.2.2)]], .clo 63 [cpP k a w]] [] (.lit (.int .i64 (-1))) [] := by
 have h := pw1_fn hg hw
 obtain ⟨K, T, F⟩ := s
 refine fn1N_of pl100 (by kernel_rfl) Tryz.call100 Tryz.func100 rfl (by kernel_rfl) rfl [.tmp 4] (by kernel_rfl) fun Q hQ => ?_
 refine runW ?_
 refine loopW (X := Nat) (st := fun i => ([(0, .row 3 [[.lit (.int .i64 (K : Int)), .lit (.int .i64 (T : Int)), .lit (.bool F)]]), (1, .clo 63 [cpP k a w]), (6, .row 3 [[.lit (.int .i64 (K : Int)), .lit (.int .i64 (T : Int)), .lit (.bool F)]]), (7, .lit (.int .i64 ((1 : Nat) : Int))), (8, .lit (.int .i64 (i : Int)))], []))
  (inv := fun i => i = 0 ∨ i = 1) (m := fun i => 1 - i) 0 [] (.inl rfl) ?_
 rintro i (rfl | rfl)
 ·
  refine runW ?_
  refine callV0 (h) rfl rfl ?_
  refine runW ?_
  refine nextW 1 [] (.inr rfl) (by omega)
 ·
  refine runW ?_
  exact endW [] hQ
theorem pcont_fn {k a w : Nat} {s : Nat × Nat × Bool} (hg : goodN k a w) (hw : wellN k a w s) : Fn1 Tryz.prog 62 [.row 3 [[.lit (.int .i64 (s.1 : Int)), .lit (.int .i64 (s.2.1 : Int)), .lit (.bool s.2.2)]], .clo 63 [cpP k a w]] [] (.lit (.bool false)) [] := by
 have h := pidx_fn hg hw
 obtain ⟨K, T, F⟩ := s
 refine fn1N_of pl62 (by kernel_rfl) Tryz.call62 Tryz.func62 rfl (by kernel_rfl) rfl [.tmp 4] (by kernel_rfl) fun Q hQ => ?_
 repeat (first | (refine callV0 (h) rfl rfl ?_) | (refine runW ?_))
 exact endW [] hQ
set_option maxHeartbeats 1000000 in
theorem pwrong_fn {k a w : Nat} {s : Nat × Nat × Bool} (hg : goodN k a w) (hw : wellN k a w s) : Fn1 Tryz.prog 29 [pR k a w, .row 3 [[.lit (.int .i64 (s.1 : Int)), .lit (.int .i64 (s.2.1 : Int)), .lit (.bool s.2.2)]]] [] (.lit (.int .i64 0)) [] := by
 have rc := rCheck_fn hg
 have h := pcont_fn hg hw
 obtain ⟨K, T, F⟩ := s
 refine fn1N_of pl29 (by kernel_rfl) Tryz.call29 Tryz.func29 rfl (by kernel_rfl) rfl [.tmp 4] (by kernel_rfl) fun Q hQ => ?_
 refine runW ?_
 refine callV0 (rc) rfl rfl ?_
 refine runW ?_
 refine callT (h) ?_
 refine runW ?_
 exact endW [] hQ
theorem pstates_fn {k a w : Nat} (hk : k ≠ 4) (hw : w ≤ 10) : Fn1 Tryz.prog 30 [pR k a w] [] (.lit (.int .i64 ((2 ^ w : Nat) : Int))) [] := by
 have hs := shW (k := w) (by omega)
 have hk4 : ¬ (k : Int) = 4 := by omega
 refine fn1N_of pl30 (by kernel_rfl) Tryz.call30 Tryz.func30 rfl (by kernel_rfl) rfl [.tmp 2] (by kernel_rfl) fun Q hQ => ?_
 simp (maxSteps := 1000000) (disch := (first | omega | (simp only [lnA, List.length_map, List.length_range, true_and, and_true]; (try omega); done) | fail)) only [go_sem, hs, Int.toNat_natCast, Int.reduceEq, Int.reduceToNat, Nat.reduceAdd, Nat.reduceMul, Nat.reduceEqDiff, ↓reduceIte]
 exact endW [] hQ
set_option maxHeartbeats 4000000 in
theorem pof_fn {k a w n : Nat} (hs : smallG k a w) (hn : n ≤ 16) :
  Fn1 Tryz.prog 10 [pR k a w, kyS (0, 0, false), .lit (.int .i64 (n : Int))] [] (.tup [.sl 0 6 0 (atD (itD k a w n)).length, .lit (.int .i64 0)]) [some (.row 6 ((atD (itD k a w n)).map enA))] := by
 obtain ⟨hg, h4⟩ := smallG_good hs
 have hp : 2 ^ w ≤ 2 ^ 4 := Nat.pow_le_pow_right (by decide) hs.2.2
 have wr : Fn1 Tryz.prog 29 [pR k a w, .row 3 [[.lit (.int .i64 0), .lit (.int .i64 0), .lit (.bool false)]]] [] (.lit (.int .i64 0)) [] := pwrong_fn (s := (0, 0, false)) hg (by unfold wellN; rw [if_neg h4]; exact ⟨rfl, Nat.zero_le _, by simp⟩)
 have st := pstates_fn (k := k) (a := a) (w := w) h4 (by have := hs.2.2; omega)
 have su := psure_fn (k := (0, 0, false))
 have hi0 : enM [(((0, 0, false) : Ky), (1 : Rat))] = enM (itD k a w 0) := rfl
 rw [hi0] at su
 have hfin := it_ok hs n
 have hlen := hfin.len
 have hpow : 2 ^ n ≤ 2 ^ 16 := Nat.pow_le_pow_right (by decide) hn
 have fat := patoms_fn hfin.nd hfin.ne (hfin.rs hs (by omega)) (by omega)
 have hst : (2 ^ w : Nat) ≤ 16 := hp
 have hmul : ((n : Int) + 1) * ((2 ^ w : Nat) : Int) = (((n + 1) * 2 ^ w : Nat) : Int) := by simp
 have hml : (n + 1) * 2 ^ w ≤ 17 * 16 := Nat.mul_le_mul (by omega) hst
 clear hfin hlen
 generalize hA : atD (itD k a w n) = A at *
 generalize (n + 1) * 2 ^ w = cost at *
 generalize 2 ^ w = two at *
 refine fn1N_of pl10 (by kernel_rfl) Tryz.call10 Tryz.func10 rfl (by kernel_rfl) rfl [.tmp 6, .tmp 7] (by kernel_rfl) fun Q hQ => ?_
 refine runW ?_
 refine callW [] [2] (wr) ?_
 refine runW ?_
 refine callV0 (st) rfl rfl ?_
 simp (maxSteps := 1000000) (disch := (first | omega | (simp only [lnA, List.length_map, List.length_range, true_and, and_true]; (try omega); done) | fail)) only [go_sem, hmul, Int.reduceEq, Int.reduceToNat, Nat.reduceAdd, Nat.reduceMul, Nat.reduceEqDiff, ↓reduceIte]
 refine callW [] [] (su) ?_
 refine runW ?_
 refine loopW (X := Nat) (st := fun i => ([(3, cpP k a w), (9, .mref 0), (34, .lit (.int .i64 (n : Int))), (35, .lit (.int .i64 (i : Int)))], [some (.map (enM (itD k a w i)))]))
  (inv := fun i => i ≤ n) (m := fun i => n - i) 0 [some 3] (Nat.zero_le _) ?_
 intro i hi
 by_cases hlt : i < n
 ·
  have hI := it_ok hs i
  have hpi : 2 ^ i ≤ 2 ^ 16 := Nat.pow_le_pow_right (by decide) (by omega)
  have hil := hI.len
  have hN : ∀ e ∈ atD (itD k a w i), NxOk 33 k a w (stepD k a w) e.1 := fun e he => by
   have hok := (hI.all e (at_mem he).1).1
   have hst := step_ok hs hok
   obtain ⟨K, h1, h2, h3, h5⟩ := hok
   obtain ⟨⟨eK, eT, eF⟩, x⟩ := e
   dsimp only at h1 h2 h3 h5
   subst h1
   exact ⟨pofc_fn hs h2, hst.nd, hst.ne, hst.rs hs (by decide), Nat.le_trans hst.len (by decide)⟩
  have hm : ∀ x ∈ atD (itD k a w i), ∀ b ∈ atD (stepD k a w x.1), RS 400000 (x.2 * b.2) := fun x hx b hb => by
   have h1 := hI.all x (at_mem hx).1
   have hst := step_ok hs h1.1
   have r1 := RS_isI (Nat.ne_of_gt (Nat.pow_pos (Nat.pos_of_ne_zero (Dk_ok hs).2))) (Dk_len hs (show i ≤ 17 by omega)) h1.2.1 (hI.one (at_mem hx).1) h1.2.2
   have r2 := RS_isI (Nat.ne_of_gt (Nat.pow_pos (Nat.pos_of_ne_zero (Dk_ok hs).2))) (Dk_len hs (show 1 ≤ 17 by decide)) (hst.all b (at_mem hb).1).2.1 (hst.one (at_mem hb).1) (hst.all b (at_mem hb).1).2.2
   exact (RS_mul r1 r2).mono (by decide)
  have ti := ptimes_fn (kd := k) (a := a) (w := w) hI.nd hI.ne (hI.rs hs (by omega)) (by omega) hN hm (fun i' hi' j => part_rs hs (by omega) hI hi')
  rw [show timesD (itD k a w i) (stepD k a w) = itD k a w (i + 1) from rfl] at ti
  have e1 : (i : Int) + 1 = ((i + 1 : Nat) : Int) := by omega
  clear hN hm hI
  generalize itD k a w i = cur at *
  generalize hnx : itD k a w (i + 1) = nxt at *
  refine runW ?_
  refine callW [some 0] [] (ti) ?_
  refine runW ?_
  refine NextV_of (i + 1) [some 1] rfl (by simp only [hnx]; (simp (disch := (first | omega | (simp only [lnA, List.length_map, List.length_range, true_and, and_true]; (try omega); done) | fail)) only [go_sem, Int.reduceEq, Int.reduceToNat, Nat.reduceAdd, Nat.reduceMul, Nat.reduceEqDiff, ↓reduceIte, true_and, and_true, and_self, List.drop_zero, List.take_length, Nat.le_refl, V.lit.injEq, Value.int.injEq, Value.bool.injEq]; try (first | omega | (simp; done) | (simp; omega)))) (by simp (disch := (first | omega | (simp only [lnA, List.length_map, List.length_range, true_and, and_true]; (try omega); done) | fail)) only [go_sem, Int.reduceEq, Int.reduceToNat, Nat.reduceAdd, Nat.reduceMul, Nat.reduceEqDiff, ↓reduceIte, true_and, and_true, and_self, List.drop_zero, List.take_length, Nat.le_refl, V.lit.injEq, Value.int.injEq, Value.bool.injEq]; try (first | omega | (simp; done) | (simp; omega))) (by omega) (by omega)
 ·
  have hin : i = n := by omega
  subst hin
  refine runW ?_
  refine callW [some 0] [] (fat) ?_
  refine runW ?_
  exact endW [some 1] hQ
end Go.Proofs.YtdohmppildfjhaaGreatDoor
