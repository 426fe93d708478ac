import Derived.Test.YtdohmppildfjhaaGreatDoorGp
import Derived.Test.YtdohmppildfjhaaGreatDoorGt
import Derived.Test.YtdohmppildfjhaaGreatDoorGu
import Derived.Test.YtdohmppildfjhaaGreatDoorGv
import Derived.Test.YtdohmppildfjhaaGreatDoorGw
import Derived.Test.YtdohmppildfjhaaGreatDoorGq
namespace Go.Proofs.YtdohmppildfjhaaGreatDoor
open Go.Eng Go.Vx
set_option linter.unusedSimpArgs false
set_option linter.unusedVariables false
set_option maxRecDepth 100000
def smN (k a b : Nat) : Prop := (k = 1 ∧ 1 ≤ a ∧ a ≤ 4 ∧ 1 ≤ b ∧ b ≤ 4) ∨ (k = 2 ∧ a ≤ 1 ∧ 1 ≤ b ∧ b ≤ 4) ∨ (k = 3 ∧ 1 ≤ a ∧ a ≤ 2 ∧ 1 ≤ b ∧ b ≤ 4) ∨ (k = 4 ∧ 1 ≤ a ∧ a ≤ 8 ∧ b ≤ 3)
def wi (k a b : Nat) (s : Int × Int × Bool) : Nat × Nat × Bool :=
 if k = 4 then ((s.1 % 8).toNat % (a + 1), (s.2.1 % 4).toNat % (b + 1), s.2.2 && decide ((s.2.1 % 4).toNat % (b + 1) = b))
 else ((s.1 % 16).toNat % (2 ^ b - 1 + 1), 0, s.2.2 && decide ((s.1 % 16).toNat % (2 ^ b - 1 + 1) = 2 ^ b - 1))
theorem natmod {m n : Nat} : ((m : Nat) : Int) % ((n : Int) + 1) = ((m % (n + 1) : Nat) : Int) := by
 rw [show (n : Int) + 1 = ((n + 1 : Nat) : Int) by omega]
 exact (Int.natCast_emod m (n + 1)).symm
set_option maxHeartbeats 1000000 in
theorem within_fn {k a b : Nat} {s : Int × Int × Bool} (ha : a ≤ 8) (hb : b ≤ 4) : Fn1 Tryz.prog 19 [pR k a b, .agg [.lit (.int .i64 s.1), .lit (.int .i64 s.2.1), .lit (.bool s.2.2)]] [] (sR (wi k a b s)) [] := by
 obtain ⟨K, T, F⟩ := s
 unfold wi
 dsimp only
 by_cases h4 : k = 4
 ·
  rw [if_pos h4]
  obtain ⟨x, hx⟩ : ∃ x : Nat, K % 8 = (x : Int) := ⟨(K % 8).toNat, by omega⟩
  obtain ⟨y, hy⟩ : ∃ y : Nat, T % 4 = (y : Int) := ⟨(T % 4).toNat, by omega⟩
  rw [hx, hy, Int.toNat_natCast, Int.toNat_natCast]
  have f1 : ((x : Nat) : Int) % ((a : Int) + 1) = ((x % (a + 1) : Nat) : Int) := natmod
  have f2 : ((y : Nat) : Int) % ((b : Int) + 1) = ((y % (b + 1) : Nat) : Int) := natmod
  have hxl : x % (a + 1) < a + 1 := Nat.mod_lt _ (Nat.succ_pos _)
  have hyl : y % (b + 1) < b + 1 := Nat.mod_lt _ (Nat.succ_pos _)
  generalize x % (a + 1) = x' at *
  generalize y % (b + 1) = y' at *
  have hd : decide ((y' : Int) = (b : Int)) = decide (y' = b) := by rw [decide_eq_decide]; omega
  refine fn1N_of pl19 (by kernel_rfl) Tryz.call19 Tryz.func19 rfl (by kernel_rfl) rfl [.cell 4 26] (by kernel_rfl) fun Q hQ => ?_
  cases F with
  | true =>
   rw [Bool.true_and] at hQ
   simp (maxSteps := 1000000) (disch := (first | omega | (simp only [lnA, List.length_map, List.length_range, true_and, and_true]; (try omega); done) | fail)) only [go_sem, hx, hy, f1, f2, hd, and_self, and_true, Int.reduceEq, Int.reduceToNat, Nat.reduceAdd, Nat.reduceMul, Nat.reduceEqDiff, ↓reduceIte]
   exact endW [] hQ
  | false =>
   rw [Bool.false_and] at hQ
   simp (maxSteps := 1000000) (disch := (first | omega | (simp only [lnA, List.length_map, List.length_range, true_and, and_true]; (try omega); done) | fail)) only [go_sem, hx, hy, f1, f2, hd, and_self, and_true, Int.reduceEq, Int.reduceToNat, Nat.reduceAdd, Nat.reduceMul, Nat.reduceEqDiff, ↓reduceIte]
   exact endW [] hQ
 ·
  rw [if_neg h4]
  obtain ⟨x, hx⟩ : ∃ x : Nat, K % 16 = (x : Int) := ⟨(K % 16).toNat, by omega⟩
  rw [hx, Int.toNat_natCast]
  have hs := shW (k := b) (by omega)
  have hp : 1 ≤ 2 ^ b := Nat.pow_pos (by decide)
  have hp2 : 2 ^ b ≤ 2 ^ 4 := Nat.pow_le_pow_right (by decide) hb
  obtain ⟨m, hm⟩ : ∃ m, 2 ^ b = m + 1 := ⟨2 ^ b - 1, by omega⟩
  rw [hm] at hs hp2
  rw [hm, Nat.add_sub_cancel]
  have he : (((m + 1 : Nat) : Int) - 1) = (m : Int) := by omega
  have f1 : ((x : Nat) : Int) % ((m : Int) + 1) = ((x % (m + 1) : Nat) : Int) := natmod
  have hxl : x % (m + 1) < m + 1 := Nat.mod_lt _ (Nat.succ_pos _)
  generalize x % (m + 1) = x' at *
  have hd : decide ((x' : Int) = (m : Int)) = decide (x' = m) := by rw [decide_eq_decide]; omega
  refine fn1N_of pl19 (by kernel_rfl) Tryz.call19 Tryz.func19 rfl (by kernel_rfl) rfl [.cell 4 26] (by kernel_rfl) fun Q hQ => ?_
  cases F with
  | true =>
   rw [Bool.true_and] at hQ
   simp (maxSteps := 1000000) (disch := (first | omega | (simp only [lnA, List.length_map, List.length_range, true_and, and_true]; (try omega); done) | fail)) only [go_sem, hs, Int.toNat_natCast, he, hx, f1, hd, Int.reduceEq, Int.reduceToNat, Nat.reduceAdd, Nat.reduceMul, Nat.reduceEqDiff, ↓reduceIte]
   exact endW [] hQ
  | false =>
   rw [Bool.false_and] at hQ
   simp (maxSteps := 1000000) (disch := (first | omega | (simp only [lnA, List.length_map, List.length_range, true_and, and_true]; (try omega); done) | fail)) only [go_sem, hs, Int.toNat_natCast, he, hx, f1, hd, Int.reduceEq, Int.reduceToNat, Nat.reduceAdd, Nat.reduceMul, Nat.reduceEqDiff, ↓reduceIte]
   exact endW [] hQ
set_option maxHeartbeats 1000000 in
theorem small17_fn {kk aa bb : Int} : ∃ k a b : Nat, smN k a b ∧ ∀ (s : Int × Int × Bool), Fn1 Tryz.prog 5 [.agg [.lit (.int .i64 kk), .lit (.int .i64 aa), .lit (.int .i64 bb)], .agg [.lit (.int .i64 s.1), .lit (.int .i64 s.2.1), .lit (.bool s.2.2)]] [] (.tup [pR k a b, sR (wi k a b s)]) [] := by
 have t1 : -4 < kk.tmod 4 := by have := Int.lt_tmod_of_pos kk (b := 4) (by decide); omega
 have t2 : kk.tmod 4 < 4 := Int.tmod_lt_of_pos kk (by decide)
 obtain ⟨m, hm, hm4⟩ : ∃ m : Nat, (kk.tmod 4 + 4) % 4 = (m : Int) ∧ m < 4 := ⟨((kk.tmod 4 + 4) % 4).toNat, by omega, by omega⟩
 obtain ⟨a3, ha3, ha3'⟩ : ∃ x : Nat, aa % 4 = (x : Int) ∧ x < 4 := ⟨(aa % 4).toNat, by omega, by omega⟩
 obtain ⟨a1, ha1, ha1'⟩ : ∃ x : Nat, aa % 2 = (x : Int) ∧ x < 2 := ⟨(aa % 2).toNat, by omega, by omega⟩
 obtain ⟨a7, ha7, ha7'⟩ : ∃ x : Nat, aa % 8 = (x : Int) ∧ x < 8 := ⟨(aa % 8).toNat, by omega, by omega⟩
 obtain ⟨bx, hbx, hbx'⟩ : ∃ x : Nat, bb % 256 % 4 = (x : Int) ∧ x < 4 := ⟨(bb % 256 % 4).toNat, by omega, by omega⟩
 obtain ⟨b3, hb3, hb3'⟩ : ∃ x : Nat, bb % 4 = (x : Int) ∧ x < 4 := ⟨(bb % 4).toNat, by omega, by omega⟩
 have e1 : ∀ x : Nat, 1 + (x : Int) = ((1 + x : Nat) : Int) := fun x => by omega
 rcases (show m = 0 ∨ m = 1 ∨ m = 2 ∨ m = 3 by omega) with rfl | rfl | rfl | rfl
 ·
  refine ⟨1, 1 + a3, 1 + bx, .inl ⟨rfl, by omega, by omega, by omega, by omega⟩, fun s => ?_⟩
  have w := within_fn (k := 1) (a := 1 + a3) (b := 1 + bx) (s := s) (by omega) (by omega)
  generalize wi 1 (1 + a3) (1 + bx) s = r at *
  refine fn1N_of pl5 (by kernel_rfl) Tryz.call5 Tryz.func5 rfl (by kernel_rfl) rfl [.cell 4 23, .cell 5 26] (by kernel_rfl) fun Q hQ => ?_
  simp (maxSteps := 1000000) (disch := (first | omega | (simp only [lnA, List.length_map, List.length_range, true_and, and_true]; (try omega); done) | fail)) only [go_sem, hm, ha3, hbx, e1, Int.reduceEq, Int.reduceToNat, Nat.reduceAdd, Nat.reduceMul, Nat.reduceEqDiff, ↓reduceIte]
  refine callV0 (w) rfl rfl ?_
  refine runW ?_
  exact endW [] hQ
 ·
  refine ⟨2, a1, 1 + bx, .inr (.inl ⟨rfl, by omega, by omega, by omega⟩), fun s => ?_⟩
  have w := within_fn (k := 2) (a := a1) (b := 1 + bx) (s := s) (by omega) (by omega)
  generalize wi 2 a1 (1 + bx) s = r at *
  refine fn1N_of pl5 (by kernel_rfl) Tryz.call5 Tryz.func5 rfl (by kernel_rfl) rfl [.cell 4 23, .cell 5 26] (by kernel_rfl) fun Q hQ => ?_
  simp (maxSteps := 1000000) (disch := (first | omega | (simp only [lnA, List.length_map, List.length_range, true_and, and_true]; (try omega); done) | fail)) only [go_sem, hm, ha1, hbx, e1, Int.reduceEq, Int.reduceToNat, Nat.reduceAdd, Nat.reduceMul, Nat.reduceEqDiff, ↓reduceIte]
  refine callV0 (w) rfl rfl ?_
  refine runW ?_
  exact endW [] hQ
 ·
  refine ⟨3, 1 + a1, 1 + bx, .inr (.inr (.inl ⟨rfl, by omega, by omega, by omega, by omega⟩)), fun s => ?_⟩
  have w := within_fn (k := 3) (a := 1 + a1) (b := 1 + bx) (s := s) (by omega) (by omega)
  generalize wi 3 (1 + a1) (1 + bx) s = r at *
  refine fn1N_of pl5 (by kernel_rfl) Tryz.call5 Tryz.func5 rfl (by kernel_rfl) rfl [.cell 4 23, .cell 5 26] (by kernel_rfl) fun Q hQ => ?_
  simp (maxSteps := 1000000) (disch := (first | omega | (simp only [lnA, List.length_map, List.length_range, true_and, and_true]; (try omega); done) | fail)) only [go_sem, hm, ha1, hbx, e1, Int.reduceEq, Int.reduceToNat, Nat.reduceAdd, Nat.reduceMul, Nat.reduceEqDiff, ↓reduceIte]
  refine callV0 (w) rfl rfl ?_
  refine runW ?_
  exact endW [] hQ
 ·
  refine ⟨4, 1 + a7, b3, .inr (.inr (.inr ⟨rfl, by omega, by omega, by omega⟩)), fun s => ?_⟩
  have w := within_fn (k := 4) (a := 1 + a7) (b := b3) (s := s) (by omega) (by omega)
  generalize wi 4 (1 + a7) b3 s = r at *
  refine fn1N_of pl5 (by kernel_rfl) Tryz.call5 Tryz.func5 rfl (by kernel_rfl) rfl [.cell 4 23, .cell 5 26] (by kernel_rfl) fun Q hQ => ?_
  simp (maxSteps := 1000000) (disch := (first | omega | (simp only [lnA, List.length_map, List.length_range, true_and, and_true]; (try omega); done) | fail)) only [go_sem, hm, ha7, hb3, e1, Int.reduceEq, Int.reduceToNat, Nat.reduceAdd, Nat.reduceMul, Nat.reduceEqDiff, ↓reduceIte]
  refine callV0 (w) rfl rfl ?_
  refine runW ?_
  exact endW [] hQ
theorem own17_fn {k a b : Nat} : Fn1 Tryz.prog 7 [pR k a b] [] (pR k a b) [] := by
 refine fn1N_of pl7 (by kernel_rfl) Tryz.call7 Tryz.func7 rfl (by kernel_rfl) rfl [.cell 2 39] (by kernel_rfl) fun Q hQ => ?_
 refine runW ?_
 exact endW [] hQ
theorem chk_all {k a w m n : Nat} (hs : smallG k a w) (hm : 1 ≤ m) (hm2 : m ≤ 15) (hn : 1 ≤ n) (hn2 : n ≤ 16) : (if vlX k a m < (((n : Nat) : Int) : Rat) then 1 - allW k a m n else allW k a m n) ≤ mostX (chX k a (m - 1)) (vlX k a m) n ∧ 0 < mostX (chX k a (m - 1)) (vlX k a m) n := by
 have key : ∀ {k a : Nat}, ((List.range 15).all fun m => (List.range 16).all fun n => chk k a (m + 1) (n + 1)) = true → chk k a m n = true := fun {k a} h => by
  rw [List.all_eq_true] at h
  have h1 := h (m - 1) (List.mem_range.2 (by omega))
  rw [List.all_eq_true] at h1
  have h2 := h1 (n - 1) (List.mem_range.2 (by omega))
  rw [show m - 1 + 1 = m by omega, show n - 1 + 1 = n by omega] at h2
  exact h2
 have hc : chk k a m n = true := by
  have := kas_mem hs
  simp only [kas, List.mem_cons, Prod.mk.injEq, List.not_mem_nil, or_false] at this
  rcases this with ⟨rfl, rfl⟩ | ⟨rfl, rfl⟩ | ⟨rfl, rfl⟩ | ⟨rfl, rfl⟩ | ⟨rfl, rfl⟩ | ⟨rfl, rfl⟩ | ⟨rfl, rfl⟩ | ⟨rfl, rfl⟩
  ·
   exact key chk_11
  ·
   exact key chk_12
  ·
   exact key chk_13
  ·
   exact key chk_14
  ·
   exact key chk_20
  ·
   exact key chk_21
  ·
   exact key chk_31
  ·
   exact key chk_32
 unfold chk at hc
 rw [Bool.and_eq_true] at hc
 exact ⟨of_decide_eq_true hc.1, of_decide_eq_true hc.2⟩
theorem most3_le (h : Rat) : most3 h ≤ 1 := by
 unfold most3
 split
 ·
  exact Rat.le_refl
 ·
  rename_i h
  exact Rat.not_lt.1 h
theorem most_le (c mu : Rat) (n : Nat) : mostX c mu n ≤ 1 := by
 unfold mostX most2
 split
 ·
  exact Rat.le_refl
 ·
  split
  ·
   exact most3_le _
  ·
   exact most3_le _
theorem btailP_fn {a w : Nat} {n m : Int} : Fn1 Tryz.prog 6 [pR 4 a w, .lit (.int .i64 n), .lit (.int .i64 m)] [] (.tup [RV 0, .lit (.int .i64 10)]) [] := by
 rw [RV0n]
 refine fn1N_of pl6 (by kernel_rfl) Tryz.call6 Tryz.func6 rfl (by kernel_rfl) rfl [.cell 6 35, .tmp 7] (by kernel_rfl) fun Q hQ => ?_
 refine runW ?_
 exact endW [] hQ
theorem btail0_fn {k a w : Nat} {m : Int} (hs : smallG k a w) : Fn1 Tryz.prog 6 [pR k a w, .lit (.int .i64 0), .lit (.int .i64 m)] [] (.tup [RV 0, .lit (.int .i64 2)]) [] := by
 rw [RV0n]
 obtain ⟨hg, h4⟩ := smallG_good hs
 have hk4 : ¬ (k : Int) = 4 := by omega
 have cc := cCheck_fn hg h4
 have ct := cTop_fn hg h4
 generalize 2 ^ w - 1 = top at *
 refine fn1N_of pl6 (by kernel_rfl) Tryz.call6 Tryz.func6 rfl (by kernel_rfl) rfl [.cell 6 35, .tmp 7] (by kernel_rfl) fun Q hQ => ?_
 repeat (first | (refine callV0 (cc) rfl rfl ?_) | (refine callV0 (ct) rfl rfl ?_) | (refine runW ?_))
 exact endW [] hQ
theorem btailT_fn {k a w n : Nat} {m : Int} (hs : smallG k a w) (hn : 1 ≤ n) (hn2 : n ≤ 16) (hm : ((2 ^ w - 1 : Nat) : Int) < m) : Fn1 Tryz.prog 6 [pR k a w, .lit (.int .i64 (n : Int)), .lit (.int .i64 m)] [] (.tup [RV 0, .lit (.int .i64 2)]) [] := by
 rw [RV0n]
 obtain ⟨hg, h4⟩ := smallG_good hs
 have hk4 : ¬ (k : Int) = 4 := by omega
 have cc := cCheck_fn hg h4
 have ct := cTop_fn hg h4
 generalize 2 ^ w - 1 = top at *
 refine fn1N_of pl6 (by kernel_rfl) Tryz.call6 Tryz.func6 rfl (by kernel_rfl) rfl [.cell 6 35, .tmp 7] (by kernel_rfl) fun Q hQ => ?_
 repeat (first | (refine callV0 (cc) rfl rfl ?_) | (refine callV0 (ct) rfl rfl ?_) | (refine runW ?_))
 exact endW [] hQ
def sdG (b : Bool) (m : Nat) (s : Ky) : Rat := if decide (decide (s.1 < (m : Int)) = b) = true then 1 else 0
def sdX (b : Bool) (m : Nat) (L : Ds) : Rat := EX (sdG b m) L
theorem sdX_snoc {b : Bool} {m : Nat} {L : Ds} {e : Ky × Rat} : sdX b m (L ++ [e]) = if decide (decide (e.1.1 < (m : Int)) = b) = true then sdX b m L + e.2 else sdX b m L := by
 unfold sdX
 rw [EX_app]
 simp only [EX, sdG]
 split
 ·
  rw [Rat.mul_one, Rat.add_zero]
 ·
  rw [Rat.mul_zero, Rat.add_zero, Rat.add_zero]
theorem EX_ind {N : Nat} {g : Ky → Rat} (hg : ∀ s, g s = 0 ∨ g s = 1) : ∀ L : Ds, (∀ e ∈ L, 0 ≤ e.2 ∧ isI N e.2) → isI N (EX g L) ∧ 0 ≤ EX g L ∧ EX g L ≤ EX (fun _ => 1) L
 | [], _ => ⟨isI_zero _, Rat.le_refl, Rat.le_refl⟩
 | (s, x) :: L, hL => by
  obtain ⟨i1, i2, i3⟩ := EX_ind hg L fun e he => hL e (List.mem_cons_of_mem _ he)
  obtain ⟨g1, g2⟩ := hL (s, x) List.mem_cons_self
  dsimp only at g1 g2
  simp only [EX]
  rcases hg s with h | h
  ·
   rw [h, Rat.mul_zero, Rat.mul_one, Rat.zero_add]
   exact ⟨i1, i2, by grind⟩
  ·
   rw [h, Rat.mul_one]
   exact ⟨isI_add g2 i1, by grind, by grind⟩
theorem EX_not {g h : Ky → Rat} (e : ∀ s, g s = 1 - h s) : ∀ L : Ds, EX g L = EX (fun _ => 1) L - EX h L
 | [] => by simp only [EX]; grind
 | (s, x) :: L => by
  simp only [EX]
  rw [EX_not e L, e s]
  grind
theorem sdG_01 {b : Bool} {m : Nat} (s : Ky) : sdG b m s = 0 ∨ sdG b m s = 1 := by
 unfold sdG
 split
 ·
  exact .inr rfl
 ·
  exact .inl rfl
theorem sd_all {k a w m n : Nat} (hs : smallG k a w) (hm : 1 ≤ m) (hm2 : m ≤ 2 ^ w - 1) (b : Bool) : sdX b m (atD (itD k a w n)) = if b = true then 1 - allW k a m n else allW k a m n := by
 have hf : sdX false m (atD (itD k a w n)) = allW k a m n := by
  unfold sdX
  rw [EX_at, EX_it, allW_eq hm]
  refine wF_it hm2 (fun K T F hK => ?_) n 0 0 false (Nat.zero_le _)
  unfold sdG
  dsimp only
  by_cases h : m ≤ K
  ·
   rw [if_pos h, if_pos (by simp; omega)]
  ·
   rw [if_neg h, if_neg (by simp; omega)]
 cases b
 ·
  rw [hf, if_neg (by decide)]
 ·
  rw [if_pos rfl, ← hf]
  unfold sdX
  rw [EX_not (g := sdG true m) (h := sdG false m) (fun s => ?_), EX_at, (it_ok hs n).mass, EX_at]
  unfold sdG
  by_cases h : s.1 < (m : Int)
  ·
   rw [decide_eq_true h]; decide +kernel
  ·
   rw [decide_eq_false h]; decide +kernel
theorem sd_rs {k a w m n : Nat} (hs : smallG k a w) (hn2 : n ≤ 16) (b : Bool) (i : Nat) : RS 400000 (sdX b m ((atD (itD k a w n)).take i)) := by
 have hI := it_ok hs n
 have hN0 : Dk k a ^ n ≠ 0 := Nat.ne_of_gt (Nat.pow_pos (Nat.pos_of_ne_zero (Dk_ok hs).2))
 have hc := Dk_len hs (n := n) (by omega)
 have h1 := EX1_mono (L := atD (itD k a w n)) (fun e he => (hI.all e (at_mem he).1).2.1) i
 rw [EX_at, hI.mass] at h1
 obtain ⟨k1, k2, k3⟩ := EX_ind (sdG_01 (b := b) (m := m)) ((atD (itD k a w n)).take i) fun e he => (hI.all e (at_mem (List.mem_of_mem_take he)).1).2
 exact (RS_isI hN0 hc k2 (Rat.le_trans k3 h1) k1).mono (by decide)
theorem at_rs {k a w n : Nat} (hs : smallG k a w) (hn2 : n ≤ 16) : ∀ e ∈ atD (itD k a w n), RS 400000 e.2 := fun e he => (it_ok hs n).rs hs (by omega) e (at_mem he).1
end Go.Proofs.YtdohmppildfjhaaGreatDoor
