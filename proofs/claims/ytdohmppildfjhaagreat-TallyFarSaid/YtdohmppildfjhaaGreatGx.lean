import Derived.Test.YtdohmppildfjhaaGreatGa
import Derived.Test.YtdohmppildfjhaaGreatGt
import Derived.Test.YtdohmppildfjhaaGreatGu
import Derived.Test.YtdohmppildfjhaaGreatGv
import Derived.Test.YtdohmppildfjhaaGreatGw
import Derived.Test.YtdohmppildfjhaaGreatGq
import Derived.Test.YtdohmppildfjhaaGreatGr
namespace Go.Proofs.YtdohmppildfjhaaGreat
open Go.Eng Go.Vx
set_option linter.unusedSimpArgs false
set_option linter.unusedVariables false
set_option maxRecDepth 100000
def smN (k a b : Nat) : Prop := (k = 1 ∧ 1 ≤ a ∧ a ≤ 4 ∧ 1 ≤ b ∧ b ≤ 4) ∨ (k = 2 ∧ a ≤ 1 ∧ 1 ≤ b ∧ b ≤ 4) ∨ (k = 3 ∧ 1 ≤ a ∧ a ≤ 2 ∧ 1 ≤ b ∧ b ≤ 4) ∨ (k = 4 ∧ 1 ≤ a ∧ a ≤ 8 ∧ b ≤ 3)
def wi (k a b : Nat) (s : Int × Int × Bool) : Nat × Nat × Bool :=
 if k = 4 then ((s.1 % 8).toNat % (a + 1), (s.2.1 % 4).toNat % (b + 1), s.2.2 && decide ((s.2.1 % 4).toNat % (b + 1) = b))
 else ((s.1 % 16).toNat % (2 ^ b - 1 + 1), 0, s.2.2 && decide ((s.1 % 16).toNat % (2 ^ b - 1 + 1) = 2 ^ b - 1))
theorem natmod {m n : Nat} : ((m : Nat) : Int) % ((n : Int) + 1) = ((m % (n + 1) : Nat) : Int) := by
 rw [show (n : Int) + 1 = ((n + 1 : Nat) : Int) by omega]
 exact (Int.natCast_emod m (n + 1)).symm
set_option maxHeartbeats 1000000 in
theorem within_fn {k a b : Nat} {s : Int × Int × Bool} (ha : a ≤ 8) (hb : b ≤ 4) : Fn1 Tryz.prog 13 [pR k a b, .agg [.lit (.int .i64 s.1), .lit (.int .i64 s.2.1), .lit (.bool s.2.2)]] [] (sR (wi k a b s)) [] := by
 obtain ⟨K, T, F⟩ := s
 unfold wi
 dsimp only
 by_cases h4 : k = 4
 ·
  rw [if_pos h4]
  obtain ⟨x, hx⟩ : ∃ x : Nat, K % 8 = (x : Int) := ⟨(K % 8).toNat, by omega⟩
  obtain ⟨y, hy⟩ : ∃ y : Nat, T % 4 = (y : Int) := ⟨(T % 4).toNat, by omega⟩
  rw [hx, hy, Int.toNat_natCast, Int.toNat_natCast]
  have f1 : ((x : Nat) : Int) % ((a : Int) + 1) = ((x % (a + 1) : Nat) : Int) := natmod
  have f2 : ((y : Nat) : Int) % ((b : Int) + 1) = ((y % (b + 1) : Nat) : Int) := natmod
  have hxl : x % (a + 1) < a + 1 := Nat.mod_lt _ (Nat.succ_pos _)
  have hyl : y % (b + 1) < b + 1 := Nat.mod_lt _ (Nat.succ_pos _)
  generalize x % (a + 1) = x' at *
  generalize y % (b + 1) = y' at *
  have hd : decide ((y' : Int) = (b : Int)) = decide (y' = b) := by rw [decide_eq_decide]; omega
  refine fn1N_of pl13 (by kernel_rfl) Tryz.call13 Tryz.func13 rfl (by kernel_rfl) rfl [.cell 4 25] (by kernel_rfl) fun Q hQ => ?_
  cases F with
  | true =>
   rw [Bool.true_and] at hQ
   simp (maxSteps := 1000000) (disch := (first | omega | (simp only [lnA, List.length_map, List.length_range, true_and, and_true]; (try omega); done) | fail)) only [go_sem, hx, hy, f1, f2, hd, and_self, and_true, Int.reduceEq, Int.reduceToNat, Nat.reduceAdd, Nat.reduceMul, Nat.reduceEqDiff, ↓reduceIte]
   exact endW [] hQ
  | false =>
   rw [Bool.false_and] at hQ
   simp (maxSteps := 1000000) (disch := (first | omega | (simp only [lnA, List.length_map, List.length_range, true_and, and_true]; (try omega); done) | fail)) only [go_sem, hx, hy, f1, f2, hd, and_self, and_true, Int.reduceEq, Int.reduceToNat, Nat.reduceAdd, Nat.reduceMul, Nat.reduceEqDiff, ↓reduceIte]
   exact endW [] hQ
 ·
  rw [if_neg h4]
  obtain ⟨x, hx⟩ : ∃ x : Nat, K % 16 = (x : Int) := ⟨(K % 16).toNat, by omega⟩
  rw [hx, Int.toNat_natCast]
  have hs := shW (k := b) (by omega)
  have hp : 1 ≤ 2 ^ b := Nat.pow_pos (by decide)
  have hp2 : 2 ^ b ≤ 2 ^ 4 := Nat.pow_le_pow_right (by decide) hb
  obtain ⟨m, hm⟩ : ∃ m, 2 ^ b = m + 1 := ⟨2 ^ b - 1, by omega⟩
  rw [hm] at hs hp2
  rw [hm, Nat.add_sub_cancel]
  have he : (((m + 1 : Nat) : Int) - 1) = (m : Int) := by omega
  have f1 : ((x : Nat) : Int) % ((m : Int) + 1) = ((x % (m + 1) : Nat) : Int) := natmod
  have hxl : x % (m + 1) < m + 1 := Nat.mod_lt _ (Nat.succ_pos _)
  generalize x % (m + 1) = x' at *
  have hd : decide ((x' : Int) = (m : Int)) = decide (x' = m) := by rw [decide_eq_decide]; omega
  refine fn1N_of pl13 (by kernel_rfl) Tryz.call13 Tryz.func13 rfl (by kernel_rfl) rfl [.cell 4 25] (by kernel_rfl) fun Q hQ => ?_
  cases F with
  | true =>
   rw [Bool.true_and] at hQ
   simp (maxSteps := 1000000) (disch := (first | omega | (simp only [lnA, List.length_map, List.length_range, true_and, and_true]; (try omega); done) | fail)) only [go_sem, hs, Int.toNat_natCast, he, hx, f1, hd, Int.reduceEq, Int.reduceToNat, Nat.reduceAdd, Nat.reduceMul, Nat.reduceEqDiff, ↓reduceIte]
   exact endW [] hQ
  | false =>
   rw [Bool.false_and] at hQ
   simp (maxSteps := 1000000) (disch := (first | omega | (simp only [lnA, List.length_map, List.length_range, true_and, and_true]; (try omega); done) | fail)) only [go_sem, hs, Int.toNat_natCast, he, hx, f1, hd, Int.reduceEq, Int.reduceToNat, Nat.reduceAdd, Nat.reduceMul, Nat.reduceEqDiff, ↓reduceIte]
   exact endW [] hQ
set_option maxHeartbeats 1000000 in
theorem small17_fn {kk aa bb : Int} : ∃ k a b : Nat, smN k a b ∧ ∀ (s : Int × Int × Bool), Fn1 Tryz.prog 4 [.agg [.lit (.int .i64 kk), .lit (.int .i64 aa), .lit (.int .i64 bb)], .agg [.lit (.int .i64 s.1), .lit (.int .i64 s.2.1), .lit (.bool s.2.2)]] [] (.tup [pR k a b, sR (wi k a b s)]) [] := by
 have t1 : -4 < kk.tmod 4 := by have := Int.lt_tmod_of_pos kk (b := 4) (by decide); omega
 have t2 : kk.tmod 4 < 4 := Int.tmod_lt_of_pos kk (by decide)
 obtain ⟨m, hm, hm4⟩ : ∃ m : Nat, (kk.tmod 4 + 4) % 4 = (m : Int) ∧ m < 4 := ⟨((kk.tmod 4 + 4) % 4).toNat, by omega, by omega⟩
 obtain ⟨a3, ha3, ha3'⟩ : ∃ x : Nat, aa % 4 = (x : Int) ∧ x < 4 := ⟨(aa % 4).toNat, by omega, by omega⟩
 obtain ⟨a1, ha1, ha1'⟩ : ∃ x : Nat, aa % 2 = (x : Int) ∧ x < 2 := ⟨(aa % 2).toNat, by omega, by omega⟩
 obtain ⟨a7, ha7, ha7'⟩ : ∃ x : Nat, aa % 8 = (x : Int) ∧ x < 8 := ⟨(aa % 8).toNat, by omega, by omega⟩
 obtain ⟨bx, hbx, hbx'⟩ : ∃ x : Nat, bb % 256 % 4 = (x : Int) ∧ x < 4 := ⟨(bb % 256 % 4).toNat, by omega, by omega⟩
 obtain ⟨b3, hb3, hb3'⟩ : ∃ x : Nat, bb % 4 = (x : Int) ∧ x < 4 := ⟨(bb % 4).toNat, by omega, by omega⟩
 have e1 : ∀ x : Nat, 1 + (x : Int) = ((1 + x : Nat) : Int) := fun x => by omega
 rcases (show m = 0 ∨ m = 1 ∨ m = 2 ∨ m = 3 by omega) with rfl | rfl | rfl | rfl
 ·
  refine ⟨1, 1 + a3, 1 + bx, .inl ⟨rfl, by omega, by omega, by omega, by omega⟩, fun s => ?_⟩
  have w := within_fn (k := 1) (a := 1 + a3) (b := 1 + bx) (s := s) (by omega) (by omega)
  generalize wi 1 (1 + a3) (1 + bx) s = r at *
  refine fn1N_of pl4 (by kernel_rfl) Tryz.call4 Tryz.func4 rfl (by kernel_rfl) rfl [.cell 4 23, .cell 5 25] (by kernel_rfl) fun Q hQ => ?_
  simp (maxSteps := 1000000) (disch := (first | omega | (simp only [lnA, List.length_map, List.length_range, true_and, and_true]; (try omega); done) | fail)) only [go_sem, hm, ha3, hbx, e1, Int.reduceEq, Int.reduceToNat, Nat.reduceAdd, Nat.reduceMul, Nat.reduceEqDiff, ↓reduceIte]
  refine callV0 (w) rfl rfl ?_
  refine runW ?_
  exact endW [] hQ
 ·
  refine ⟨2, a1, 1 + bx, .inr (.inl ⟨rfl, by omega, by omega, by omega⟩), fun s => ?_⟩
  have w := within_fn (k := 2) (a := a1) (b := 1 + bx) (s := s) (by omega) (by omega)
  generalize wi 2 a1 (1 + bx) s = r at *
  refine fn1N_of pl4 (by kernel_rfl) Tryz.call4 Tryz.func4 rfl (by kernel_rfl) rfl [.cell 4 23, .cell 5 25] (by kernel_rfl) fun Q hQ => ?_
  simp (maxSteps := 1000000) (disch := (first | omega | (simp only [lnA, List.length_map, List.length_range, true_and, and_true]; (try omega); done) | fail)) only [go_sem, hm, ha1, hbx, e1, Int.reduceEq, Int.reduceToNat, Nat.reduceAdd, Nat.reduceMul, Nat.reduceEqDiff, ↓reduceIte]
  refine callV0 (w) rfl rfl ?_
  refine runW ?_
  exact endW [] hQ
 ·
  refine ⟨3, 1 + a1, 1 + bx, .inr (.inr (.inl ⟨rfl, by omega, by omega, by omega, by omega⟩)), fun s => ?_⟩
  have w := within_fn (k := 3) (a := 1 + a1) (b := 1 + bx) (s := s) (by omega) (by omega)
  generalize wi 3 (1 + a1) (1 + bx) s = r at *
  refine fn1N_of pl4 (by kernel_rfl) Tryz.call4 Tryz.func4 rfl (by kernel_rfl) rfl [.cell 4 23, .cell 5 25] (by kernel_rfl) fun Q hQ => ?_
  simp (maxSteps := 1000000) (disch := (first | omega | (simp only [lnA, List.length_map, List.length_range, true_and, and_true]; (try omega); done) | fail)) only [go_sem, hm, ha1, hbx, e1, Int.reduceEq, Int.reduceToNat, Nat.reduceAdd, Nat.reduceMul, Nat.reduceEqDiff, ↓reduceIte]
  refine callV0 (w) rfl rfl ?_
  refine runW ?_
  exact endW [] hQ
 ·
  refine ⟨4, 1 + a7, b3, .inr (.inr (.inr ⟨rfl, by omega, by omega, by omega⟩)), fun s => ?_⟩
  have w := within_fn (k := 4) (a := 1 + a7) (b := b3) (s := s) (by omega) (by omega)
  generalize wi 4 (1 + a7) b3 s = r at *
  refine fn1N_of pl4 (by kernel_rfl) Tryz.call4 Tryz.func4 rfl (by kernel_rfl) rfl [.cell 4 23, .cell 5 25] (by kernel_rfl) fun Q hQ => ?_
  simp (maxSteps := 1000000) (disch := (first | omega | (simp only [lnA, List.length_map, List.length_range, true_and, and_true]; (try omega); done) | fail)) only [go_sem, hm, ha7, hb3, e1, Int.reduceEq, Int.reduceToNat, Nat.reduceAdd, Nat.reduceMul, Nat.reduceEqDiff, ↓reduceIte]
  refine callV0 (w) rfl rfl ?_
  refine runW ?_
  exact endW [] hQ
theorem own17_fn {k a b : Nat} : Fn1 Tryz.prog 5 [pR k a b] [] (pR k a b) [] := by
 refine fn1N_of pl5 (by kernel_rfl) Tryz.call5 Tryz.func5 rfl (by kernel_rfl) rfl [.cell 2 28] (by kernel_rfl) fun Q hQ => ?_
 refine runW ?_
 exact endW [] hQ
end Go.Proofs.YtdohmppildfjhaaGreat

namespace Go.Proofs.YtdohmppildfjhaaGreat
open Go.Eng Go.Vx
set_option linter.unusedSimpArgs false
set_option linter.unusedVariables false
set_option maxRecDepth 100000
theorem chk_all {k a w m n : Nat} (hs : smallG k a w) (hm : 1 ≤ m) (hm2 : m ≤ 15) (hn : 1 ≤ n) (hn2 : n ≤ 16) : (if vlX k a m < (((n : Nat) : Int) : Rat) then 1 - allW k a m n else allW k a m n) ≤ mostX (chX k a (m - 1)) (vlX k a m) n ∧ 0 < mostX (chX k a (m - 1)) (vlX k a m) n := by
 have key : ∀ {k a : Nat}, ((List.range 15).all fun m => (List.range 16).all fun n => chk k a (m + 1) (n + 1)) = true → chk k a m n = true := fun {k a} h => by
  rw [List.all_eq_true] at h
  have h1 := h (m - 1) (List.mem_range.2 (by omega))
  rw [List.all_eq_true] at h1
  have h2 := h1 (n - 1) (List.mem_range.2 (by omega))
  rw [show m - 1 + 1 = m by omega, show n - 1 + 1 = n by omega] at h2
  exact h2
 have hc : chk k a m n = true := by
  have := kas_mem hs
  simp only [kas, List.mem_cons, Prod.mk.injEq, List.not_mem_nil, or_false] at this
  rcases this with ⟨rfl, rfl⟩ | ⟨rfl, rfl⟩ | ⟨rfl, rfl⟩ | ⟨rfl, rfl⟩ | ⟨rfl, rfl⟩ | ⟨rfl, rfl⟩ | ⟨rfl, rfl⟩ | ⟨rfl, rfl⟩
  ·
   exact key chk_11
  ·
   exact key chk_12
  ·
   exact key chk_13
  ·
   exact key chk_14
  ·
   exact key chk_20
  ·
   exact key chk_21
  ·
   exact key chk_31
  ·
   exact key chk_32
 unfold chk at hc
 rw [Bool.and_eq_true] at hc
 exact ⟨of_decide_eq_true hc.1, of_decide_eq_true hc.2⟩
theorem tl_all {k a w m n : Nat} (hs : smallG k a w) (hm : 1 ≤ m) (hm2 : m ≤ 2 ^ w - 1) : tlX k a (vlX k a m) (atD (itD k a w n)) = allW k a m n := by
 have hp : 2 ^ w ≤ 2 ^ 4 := Nat.pow_le_pow_right (by decide) hs.2.2
 rw [tlX_EX, EX_at, EX_it, allW_eq hm]
 refine wF_it hm2 (fun K T F hK => ?_) n 0 0 false (Nat.zero_le _)
 dsimp only
 rw [Int.toNat_natCast]
 unfold indX
 by_cases h : m ≤ K
 ·
  rw [if_pos h, if_pos ((vl_ind hs (by omega) (by omega)).2 h)]
 ·
  rw [if_neg h, if_neg fun e => h ((vl_ind hs (by omega) (by omega)).1 e)]
theorem tails_fn {k a w m n : Nat} (hs : smallG k a w) (hm : 1 ≤ m) (hm2 : m ≤ 2 ^ w - 1) (hn2 : n ≤ 16) :
  Fn1 Tryz.prog 9 [pR k a w, .row 6 ((atD (itD k a w n)).map enA), RV (vlX k a m)] [] (.tup [RV (allW k a m n), .lit (.int .i64 0)]) [] ∧ RS 400000 (allW k a m n) ∧ RS 400000 (1 - allW k a m n) := by
 have hp : 2 ^ w ≤ 2 ^ 4 := Nat.pow_le_pow_right (by decide) hs.2.2
 have hI := it_ok hs n
 have hN0 : Dk k a ^ n ≠ 0 := Nat.ne_of_gt (Nat.pow_pos (Nat.pos_of_ne_zero (Dk_ok hs).2))
 have hc := Dk_len hs (n := n) (by omega)
 have hpow : 2 ^ n ≤ 2 ^ 16 := Nat.pow_le_pow_right (by decide) hn2
 have hlen := Nat.le_trans (at_len (itD k a w n)) hI.len
 have hmem : ∀ e ∈ atD (itD k a w n), eI w (Dk k a ^ n) e.1 e.2 ∧ e.2 ≤ 1 := fun e he => ⟨hI.all e (at_mem he).1, hI.one (at_mem he).1⟩
 have hind : ∀ K, K ≤ 15 → indX (vlX k a m) (vlX k a K) = if m ≤ K then 1 else 0 := fun K hK => by
  unfold indX
  by_cases h : m ≤ K
  ·
   rw [if_pos h, if_pos ((vl_ind hs (by omega) hK).2 h)]
  ·
   rw [if_neg h, if_neg fun e => h ((vl_ind hs (by omega) hK).1 e)]
 have hP : ∀ e ∈ atD (itD k a w n), ∀ K, K ≤ 15 → RS 400000 (e.2 * indX (vlX k a m) (vlX k a K)) := fun e he K hK => by
  rw [hind K hK]
  obtain ⟨⟨h1, h2, h3⟩, h4⟩ := hmem e he
  split
  ·
   rw [Rat.mul_one]
   exact (RS_isI hN0 hc h2 h4 h3).mono (by decide)
  ·
   rw [Rat.mul_zero]
   exact (RS_small (z := 0) (by decide)).mono (by decide)
 have hT : ∀ i, isI (Dk k a ^ n) (tlX k a (vlX k a m) ((atD (itD k a w n)).take i)) ∧ 0 ≤ tlX k a (vlX k a m) ((atD (itD k a w n)).take i) ∧ tlX k a (vlX k a m) ((atD (itD k a w n)).take i) ≤ 1 := fun i => by
  rw [tlX_EX]
  have hmi : ∀ e ∈ (atD (itD k a w n)).take i, eI w (Dk k a ^ n) e.1 e.2 := fun e he => (hmem e (List.mem_of_mem_take he)).1
  have h1 := EX1_mono (L := atD (itD k a w n)) (fun e he => (hmem e he).1.2.1) i
  rw [EX_at, hI.mass] at h1
  have key : ∀ L : Ds, (∀ e ∈ L, eI w (Dk k a ^ n) e.1 e.2) → isI (Dk k a ^ n) (EX (fun s => indX (vlX k a m) (vlX k a s.1.toNat)) L) ∧ 0 ≤ EX (fun s => indX (vlX k a m) (vlX k a s.1.toNat)) L ∧ EX (fun s => indX (vlX k a m) (vlX k a s.1.toNat)) L ≤ EX (fun _ => 1) L := by
   intro L
   induction L with
   | nil => intro _; exact ⟨isI_zero _, Rat.le_refl, Rat.le_refl⟩
   | cons e L ih =>
    intro hL
    obtain ⟨i1, i2, i3⟩ := ih fun e he => hL e (List.mem_cons_of_mem _ he)
    obtain ⟨s, x⟩ := e
    obtain ⟨hok, g1, g2⟩ := hL (s, x) List.mem_cons_self
    dsimp only at hok g1 g2
    obtain ⟨K, e1, e2, -⟩ := hok
    have e3 : s.1.toNat = K := by rw [e1, Int.toNat_natCast]
    simp only [EX, e3, hind K (by omega)]
    split
    ·
     rw [Rat.mul_one]
     exact ⟨isI_add g2 i1, by grind, by grind⟩
    ·
     rw [Rat.mul_zero, Rat.mul_one, Rat.zero_add]
     exact ⟨i1, i2, by grind⟩
  obtain ⟨k1, k2, k3⟩ := key _ hmi
  exact ⟨k1, k2, Rat.le_trans k3 h1⟩
 have hS : ∀ i, RS 400000 (tlX k a (vlX k a m) ((atD (itD k a w n)).take i)) := fun i => (RS_isI hN0 hc (hT i).2.1 (hT i).2.2 (hT i).1).mono (by decide)
 have hR := hT (atD (itD k a w n)).length
 rw [List.take_length, tl_all hs hm hm2] at hR
 refine ⟨?_, (RS_isI hN0 hc hR.2.1 hR.2.2 hR.1).mono (by decide), (RS_isI hN0 hc (by have := hR.2.2; grind) (by have := hR.2.1; grind) (isI_sub hR.1)).mono (by decide)⟩
 have := ttail_fn hs ((vl_rs hs (by omega)).mono (by decide)) (by omega) (fun e he => ⟨(hmem e he).1.1, (RS_isI hN0 hc (hmem e he).1.2.1 (hmem e he).2 (hmem e he).1.2.2).mono (by decide)⟩) (fun K hK => (vl_rs hs hK).mono (by decide)) hP hS
 rw [tl_all hs hm hm2] at this
 exact this
end Go.Proofs.YtdohmppildfjhaaGreat
