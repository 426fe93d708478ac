import Derived.Test.YtdohmppildfjhaaGreatDoorBc
namespace Go.Proofs.YtdohmppildfjhaaGreatDoor
open Go.Eng Go.Vx
set_option linter.unusedSimpArgs false
set_option linter.unusedVariables false
set_option maxRecDepth 100000
theorem gfchance_fn {a K : Nat} (ha : a ≤ 1) (hK : K ≤ 15) : Fn1 Tryz.prog 194 [.lit (.int .i64 (a : Int)), .lit (.int .i64 (K : Int))] [] (.tup [RV (hf (K / 2 ^ a)), .lit (.int .i64 0)]) [] := by
 have hle : K / 2 ^ a ≤ K := Nat.div_le_self _ _
 have g := gfwrong_fn (a := a) (k := (K : Int)) (by omega) (by omega) (by omega)
 have pt := gfparts_fn ha hK
 have hh := rhalf_fn (N := K / 2 ^ a) (by omega)
 rw [show mkRat 1 (2 ^ (K / 2 ^ a)) = hf (K / 2 ^ a) from rfl] at hh
 generalize hf (K / 2 ^ a) = x at *
 generalize K / 2 ^ a = u at *
 generalize K % 2 ^ a = v at *
 refine fn1N_of pl194 (by kernel_rfl) Tryz.call194 Tryz.func194 rfl (by kernel_rfl) rfl [.cell 4 35, .tmp 5] (by kernel_rfl) fun Q hQ => ?_
 refine runW ?_
 refine callW [] [1] (g) ?_
 repeat (first | (refine callV0 (pt) rfl rfl ?_) | (refine callV0 (hh) rfl rfl ?_) | (refine runW ?_))
 exact endW [] hQ
set_option maxHeartbeats 1000000 in
theorem gfvalue_fn {a K : Nat} (ha : a ≤ 1) (hK : K ≤ 15) : Fn1 Tryz.prog 196 [.lit (.int .i64 (a : Int)), .lit (.int .i64 (K : Int))] [] (.tup [NV ((2 ^ a + K % 2 ^ a) * 2 ^ (K / 2 ^ a) - 2 ^ a), .lit (.int .i64 0)]) [] := by
 have hle : K / 2 ^ a ≤ K := Nat.div_le_self _ _
 have g := gfwrong_fn (a := a) (k := (K : Int)) (by omega) (by omega) (by omega)
 have pt := gfparts_fn ha hK
 have hp : 2 ^ a ≤ 2 := by
  have : a = 0 ∨ a = 1 := by omega
  rcases this with rfl | rfl <;> decide
 have hp1 : 1 ≤ 2 ^ a := Nat.pow_pos (by decide)
 have hv : K % 2 ^ a < 2 ^ a := Nat.mod_lt _ hp1
 have w1 : IntKind.i64.wrap (1 * 2 ^ a) = ((2 ^ a : Nat) : Int) := shW (by omega)
 have w2 : IntKind.u64.wrap (1 * 2 ^ a) = ((2 ^ a : Nat) : Int) := by
  rw [show (1 * 2 ^ a : Int) = ((2 ^ a : Nat) : Int) by simp]
  exact wrap_u64 ⟨by omega, by omega⟩
 have e1 : ((2 ^ a : Nat) : Int) + ((K % 2 ^ a : Nat) : Int) = ((2 ^ a + K % 2 ^ a : Nat) : Int) := by omega
 have o1 := of1_fn (x := 2 ^ a + K % 2 ^ a) (by omega)
 have o2 := of1_fn (x := 2 ^ a) (by omega)
 have l1 := wg_small (n := 2 ^ a + K % 2 ^ a) (by omega)
 have sh := shl_fn (v := 2 ^ a + K % 2 ^ a) (N := K / 2 ^ a) (by omega) (by omega)
 have hpu : 1 ≤ 2 ^ (K / 2 ^ a) := Nat.pow_pos (by decide)
 have hpu2 : 2 ^ (K / 2 ^ a) ≤ 2 ^ 15 := Nat.pow_le_pow_right (by decide) (by omega)
 have hall : (2 ^ a + K % 2 ^ a) * 2 ^ (K / 2 ^ a) ≤ 4 * 2 ^ 15 := Nat.mul_le_mul (by omega) hpu2
 have hge : 2 ^ a ≤ (2 ^ a + K % 2 ^ a) * 2 ^ (K / 2 ^ a) := by
  have := Nat.mul_le_mul (show 2 ^ a ≤ 2 ^ a + K % 2 ^ a by omega) hpu
  omega
 have l2 := wg_small (n := (2 ^ a + K % 2 ^ a) * 2 ^ (K / 2 ^ a)) (by omega)
 have su := nsub_fn hge (by omega)
 generalize (2 ^ a + K % 2 ^ a) * 2 ^ (K / 2 ^ a) = all at *
 generalize K / 2 ^ a = u at *
 generalize hmm : 2 ^ a + K % 2 ^ a = mm at *
 generalize K % 2 ^ a = v at *
 generalize all - 2 ^ a = res at *
 generalize hpp : 2 ^ a = pp at *
 refine fn1N_of pl196 (by kernel_rfl) Tryz.call196 Tryz.func196 rfl (by kernel_rfl) rfl [.cell 4 31, .tmp 5] (by kernel_rfl) fun Q hQ => ?_
 refine runW ?_
 refine callW [] [1] (g) ?_
 refine runW ?_
 refine callV0 (pt) rfl rfl ?_
 simp (maxSteps := 1000000) (disch := (first | omega | (simp only [lnA, List.length_map, List.length_range, true_and, and_true]; (try omega); done) | fail)) only [go_sem, w1, w2, e1, Int.toNat_natCast, Int.reduceEq, Int.reduceToNat, Nat.reduceAdd, Nat.reduceMul, Nat.reduceEqDiff, ↓reduceIte]
 refine callW [] [2] (o1) ?_
 refine runW ?_
 refine callV0 (sh) rfl rfl ?_
 simp (maxSteps := 1000000) (disch := (first | omega | (simp only [lnA, List.length_map, List.length_range, true_and, and_true]; (try omega); done) | fail)) only [go_sem, w1, w2, e1, Int.toNat_natCast, Int.reduceEq, Int.reduceToNat, Nat.reduceAdd, Nat.reduceMul, Nat.reduceEqDiff, ↓reduceIte]
 refine callW [] [4] (o2) ?_
 refine runW ?_
 refine callV0 (su) rfl rfl ?_
 refine runW ?_
 exact endW [] hQ
theorem gychance_fn {a K : Nat} (ha : a = 1 ∨ a = 2) (hK : K ≤ 15) : Fn1 Tryz.prog 205 [.lit (.int .i64 (a : Int)), .lit (.int .i64 (K : Int))] [] (.tup [RV (hf (plAt a K).2.1), .lit (.int .i64 0)]) [] := by
 have at1 := yAt_fn ha hK
 obtain ⟨-, h1, -, -⟩ := plAt_ok (i := K) ha (by omega)
 have hh := rhalf_fn (N := (plAt a K).2.1) (by omega)
 rw [show mkRat 1 (2 ^ (plAt a K).2.1) = hf (plAt a K).2.1 from rfl] at hh
 generalize plAt a K = p at *
 obtain ⟨p1, p2, p3, p4⟩ := p
 dsimp only at hh h1 ⊢
 generalize hf p2 = x at *
 refine fn1N_of pl205 (by kernel_rfl) Tryz.call205 Tryz.func205 rfl (by kernel_rfl) rfl [.cell 4 35, .tmp 5] (by kernel_rfl) fun Q hQ => ?_
 repeat (first | (refine callV0 (at1) rfl rfl ?_) | (refine callV0 (hh) rfl rfl ?_) | (refine runW ?_))
 exact endW [] hQ
theorem gyvalue_fn {a K : Nat} (ha : a = 1 ∨ a = 2) (hK : K ≤ 15) : Fn1 Tryz.prog 204 [.lit (.int .i64 (a : Int)), .lit (.int .i64 (K : Int))] [] (.tup [RV ((((plAt a K).2.2.1 : Nat) : Int) : Rat), .lit (.int .i64 0)]) [] := by
 have at1 := yAt_fn ha hK
 obtain ⟨-, -, h1, -⟩ := plAt_ok (i := K) ha (by omega)
 have l1 := wg_small (n := (plAt a K).2.2.1) (by omega)
 have rn := rnat_fn (n := (plAt a K).2.2.1) (by omega)
 generalize plAt a K = p at *
 obtain ⟨p1, p2, p3, p4⟩ := p
 dsimp only at rn h1 l1 ⊢
 generalize (((p3 : Nat) : Int) : Rat) = x at *
 refine fn1N_of pl204 (by kernel_rfl) Tryz.call204 Tryz.func204 rfl (by kernel_rfl) rfl [.cell 4 35, .tmp 5] (by kernel_rfl) fun Q hQ => ?_
 repeat (first | (refine callV0 (at1) rfl rfl ?_) | (refine callV0 (rn) rfl rfl ?_) | (refine runW ?_))
 exact endW [] hQ
theorem giyc_fn {a K : Nat} (ha : a = 1 ∨ a = 2) (hK : K ≤ 15) : Fn1 Tryz.prog 200 [.lit (.int .i64 (a : Int)), .lit (.int .i64 (K : Int))] [] (.tup [RV (hf (plAt a K).2.1), .lit (.int .i64 0)]) [] := by
 have h := gychance_fn ha hK
 generalize hf (plAt a K).2.1 = x at *
 refine fn1N_of pl200 (by kernel_rfl) Tryz.call200 Tryz.func200 rfl (by kernel_rfl) rfl [.cell 4 35, .tmp 5] (by kernel_rfl) fun Q hQ => ?_
 repeat (first | (refine callV0 (h) rfl rfl ?_) | (refine runW ?_))
 exact endW [] hQ
theorem gifc_fn {a K : Nat} (ha : a ≤ 1) (hK : K ≤ 15) : Fn1 Tryz.prog 189 [.lit (.int .i64 (a : Int)), .lit (.int .i64 (K : Int))] [] (.tup [RV (hf (K / 2 ^ a)), .lit (.int .i64 0)]) [] := by
 have h := gfchance_fn ha hK
 generalize hf (K / 2 ^ a) = x at *
 refine fn1N_of pl189 (by kernel_rfl) Tryz.call189 Tryz.func189 rfl (by kernel_rfl) rfl [.cell 4 35, .tmp 5] (by kernel_rfl) fun Q hQ => ?_
 repeat (first | (refine callV0 (h) rfl rfl ?_) | (refine runW ?_))
 exact endW [] hQ
theorem gimc_fn {a K : Nat} (ha : 1 ≤ a) (ha2 : a ≤ 4) (hK : K ≤ 15) : Fn1 Tryz.prog 177 [.lit (.int .i64 (a : Int)), .lit (.int .i64 (K : Int))] [] (.tup [RV (quo a (a + 1) ^ K), .lit (.int .i64 0)]) [] := by
 have h := gmchance_fn ha ha2 hK
 generalize quo a (a + 1) ^ K = x at *
 refine fn1N_of pl177 (by kernel_rfl) Tryz.call177 Tryz.func177 rfl (by kernel_rfl) rfl [.cell 4 35, .tmp 5] (by kernel_rfl) fun Q hQ => ?_
 repeat (first | (refine callV0 (h) rfl rfl ?_) | (refine runW ?_))
 exact endW [] hQ
theorem gimv_fn {a K : Nat} (ha : 1 ≤ a) (ha2 : a ≤ 4) (hK : K ≤ 15) : Fn1 Tryz.prog 181 [.lit (.int .i64 (a : Int)), .lit (.int .i64 (K : Int))] [] (.tup [RV ((((a : Nat) : Int) : Rat) * (quo (a + 1) a ^ K - 1)), .lit (.int .i64 0)]) [] := by
 have h := gmvalue_fn ha ha2 hK
 generalize (((a : Nat) : Int) : Rat) * (quo (a + 1) a ^ K - 1) = x at *
 refine fn1N_of pl181 (by kernel_rfl) Tryz.call181 Tryz.func181 rfl (by kernel_rfl) rfl [.cell 4 35, .tmp 5] (by kernel_rfl) fun Q hQ => ?_
 repeat (first | (refine callV0 (h) rfl rfl ?_) | (refine runW ?_))
 exact endW [] hQ
theorem gifv_fn {a K : Nat} (ha : a ≤ 1) (hK : K ≤ 15) : Fn1 Tryz.prog 193 [.lit (.int .i64 (a : Int)), .lit (.int .i64 (K : Int))] [] (.tup [RV (((((2 ^ a + K % 2 ^ a) * 2 ^ (K / 2 ^ a) - 2 ^ a : Nat) : Int) : Rat)), .lit (.int .i64 0)]) [] := by
 have h := gfvalue_fn ha hK
 have hp : 2 ^ a ≤ 2 := by
  have : a = 0 ∨ a = 1 := by omega
  rcases this with rfl | rfl <;> decide
 have hv : K % 2 ^ a < 2 ^ a := Nat.mod_lt _ (Nat.pow_pos (by decide))
 have hpu2 : 2 ^ (K / 2 ^ a) ≤ 2 ^ 15 := Nat.pow_le_pow_right (by decide) (by have := Nat.div_le_self K (2 ^ a); omega)
 have hall : (2 ^ a + K % 2 ^ a) * 2 ^ (K / 2 ^ a) ≤ 4 * 2 ^ 15 := Nat.mul_le_mul (by omega) hpu2
 have l2 := wg_small (n := (2 ^ a + K % 2 ^ a) * 2 ^ (K / 2 ^ a) - 2 ^ a) (by omega)
 have rn := rnat_fn (n := (2 ^ a + K % 2 ^ a) * 2 ^ (K / 2 ^ a) - 2 ^ a) (by omega)
 generalize (2 ^ a + K % 2 ^ a) * 2 ^ (K / 2 ^ a) - 2 ^ a = n at *
 generalize (((n : Nat) : Int) : Rat) = x at *
 refine fn1N_of pl193 (by kernel_rfl) Tryz.call193 Tryz.func193 rfl (by kernel_rfl) rfl [.cell 4 35, .tmp 5] (by kernel_rfl) fun Q hQ => ?_
 repeat (first | (refine callV0 (h) rfl rfl ?_) | (refine callV0 (rn) rfl rfl ?_) | (refine runW ?_))
 exact endW [] hQ
set_option maxHeartbeats 1000000 in
theorem cchance_fn {k a w K : Nat} (hs : smallG k a w) (hK : K < 2 ^ w - 1) : Fn1 Tryz.prog 21 [pR k a w, .lit (.int .i64 (K : Int))] [] (.tup [RV (chX k a K), .lit (.int .i64 0)]) [] := by
 obtain ⟨hg, h4⟩ := smallG_good hs
 have hp : 2 ^ w ≤ 2 ^ 4 := Nat.pow_le_pow_right (by decide) hs.2.2
 have hK2 : K ≤ 15 := by omega
 have ca := gcat_fn hs (K := K) (by omega)
 have ct := cTop_fn hg h4
 unfold chX
 obtain ⟨hs, -⟩ := hs
 generalize hm : 2 ^ w - 1 = m at *
 refine fn1N_of pl21 (by kernel_rfl) Tryz.call21 Tryz.func21 rfl (by kernel_rfl) rfl [.cell 4 35, .tmp 5] (by kernel_rfl) fun Q hQ => ?_
 refine runW ?_
 refine callW [] [2] (ca) ?_
 refine runW ?_
 refine callV0 (ct) rfl rfl ?_
 rcases hs with ⟨rfl, h1, h2⟩ | ⟨rfl, h2⟩ | ⟨rfl, h1, h2⟩
 ·
  have k1 := kind1_fn (a := (a : Int)) (w := (w : Int))
  have h := gimc_fn h1 h2 hK2
  rw [if_pos rfl] at hQ
  generalize quo a (a + 1) ^ K = x at *
  repeat (first | (refine callV0 (k1) rfl rfl ?_) | (refine callV0 (h) rfl rfl ?_) | (refine runW ?_))
  exact endW [] hQ
 ·
  have k1 := kind2_fn (a := (a : Int)) (w := (w : Int))
  have h := gifc_fn h2 hK2
  rw [if_neg (by decide), if_pos rfl] at hQ
  generalize hf (K / 2 ^ a) = x at *
  repeat (first | (refine callV0 (k1) rfl rfl ?_) | (refine callV0 (h) rfl rfl ?_) | (refine runW ?_))
  exact endW [] hQ
 ·
  have k1 := kind3_fn (a := (a : Int)) (w := (w : Int))
  have h := giyc_fn (a := a) (by omega) hK2
  rw [if_neg (by decide), if_neg (by decide)] at hQ
  generalize hf (plAt a K).2.1 = x at *
  repeat (first | (refine callV0 (k1) rfl rfl ?_) | (refine callV0 (h) rfl rfl ?_) | (refine runW ?_))
  exact endW [] hQ
set_option maxHeartbeats 1000000 in
theorem cvalue_fn {k a w K : Nat} (hs : smallG k a w) (hK : K ≤ 2 ^ w - 1) : Fn1 Tryz.prog 9 [pR k a w, .lit (.int .i64 (K : Int))] [] (.tup [RV (vlX k a K), .lit (.int .i64 0)]) [] := by
 have hp : 2 ^ w ≤ 2 ^ 4 := Nat.pow_le_pow_right (by decide) hs.2.2
 have hK2 : K ≤ 15 := by omega
 have ca := gcat_fn hs hK
 unfold vlX
 obtain ⟨hs, -⟩ := hs
 refine fn1N_of pl9 (by kernel_rfl) Tryz.call9 Tryz.func9 rfl (by kernel_rfl) rfl [.cell 4 35, .tmp 5] (by kernel_rfl) fun Q hQ => ?_
 refine runW ?_
 refine callW [] [2] (ca) ?_
 refine runW ?_
 rcases hs with ⟨rfl, h1, h2⟩ | ⟨rfl, h2⟩ | ⟨rfl, h1, h2⟩
 ·
  have k1 := kind1_fn (a := (a : Int)) (w := (w : Int))
  have h := gimv_fn h1 h2 hK2
  rw [if_pos rfl] at hQ
  generalize (((a : Nat) : Int) : Rat) * (quo (a + 1) a ^ K - 1) = x at *
  repeat (first | (refine callV0 (k1) rfl rfl ?_) | (refine callV0 (h) rfl rfl ?_) | (refine runW ?_))
  exact endW [] hQ
 ·
  have k1 := kind2_fn (a := (a : Int)) (w := (w : Int))
  have h := gifv_fn h2 hK2
  rw [if_neg (by decide), if_pos rfl] at hQ
  generalize (((((2 ^ a + K % 2 ^ a) * 2 ^ (K / 2 ^ a) - 2 ^ a : Nat) : Int) : Rat)) = x at *
  repeat (first | (refine callV0 (k1) rfl rfl ?_) | (refine callV0 (h) rfl rfl ?_) | (refine runW ?_))
  exact endW [] hQ
 ·
  have k1 := kind3_fn (a := (a : Int)) (w := (w : Int))
  have h := gyvalue_fn (a := a) (by omega) hK2
  rw [if_neg (by decide), if_neg (by decide)] at hQ
  generalize ((((plAt a K).2.2.1 : Nat) : Int) : Rat) = x at *
  repeat (first | (refine callV0 (k1) rfl rfl ?_) | (refine callV0 (h) rfl rfl ?_) | (refine runW ?_))
  exact endW [] hQ
end Go.Proofs.YtdohmppildfjhaaGreatDoor
