import Derived.Test.YtdohmppildfjhaaGreatDoorKg
import Derived.Test.YtdohmppildfjhaaGreatDoorBc
import Derived.Test.YtdohmppildfjhaaGreatDoorGm
import Derived.Test.YtdohmppildfjhaaGreatDoorGe
import Derived.Test.YtdohmppildfjhaaGreatDoorGa
namespace Go.Proofs.YtdohmppildfjhaaGreatDoor
open Go.Eng Go.Vx
set_option linter.unusedSimpArgs false
set_option linter.unusedVariables false
set_option maxRecDepth 100000
set_option maxHeartbeats 8000000 in
theorem lnPosT_fn {x : Rat} {N T : Nat} (hx : RS 20 x) (hN : 1 ≤ N) (hN2 : N ≤ 64) (h0 : 1 ≤ x) (h1 : x ≤ tw 64) (hT : T ≤ 64) (hxT : x * hf T < 2) (hmin : ∀ j, j < T → 2 ≤ x * hf j) :
  LnE N (lnX (x * hf T) T N).1 (lnX (x * hf T) T N).2 ∧ RS 70000 (lnX (x * hf T) T N).1 ∧ RS 70000 (lnX (x * hf T) T N).2 ∧ Fn1 Tryz.prog 23 [RV x, .lit (.int .i64 (N : Int))] [] (.tup [BV (lnX (x * hf T) T N).1 (lnX (x * hf T) T N).2, .lit (.int .i64 0)]) [] := by
 have hge := halves2_ge h0 hmin
 have hE := lnX_ok (n := T) (bits := N) hge hxT hT hN hN2
 have o1 := halfB_fn (N := 64) (by decide)
 have o2 := two_fn (N := 64) (by decide)
 rw [show ((64 : Nat) : Int) = 64 from rfl] at o1 o2
 have s1 := (RS_hf (N := 64) (by decide)).mono (show 129 ≤ 400000 by decide)
 have s2 := (RS_tw (N := 64) (by decide)).mono (show 129 ≤ 400000 by decide)
 obtain ⟨c, hc, cm⟩ := rcmp_ge (hx.mono (show 20 ≤ 400000 by decide)) s1 (Rat.le_trans (by decide +kernel) h0)
 obtain ⟨c2, hc2, cm2⟩ := rcmp_le (hx.mono (show 20 ≤ 400000 by decide)) s2 h1
 obtain ⟨c3, hc3, cm3⟩ := rcmp_ge (hx.mono (show 20 ≤ 400000 by decide)) (RS_one.mono (show 1 ≤ 400000 by decide)) h0
 have one := rof1_fn
 have two := rof_fn (n := 2) (by decide) (by decide)
 have sm := RS_mul hx (RS_hf2 (k := 2) (N := T) (by decide) (by omega))
 have tn := rof_fn (n := (T : Int)) (by omega) (by omega)
 have sT : RS 1 (((T : Nat) : Int) : Rat) := RS_small (by omega)
 obtain ⟨q0, q1⟩ := slope_arg hge hxT
 have su := rsub_fn (sm.mono (show _ ≤ 400000 by decide)) (RS_one.mono (show 1 ≤ 400000 by decide))
 have ad := radd_fn (sm.mono (show _ ≤ 400000 by decide)) (RS_one.mono (show 1 ≤ 400000 by decide))
 have ssu := RS_sub sm RS_one
 have sad := RS_add sm RS_one
 have hne : x * hf T + 1 ≠ 0 := by grind
 have dv := rdiv_fn hne (ssu.mono (show _ ≤ 400000 by decide)) (sad.mono (show _ ≤ 400000 by decide))
 have st := (RS_div (by decide) ssu sad).mono (show _ ≤ 200 by decide)
 obtain ⟨sl1, r1, r2⟩ := slope_fn (b := N + 80) st q0 q1 (by omega) (by omega)
 have th := rmake_fn (p := 1) (q := 3) (by decide) (by decide) (by decide) (by decide) (by decide)
 have sth : RS 2 (((1 : Int) : Rat) / ((3 : Int) : Rat)) := RS_div (by decide) (RS_small (by decide)) (RS_small (by decide))
 rw [show ((1 : Int) : Rat) / ((3 : Int) : Rat) = 1 / 3 from rfl] at th sth
 obtain ⟨sl2, r3, r4⟩ := slope_fn (x := 1 / 3) (b := N + 80) (sth.mono (by decide)) (by decide +kernel) (by decide +kernel) (by omega) (by omega)
 have sc := scaled_fn (r3.mono (show 33000 ≤ 100000 by decide)) (r4.mono (show 33000 ≤ 100000 by decide)) (sT.mono (show 1 ≤ 100000 by decide))
 have pl := plus_fn (r1.mono (show 33000 ≤ 100000 by decide)) (r2.mono (show 33000 ≤ 100000 by decide)) ((RS_mul r3 sT).mono (show _ ≤ 100000 by decide)) ((RS_mul r4 sT).mono (show _ ≤ 100000 by decide))
 have so1 := RS_add r1 (RS_mul r3 sT)
 have so2 := RS_add r2 (RS_mul r4 sT)
 have ou := out_fn (bits := (N : Int) + 40) (B := N + 40) (by omega) (so1.mono (show _ ≤ 90000 by decide)) (so2.mono (show _ ≤ 90000 by decide))
 refine ⟨hE, (RS_dn' (by omega) so1).mono (by decide), (RS_up' (by omega) so2).mono (by decide), ?_⟩
 have hb : (N : Int) + 80 = ((N + 80 : Nat) : Int) := by omega
 unfold lnX
 clear hE s1 s2 so1 so2 r1 r2 r3 r4 st ssu sad hne q0 q1 sth hge
 generalize hdv : (x * hf T - 1) / (x * hf T + 1) = tt at *
 generalize (sloX tt (N + 80)).1 = L1 at *
 generalize (sloX tt (N + 80)).2 = H1 at *
 generalize h13 : (1 : Rat) / 3 = t3 at *
 generalize (sloX t3 (N + 80)).1 = L2 at *
 generalize (sloX t3 (N + 80)).2 = H2 at *
 generalize hTr : (((T : Nat) : Int) : Rat) = Tr at *
 generalize dn (L1 + L2 * Tr) (N + 40) = D at *
 generalize up (H1 + H2 * Tr) (N + 40) = U at *
 generalize L1 + L2 * Tr = La at *
 generalize H1 + H2 * Tr = Ha at *
 generalize L2 * Tr = Lb at *
 generalize H2 * Tr = Hb at *
 generalize hf 64 = v1 at *
 generalize tw 64 = v2 at *
 have key : ∀ n, n ≤ T → Fn1 Tryz.prog 52 [.lit (.int .i64 (n : Int))] [] (RV (hf n)) [] ∧ Fn1 Tryz.prog 24 [RV x, RV (hf n)] [] (RV (x * hf n)) [] ∧ ∃ c : Int, (if n < T then 0 ≤ c else c < 0) ∧ Fn1 Tryz.prog 11 [RV (x * hf n), RV ((2 : Int) : Rat)] [] (.lit (.int .i64 c)) [] := by
  intro n hn
  have sn := RS_hf (N := n) (by omega)
  refine ⟨halfB_fn (by omega), rmul_fn (hx.mono (show 20 ≤ 400000 by decide)) (sn.mono (show 129 ≤ 400000 by decide)), ?_⟩
  by_cases hnT : n < T
  ·
   obtain ⟨c, hc, cm⟩ := rcmp_ge ((RS_mul hx sn).mono (show _ ≤ 400000 by decide)) (RS_two.mono (show 1 ≤ 400000 by decide)) (hmin n hnT)
   exact ⟨c, by rw [if_pos hnT]; exact hc, cm⟩
  ·
   obtain rfl : n = T := by omega
   obtain ⟨c, hc, cm⟩ := rcmp_lt ((RS_mul hx sn).mono (show _ ≤ 400000 by decide)) (RS_two.mono (show 1 ≤ 400000 by decide)) hxT
   exact ⟨c, by rw [if_neg hnT]; exact hc, cm⟩
 clear hmin hxT sm
 generalize ((2 : Int) : Rat) = w2 at *
 generalize (1 : Rat) = w1 at *
 refine fn1N_of pl23 (by kernel_rfl) Tryz.call23 Tryz.func23 rfl (by kernel_rfl) rfl [.cell 4 57, .tmp 5] (by kernel_rfl) fun Q hQ => ?_
 repeat (first | (refine callV0 (o1) rfl rfl ?_) | (refine callV0 (cm) rfl rfl ?_) | (refine callV0 (o2) rfl rfl ?_) | (refine callV0 (cm2) rfl rfl ?_) | (refine callV0 (one) rfl rfl ?_) | (refine callV0 (cm3) rfl rfl ?_) | (refine runW ?_))
 refine loopW (X := Nat) (st := fun n => ([(1, .lit (.int .i64 (N : Int))), (2, .ref 0 0 0 0), (4, .ref 1 0 0 0), (10, .lit (.int .i64 ((N + 80 : Nat) : Int))), (11, .lit (.int .i64 (n : Int)))], [some (rwC x), some zbC]))
  (inv := fun n => n ≤ T) (m := fun n => T - n) 0 [some 0, some 1] (Nat.zero_le _) ?_
 intro n hn
 obtain ⟨hh, mu, c4, hc4, cm4⟩ := key n hn
 by_cases hnT : n < T
 ·
  rw [if_pos hnT] at hc4
  have e1 : (n : Int) + 1 = ((n + 1 : Nat) : Int) := by omega
  clear key sl1 sl2 sc pl ou su ad dv
  generalize x * hf n = y at *
  generalize hf n = hn' at *
  repeat (first | (refine callV0 (hh) rfl rfl ?_) | (refine callV0 (mu) rfl rfl ?_) | (refine callV0 (two) rfl rfl ?_) | (refine callV0 (cm4) rfl rfl ?_) | (refine runW ?_))
  refine nextW (n + 1) [some 0, some 1] (by omega) (by omega)
 ·
  rw [if_neg hnT] at hc4
  obtain rfl : n = T := by omega
  clear key
  generalize x * hf n - w1 = y1 at *
  generalize x * hf n + w1 = y2 at *
  generalize x * hf n = y at *
  generalize hf n = hn' at *
  repeat (first | (refine callV0 (hh) rfl rfl ?_) | (refine callV0 (mu) rfl rfl ?_) | (refine callV0 (two) rfl rfl ?_) | (refine callV0 (cm4) rfl rfl ?_) | (refine callV0 (one) rfl rfl ?_) | (refine callV0 (su) rfl rfl ?_) | (refine callV0 (ad) rfl rfl ?_) | (refine callV0 (dv) rfl rfl ?_) | (refine callV0 (th) rfl rfl ?_) | (refine callV0 (sl1) rfl rfl ?_) | (refine callV0 (sl2) rfl rfl ?_) | (refine callV0 (tn) rfl rfl ?_) | (refine callV0 (sc) rfl rfl ?_) | (refine callV0 (pl) rfl rfl ?_) | (refine callV0 (ou) rfl rfl ?_) | (simp (maxSteps := 1000000) (disch := (first | omega | (simp only [lnA, List.length_map, List.length_range, true_and, and_true]; (try omega); done) | fail)) only [go_sem, hb, Int.reduceEq, Int.reduceToNat, Nat.reduceAdd, Nat.reduceMul, Nat.reduceEqDiff, ↓reduceIte]))
  exact endW [] hQ
theorem inv_bounds {x : Rat} (h0 : x < 1) (h1 : hf 64 ≤ x) : 0 < x ∧ 1 ≤ 1 / x ∧ 1 / x ≤ tw 64 := by
 have hp := hf_pos 64
 have hx0 : 0 < x := by grind
 refine ⟨hx0, ?_, ?_⟩
 ·
  have := inv_le hx0 (Rat.le_of_lt h0)
  grind
 ·
  have h := inv_le hp h1
  have e : 1 / hf 64 = tw 64 := by
   have := hf_tw 64
   generalize hf 64 = a at *
   generalize tw 64 = b at *
   grind
  rw [e] at h
  exact h
set_option maxHeartbeats 4000000 in
theorem lnNegG_fn {x L H : Rat} {N : Nat} (hx : RS 15 x) (h0 : x < 1) (h1 : hf 64 ≤ x) (r1 : RS 70000 L) (r2 : RS 70000 H) (ln : Fn1 Tryz.prog 23 [RV (1 / x), .lit (.int .i64 (N : Int))] [] (.tup [BV L H, .lit (.int .i64 0)]) []) (hN : 1 ≤ N) (hN2 : N ≤ 64) :
  Fn1 Tryz.prog 23 [RV x, .lit (.int .i64 (N : Int))] [] (.tup [BV (0 - H) (0 - L), .lit (.int .i64 0)]) [] := by
 obtain ⟨hx0, -, -⟩ := inv_bounds h0 h1
 have hne : x ≠ 0 := by grind
 have o1 := halfB_fn (N := 64) (by decide)
 have o2 := two_fn (N := 64) (by decide)
 rw [show ((64 : Nat) : Int) = 64 from rfl] at o1 o2
 obtain ⟨c, hc, cm⟩ := rcmp_ge (hx.mono (show 15 ≤ 400000 by decide)) ((RS_hf (N := 64) (by decide)).mono (show 129 ≤ 400000 by decide)) h1
 obtain ⟨c2, hc2, cm2⟩ := rcmp_le (hx.mono (show 15 ≤ 400000 by decide)) ((RS_tw (N := 64) (by decide)).mono (show 129 ≤ 400000 by decide)) (Rat.le_trans (Rat.le_of_lt h0) (by decide +kernel))
 obtain ⟨c3, hc3, cm3⟩ := rcmp_lt (hx.mono (show 15 ≤ 400000 by decide)) (RS_one.mono (show 1 ≤ 400000 by decide)) h0
 have one := rof1_fn
 have dv := rdiv_fn hne (RS_one.mono (show 1 ≤ 400000 by decide)) (hx.mono (show 15 ≤ 400000 by decide))
 have m1 := minusB_fn (r1.mono (show 70000 ≤ 400000 by decide))
 have m2 := minusB_fn (r2.mono (show 70000 ≤ 400000 by decide))
 clear r1 r2 hx0 hne h0 h1 hx
 generalize 1 / x = y at *
 generalize 0 - L = mL at *
 generalize 0 - H = mH at *
 generalize hf 64 = v1 at *
 generalize tw 64 = v2 at *
 generalize (1 : Rat) = w1 at *
 refine fn1N_of pl23 (by kernel_rfl) Tryz.call23 Tryz.func23 rfl (by kernel_rfl) rfl [.cell 4 57, .tmp 5] (by kernel_rfl) fun Q hQ => ?_
 repeat (first | (refine callV0 (o1) rfl rfl ?_) | (refine callV0 (cm) rfl rfl ?_) | (refine callV0 (o2) rfl rfl ?_) | (refine callV0 (cm2) rfl rfl ?_) | (refine callV0 (one) rfl rfl ?_) | (refine callV0 (cm3) rfl rfl ?_) | (refine callV0 (dv) rfl rfl ?_) | (refine callV0 (ln) rfl rfl ?_) | (refine callV0 (m1) rfl rfl ?_) | (refine callV0 (m2) rfl rfl ?_) | (refine runW ?_))
 exact endW [] hQ
def fT (p : Nat → Bool) : Nat → Nat → Nat
 | 0, n => n
 | f + 1, n => if p n then n else fT p f (n + 1)
theorem fT_eq {p : Nat → Bool} {T : Nat} (h1 : ∀ j, j < T → p j = false) (h2 : p T = true) : ∀ f n, n ≤ T → T ≤ n + f → fT p f n = T
 | 0, n, h3, h4 => by unfold fT; omega
 | f + 1, n, h3, h4 => by
  unfold fT
  by_cases h : n = T
  ·
   subst h
   rw [if_pos h2]
  ·
   rw [if_neg (by rw [h1 n (by omega)]; simp)]
   exact fT_eq h1 h2 f (n + 1) (by omega) (by omega)
def lnT (x : Rat) : Nat := fT (fun j => decide (x * hf j < 2)) 64 0
def lnHi (x : Rat) : Rat := if x < 1 then 0 - (lnX (1 / x * hf (lnT (1 / x))) (lnT (1 / x)) 64).1 else (lnX (x * hf (lnT x)) (lnT x) 64).2
def exT (y : Rat) : Nat := fT (fun j => decide (y * hf j ≤ 1 / 2)) 7 0
def exHi (y : Rat) : Rat := up (1 / (powX y 232 (exT y)).1) 144
def most3 (h : Rat) : Rat := if 1 < h then 1 else h
def most2 (l : Rat) : Rat := if l ≤ 0 then 1 else most3 (exHi (if 64 < l then 64 else l))
def mostX (c mu : Rat) (n : Nat) : Rat := most2 (dn (c * mu * ((((n : Nat) : Int) : Rat) / mu - 1 - lnHi ((((n : Nat) : Int) : Rat) / mu))) 64)
theorem lnG_fn {x : Rat} (hx : RS 15 x) (h0 : hf 64 ≤ x) (h1 : x ≤ tw 64) : RS 80000 (lnHi x) ∧ ∃ L, Fn1 Tryz.prog 23 [RV x, .lit (.int .i64 64)] [] (.tup [BV L (lnHi x), .lit (.int .i64 0)]) [] := by
 by_cases hx1 : x < 1
 ·
  obtain ⟨i0, i1, i2⟩ := inv_bounds hx1 h0
  obtain ⟨T, hT, hxT, hmin⟩ := halves2_of i2
  obtain ⟨hE, r1, r2, ln⟩ := lnPosT_fn (x := 1 / x) (N := 64) (T := T) ((RS_div (by decide) RS_one hx).mono (by decide)) (by decide) (by decide) i1 i2 hT hxT hmin
  have eT : lnT (1 / x) = T := fT_eq (fun j hj => decide_eq_false (Rat.not_lt.2 (hmin j hj))) (decide_eq_true hxT) 64 0 (Nat.zero_le _) (by omega)
  have e : lnHi x = 0 - (lnX (1 / x * hf T) T 64).1 := by unfold lnHi; rw [if_pos hx1, eT]
  rw [e]
  exact ⟨(RS_sub RS_zero r1).mono (by decide), _, lnNegG_fn hx hx1 h0 r1 r2 ln (by decide) (by decide)⟩
 ·
  obtain ⟨T, hT, hxT, hmin⟩ := halves2_of h1
  obtain ⟨hE, r1, r2, ln⟩ := lnPosT_fn (x := x) (N := 64) (T := T) (hx.mono (by decide)) (by decide) (by decide) (Rat.not_lt.1 hx1) h1 hT hxT hmin
  have eT : lnT x = T := fT_eq (fun j hj => decide_eq_false (Rat.not_lt.2 (hmin j hj))) (decide_eq_true hxT) 64 0 (Nat.zero_le _) (by omega)
  have e : lnHi x = (lnX (x * hf T) T 64).2 := by unfold lnHi; rw [if_neg hx1, eT]
  rw [e]
  exact ⟨r2.mono (by decide), _, ln⟩
theorem exG_fn {y : Rat} (hy : RS 80 y) (h0 : 0 < y) (h1 : y ≤ 64) : RS 5000 (exHi y) ∧ ∃ L, Fn1 Tryz.prog 15 [RV (0 - y), .lit (.int .i64 24)] [] (.tup [BV L (exHi y), .lit (.int .i64 0)]) [] := by
 obtain ⟨T, hT, hx1, hmin, hP, s1, s2, ex⟩ := expNegT_fn (x := 0 - y) (N := 24) ((RS_sub RS_zero hy).mono (by decide)) (by decide) (by decide) (by grind) (by rw [show ((-64 : Int) : Rat) = -64 by decide +kernel]; grind)
 have ey : 0 - (0 - y) = y := by grind
 rw [ey] at hx1 hmin hP s1 s2 ex
 have eT : exT y = T := fT_eq (fun j hj => decide_eq_false (hmin j hj)) (decide_eq_true hx1) 7 0 (Nat.zero_le _) (by omega)
 have e : exHi y = up (1 / (powX y 232 T).1) 144 := by unfold exHi; rw [eT]
 rw [e]
 refine ⟨(RS_up' (by decide) (RS_div (by decide) RS_one s1)).mono (by decide), _, ex⟩
def wF (k a m : Nat) : Nat → Nat → Rat
 | 0, K => if m ≤ K then 1 else 0
 | n + 1, K => if m ≤ K then 1 else chX k a K * wF k a m n (K + 1) + (1 - chX k a K) * wF k a m n K
theorem wF_top {k a m n K : Nat} (h : m ≤ K) : wF k a m n K = 1 := by
 cases n <;> (unfold wF; rw [if_pos h])
theorem wF_it {k a w m : Nat} (hm : m ≤ 2 ^ w - 1) {g : Ky → Rat} (hg : ∀ (K : Nat) (T : Int) (F : Bool), K ≤ 2 ^ w - 1 → g ((K : Int), T, F) = if m ≤ K then 1 else 0) : ∀ (n K : Nat) (T : Int) (F : Bool), K ≤ 2 ^ w - 1 → itT k a w g n ((K : Int), T, F) = wF k a m n K
 | 0, K, T, F, hK => by unfold itT wF; exact hg K T F hK
 | n + 1, K, T, F, hK => by
  unfold itT stT
  dsimp only
  by_cases hT : K = 2 ^ w - 1
  ·
   rw [if_pos (by rw [hT]), wF_it hm hg n K T true hK, wF_top (by omega), wF_top (by omega)]
  ·
   rw [if_neg (by omega), Int.toNat_natCast]
   have e : ((K : Int) + 1) = ((K + 1 : Nat) : Int) := by omega
   rw [e, wF_it hm hg n (K + 1) T F (by omega), wF_it hm hg n K T F hK]
   by_cases h : m ≤ K
   ·
    rw [wF_top (by omega), wF_top h, wF_top h]
    generalize chX k a K = c
    grind
   ·
    conv => rhs; unfold wF
    rw [if_neg h]
def wL : List Rat → List Rat → List Rat
 | c :: cs, x :: r => (match r with | [] => c + (1 - c) * x | y :: _ => c * y + (1 - c) * x) :: wL cs r
 | _, _ => []
def wN (cs : List Rat) (m : Nat) : Nat → List Rat
 | 0 => List.replicate m 0
 | n + 1 => wL cs (wN cs m n)
theorem wL_eq {k a m n : Nat} : ∀ (d K : Nat), K + d = m → wL ((List.range' K d).map (chX k a)) ((List.range' K d).map (wF k a m n)) = (List.range' K d).map (wF k a m (n + 1))
 | 0, K, h => rfl
 | d + 1, K, h => by
  rw [List.range'_succ]
  simp only [List.map_cons]
  unfold wL
  rw [wL_eq d (K + 1) (by omega)]
  congr 1
  have hK : ¬ m ≤ K := by omega
  conv => rhs; unfold wF
  rw [if_neg hK]
  cases d with
  | zero =>
   have : wF k a m n (K + 1) = 1 := wF_top (by omega)
   rw [this]
   simp only [List.range'_zero, List.map_nil]
   grind
  | succ d =>
   rw [List.range'_succ]
   simp only [List.map_cons]
theorem wN_eq {k a m : Nat} : ∀ n, wN ((List.range m).map (chX k a)) m n = (List.range m).map (wF k a m n)
 | 0 => by
  unfold wN
  apply List.ext_getElem?
  intro i
  rw [List.getElem?_replicate, List.getElem?_map]
  by_cases h : i < m
  ·
   rw [if_pos h, List.getElem?_range h, Option.map_some]
   unfold wF
   rw [if_neg (by omega)]
  ·
   rw [if_neg h, List.getElem?_eq_none (by simp; omega)]
   rfl
 | n + 1 => by
  unfold wN
  rw [wN_eq n, List.range_eq_range']
  exact wL_eq m 0 (by omega)
def allW (k a m n : Nat) : Rat := (wN ((List.range m).map (chX k a)) m n).headD 0
theorem allW_eq {k a m n : Nat} (hm : 1 ≤ m) : allW k a m n = wF k a m n 0 := by
 unfold allW
 rw [wN_eq]
 obtain ⟨d, rfl⟩ : ∃ d, m = d + 1 := ⟨m - 1, by omega⟩
 rw [List.range_succ_eq_map]
 rfl
def chk (k a m n : Nat) : Bool := decide ((if vlX k a m < (((n : Nat) : Int) : Rat) then 1 - allW k a m n else allW k a m n) ≤ mostX (chX k a (m - 1)) (vlX k a m) n) && decide (0 < mostX (chX k a (m - 1)) (vlX k a m) n)
theorem vl_key : ∀ ka ∈ kas, ∀ K ∈ List.range 16, ((vlX ka.1 ka.2 K).num.natAbs < 2 ^ 128 ∧ (vlX ka.1 ka.2 K).den < 2 ^ 128 ∧ 0 ≤ vlX ka.1 ka.2 K ∧ vlX ka.1 ka.2 K ≤ 1099511627776) ∧
  (∀ m ∈ List.range 16, decide (vlX ka.1 ka.2 m ≤ vlX ka.1 ka.2 K) = decide (m ≤ K)) ∧ (1 ≤ K → (vlX ka.1 ka.2 K ≠ 0 ∧ hf 64 ≤ 1 / vlX ka.1 ka.2 K ∧ 16 / vlX ka.1 ka.2 K ≤ tw 64)) := by decide +kernel
theorem RS_128 {x : Rat} (h1 : x.num.natAbs < 2 ^ 128) (h2 : x.den < 2 ^ 128) : RS 2 x := ⟨wg_bl (bl_le_of h1), wg_bl (bl_le_of h2)⟩
theorem vl_rs {k a w K : Nat} (hs : smallG k a w) (hK : K ≤ 15) : RS 2 (vlX k a K) := by
 obtain ⟨⟨h1, h2, -⟩, -⟩ := vl_key _ (kas_mem hs) K (List.mem_range.2 (by omega))
 exact RS_128 h1 h2
theorem div_mono {x y v : Rat} (hv : 0 < v) (h : x ≤ y) : x / v ≤ y / v := by
 rw [Rat.div_def, Rat.div_def]
 exact Rat.mul_le_mul_of_nonneg_right h (Rat.le_of_lt (Rat.inv_pos.2 hv))
theorem vl_quo {k a w K n : Nat} (hs : smallG k a w) (hK : K ≤ 15) (hK1 : 1 ≤ K) (hn : 1 ≤ n) (hn2 : n ≤ 16) : vlX k a K ≠ 0 ∧ vlX k a K ≤ 1099511627776 ∧ hf 64 ≤ (((n : Nat) : Int) : Rat) / vlX k a K ∧ (((n : Nat) : Int) : Rat) / vlX k a K ≤ tw 64 := by
 obtain ⟨⟨-, -, h0, h1⟩, -, h2⟩ := vl_key _ (kas_mem hs) K (List.mem_range.2 (by omega))
 obtain ⟨h3, h4, h5⟩ := h2 hK1
 dsimp only at h0 h1 h3 h4 h5
 have hp : 0 < vlX k a K := by grind
 have c1 : ((1 : Int) : Rat) ≤ (((n : Nat) : Int) : Rat) := Rat.intCast_le_intCast.2 (by omega)
 have c2 : (((n : Nat) : Int) : Rat) ≤ ((16 : Int) : Rat) := Rat.intCast_le_intCast.2 (by omega)
 rw [show ((1 : Int) : Rat) = 1 from rfl] at c1
 rw [show ((16 : Int) : Rat) = 16 by decide +kernel] at c2
 exact ⟨h3, h1, Rat.le_trans h4 (div_mono hp c1), Rat.le_trans (div_mono hp c2) h5⟩
def cyP (y : Rat) : V := .rref 3 [enP y] 0 0
attribute [go_sem] cyP enP
def indX (y v : Rat) : Rat := if y ≤ v then 1 else 0
def tlX (k a : Nat) (y : Rat) (L : Ds) : Rat := L.foldl (fun o e => o + e.2 * indX y (vlX k a e.1.1.toNat)) 0
def caC (v k a b : Nat) : Ob := .cells [.ref v 0 0 0, .lit (.int .i64 (k : Int)), .lit (.int .i64 (a : Int)), .lit (.int .i64 (b : Int))]
def caP (k a b n w X : Nat) : V := .rref 4 [[.ptr 3 [[.row 1 ((words (nwd n w) X).map (ie .u64)), .lit (.int .i64 (n : Int)), .lit (.int .i64 (w : Int))]] 0 0, .lit (.int .i64 (k : Int)), .lit (.int .i64 (a : Int)), .lit (.int .i64 (b : Int))]] 0 0
attribute [go_sem] caC caP
def wd (k a b : Nat) : Nat := w1 k a b + w2 k a b + 1
end Go.Proofs.YtdohmppildfjhaaGreatDoor
