import Derived.Test.YtdohmppildfjhaaGreatKh
import Derived.Test.YtdohmppildfjhaaGreatGi
import Derived.Test.YtdohmppildfjhaaGreatGm
namespace Go.Proofs.YtdohmppildfjhaaGreat
open Go.Eng Go.Vx
set_option linter.unusedSimpArgs false
set_option linter.unusedVariables false
set_option maxRecDepth 100000
def fT (p : Nat → Bool) : Nat → Nat → Nat
 | 0, n => n
 | f + 1, n => if p n then n else fT p f (n + 1)
theorem fT_eq {p : Nat → Bool} {T : Nat} (h1 : ∀ j, j < T → p j = false) (h2 : p T = true) : ∀ f n, n ≤ T → T ≤ n + f → fT p f n = T
 | 0, n, h3, h4 => by unfold fT; omega
 | f + 1, n, h3, h4 => by
  unfold fT
  by_cases h : n = T
  ·
   subst h
   rw [if_pos h2]
  ·
   rw [if_neg (by rw [h1 n (by omega)]; simp)]
   exact fT_eq h1 h2 f (n + 1) (by omega) (by omega)
def lnT (x : Rat) : Nat := fT (fun j => decide (x * hf j < 2)) 64 0
def lnHi (x : Rat) : Rat := if x < 1 then 0 - (lnX (1 / x * hf (lnT (1 / x))) (lnT (1 / x)) 64).1 else (lnX (x * hf (lnT x)) (lnT x) 64).2
def exT (y : Rat) : Nat := fT (fun j => decide (y * hf j ≤ 1 / 2)) 7 0
def exHi (y : Rat) : Rat := up (1 / (powX y 232 (exT y)).1) 144
def most3 (h : Rat) : Rat := if 1 < h then 1 else h
def most2 (l : Rat) : Rat := if l ≤ 0 then 1 else most3 (exHi (if 64 < l then 64 else l))
def mostX (c mu : Rat) (n : Nat) : Rat := most2 (dn (c * mu * ((((n : Nat) : Int) : Rat) / mu - 1 - lnHi ((((n : Nat) : Int) : Rat) / mu))) 64)
theorem lnG_fn {x : Rat} (hx : RS 15 x) (h0 : hf 64 ≤ x) (h1 : x ≤ tw 64) : RS 80000 (lnHi x) ∧ ∃ L, Fn1 Tryz.prog 32 [RV x, .lit (.int .i64 64)] [] (.tup [BV L (lnHi x), .lit (.int .i64 0)]) [] := by
 by_cases hx1 : x < 1
 ·
  obtain ⟨i0, i1, i2⟩ := inv_bounds hx1 h0
  obtain ⟨T, hT, hxT, hmin⟩ := halves2_of i2
  obtain ⟨hE, r1, r2, ln⟩ := lnPosT_fn (x := 1 / x) (N := 64) (T := T) ((RS_div (by decide) RS_one hx).mono (by decide)) (by decide) (by decide) i1 i2 hT hxT hmin
  have eT : lnT (1 / x) = T := fT_eq (fun j hj => decide_eq_false (Rat.not_lt.2 (hmin j hj))) (decide_eq_true hxT) 64 0 (Nat.zero_le _) (by omega)
  have e : lnHi x = 0 - (lnX (1 / x * hf T) T 64).1 := by unfold lnHi; rw [if_pos hx1, eT]
  rw [e]
  exact ⟨(RS_sub RS_zero r1).mono (by decide), _, lnNegG_fn hx hx1 h0 r1 r2 ln (by decide) (by decide)⟩
 ·
  obtain ⟨T, hT, hxT, hmin⟩ := halves2_of h1
  obtain ⟨hE, r1, r2, ln⟩ := lnPosT_fn (x := x) (N := 64) (T := T) (hx.mono (by decide)) (by decide) (by decide) (Rat.not_lt.1 hx1) h1 hT hxT hmin
  have eT : lnT x = T := fT_eq (fun j hj => decide_eq_false (Rat.not_lt.2 (hmin j hj))) (decide_eq_true hxT) 64 0 (Nat.zero_le _) (by omega)
  have e : lnHi x = (lnX (x * hf T) T 64).2 := by unfold lnHi; rw [if_neg hx1, eT]
  rw [e]
  exact ⟨r2.mono (by decide), _, ln⟩
theorem exG_fn {y : Rat} (hy : RS 80 y) (h0 : 0 < y) (h1 : y ≤ 64) : RS 5000 (exHi y) ∧ ∃ L, Fn1 Tryz.prog 35 [RV (0 - y), .lit (.int .i64 24)] [] (.tup [BV L (exHi y), .lit (.int .i64 0)]) [] := by
 obtain ⟨T, hT, hx1, hmin, hP, s1, s2, ex⟩ := expNegT_fn (x := 0 - y) (N := 24) ((RS_sub RS_zero hy).mono (by decide)) (by decide) (by decide) (by grind) (by rw [show ((-64 : Int) : Rat) = -64 by decide +kernel]; grind)
 have ey : 0 - (0 - y) = y := by grind
 rw [ey] at hx1 hmin hP s1 s2 ex
 have eT : exT y = T := fT_eq (fun j hj => decide_eq_false (hmin j hj)) (decide_eq_true hx1) 7 0 (Nat.zero_le _) (by omega)
 have e : exHi y = up (1 / (powX y 232 T).1) 144 := by unfold exHi; rw [eT]
 rw [e]
 refine ⟨(RS_up' (by decide) (RS_div (by decide) RS_one s1)).mono (by decide), _, ex⟩
end Go.Proofs.YtdohmppildfjhaaGreat

namespace Go.Proofs.YtdohmppildfjhaaGreat
open Go.Eng Go.Vx
set_option linter.unusedSimpArgs false
set_option linter.unusedVariables false
def wF (k a m : Nat) : Nat → Nat → Rat
 | 0, K => if m ≤ K then 1 else 0
 | n + 1, K => if m ≤ K then 1 else chX k a K * wF k a m n (K + 1) + (1 - chX k a K) * wF k a m n K
theorem wF_top {k a m n K : Nat} (h : m ≤ K) : wF k a m n K = 1 := by
 cases n <;> (unfold wF; rw [if_pos h])
theorem wF_it {k a w m : Nat} (hm : m ≤ 2 ^ w - 1) {g : Ky → Rat} (hg : ∀ (K : Nat) (T : Int) (F : Bool), K ≤ 2 ^ w - 1 → g ((K : Int), T, F) = if m ≤ K then 1 else 0) : ∀ (n K : Nat) (T : Int) (F : Bool), K ≤ 2 ^ w - 1 → itT k a w g n ((K : Int), T, F) = wF k a m n K
 | 0, K, T, F, hK => by unfold itT wF; exact hg K T F hK
 | n + 1, K, T, F, hK => by
  unfold itT stT
  dsimp only
  by_cases hT : K = 2 ^ w - 1
  ·
   rw [if_pos (by rw [hT]), wF_it hm hg n K T true hK, wF_top (by omega), wF_top (by omega)]
  ·
   rw [if_neg (by omega), Int.toNat_natCast]
   have e : ((K : Int) + 1) = ((K + 1 : Nat) : Int) := by omega
   rw [e, wF_it hm hg n (K + 1) T F (by omega), wF_it hm hg n K T F hK]
   by_cases h : m ≤ K
   ·
    rw [wF_top (by omega), wF_top h, wF_top h]
    generalize chX k a K = c
    grind
   ·
    conv => rhs; unfold wF
    rw [if_neg h]
def wL : List Rat → List Rat → List Rat
 | c :: cs, x :: r => (match r with | [] => c + (1 - c) * x | y :: _ => c * y + (1 - c) * x) :: wL cs r
 | _, _ => []
def wN (cs : List Rat) (m : Nat) : Nat → List Rat
 | 0 => List.replicate m 0
 | n + 1 => wL cs (wN cs m n)
theorem wL_eq {k a m n : Nat} : ∀ (d K : Nat), K + d = m → wL ((List.range' K d).map (chX k a)) ((List.range' K d).map (wF k a m n)) = (List.range' K d).map (wF k a m (n + 1))
 | 0, K, h => rfl
 | d + 1, K, h => by
  rw [List.range'_succ]
  simp only [List.map_cons]
  unfold wL
  rw [wL_eq d (K + 1) (by omega)]
  congr 1
  have hK : ¬ m ≤ K := by omega
  conv => rhs; unfold wF
  rw [if_neg hK]
  cases d with
  | zero =>
   have : wF k a m n (K + 1) = 1 := wF_top (by omega)
   rw [this]
   simp only [List.range'_zero, List.map_nil]
   grind
  | succ d =>
   rw [List.range'_succ]
   simp only [List.map_cons]
theorem wN_eq {k a m : Nat} : ∀ n, wN ((List.range m).map (chX k a)) m n = (List.range m).map (wF k a m n)
 | 0 => by
  unfold wN
  apply List.ext_getElem?
  intro i
  rw [List.getElem?_replicate, List.getElem?_map]
  by_cases h : i < m
  ·
   rw [if_pos h, List.getElem?_range h, Option.map_some]
   unfold wF
   rw [if_neg (by omega)]
  ·
   rw [if_neg h, List.getElem?_eq_none (by simp; omega)]
   rfl
 | n + 1 => by
  unfold wN
  rw [wN_eq n, List.range_eq_range']
  exact wL_eq m 0 (by omega)
def allW (k a m n : Nat) : Rat := (wN ((List.range m).map (chX k a)) m n).headD 0
theorem allW_eq {k a m n : Nat} (hm : 1 ≤ m) : allW k a m n = wF k a m n 0 := by
 unfold allW
 rw [wN_eq]
 obtain ⟨d, rfl⟩ : ∃ d, m = d + 1 := ⟨m - 1, by omega⟩
 rw [List.range_succ_eq_map]
 rfl
def chk (k a m n : Nat) : Bool := decide ((if vlX k a m < (((n : Nat) : Int) : Rat) then 1 - allW k a m n else allW k a m n) ≤ mostX (chX k a (m - 1)) (vlX k a m) n) && decide (0 < mostX (chX k a (m - 1)) (vlX k a m) n)
theorem vl_key : ∀ ka ∈ kas, ∀ K ∈ List.range 16, ((vlX ka.1 ka.2 K).num.natAbs < 2 ^ 128 ∧ (vlX ka.1 ka.2 K).den < 2 ^ 128 ∧ 0 ≤ vlX ka.1 ka.2 K ∧ vlX ka.1 ka.2 K ≤ 1099511627776) ∧
  (∀ m ∈ List.range 16, decide (vlX ka.1 ka.2 m ≤ vlX ka.1 ka.2 K) = decide (m ≤ K)) ∧ (1 ≤ K → (vlX ka.1 ka.2 K ≠ 0 ∧ hf 64 ≤ 1 / vlX ka.1 ka.2 K ∧ 16 / vlX ka.1 ka.2 K ≤ tw 64)) := by decide +kernel
theorem RS_128 {x : Rat} (h1 : x.num.natAbs < 2 ^ 128) (h2 : x.den < 2 ^ 128) : RS 2 x := ⟨wg_bl (bl_le_of h1), wg_bl (bl_le_of h2)⟩
theorem vl_rs {k a w K : Nat} (hs : smallG k a w) (hK : K ≤ 15) : RS 2 (vlX k a K) := by
 obtain ⟨⟨h1, h2, -⟩, -⟩ := vl_key _ (kas_mem hs) K (List.mem_range.2 (by omega))
 exact RS_128 h1 h2
theorem vl_ind {k a w m K : Nat} (hs : smallG k a w) (hm : m ≤ 15) (hK : K ≤ 15) : (vlX k a m ≤ vlX k a K) ↔ m ≤ K := by
 obtain ⟨-, h, -⟩ := vl_key _ (kas_mem hs) K (List.mem_range.2 (by omega))
 have := h m (List.mem_range.2 (by omega))
 simpa using this
theorem div_mono {x y v : Rat} (hv : 0 < v) (h : x ≤ y) : x / v ≤ y / v := by
 rw [Rat.div_def, Rat.div_def]
 exact Rat.mul_le_mul_of_nonneg_right h (Rat.le_of_lt (Rat.inv_pos.2 hv))
theorem vl_quo {k a w K n : Nat} (hs : smallG k a w) (hK : K ≤ 15) (hK1 : 1 ≤ K) (hn : 1 ≤ n) (hn2 : n ≤ 16) : vlX k a K ≠ 0 ∧ vlX k a K ≤ 1099511627776 ∧ hf 64 ≤ (((n : Nat) : Int) : Rat) / vlX k a K ∧ (((n : Nat) : Int) : Rat) / vlX k a K ≤ tw 64 := by
 obtain ⟨⟨-, -, h0, h1⟩, -, h2⟩ := vl_key _ (kas_mem hs) K (List.mem_range.2 (by omega))
 obtain ⟨h3, h4, h5⟩ := h2 hK1
 dsimp only at h0 h1 h3 h4 h5
 have hp : 0 < vlX k a K := by grind
 have c1 : ((1 : Int) : Rat) ≤ (((n : Nat) : Int) : Rat) := Rat.intCast_le_intCast.2 (by omega)
 have c2 : (((n : Nat) : Int) : Rat) ≤ ((16 : Int) : Rat) := Rat.intCast_le_intCast.2 (by omega)
 rw [show ((1 : Int) : Rat) = 1 from rfl] at c1
 rw [show ((16 : Int) : Rat) = 16 by decide +kernel] at c2
 exact ⟨h3, h1, Rat.le_trans h4 (div_mono hp c1), Rat.le_trans (div_mono hp c2) h5⟩
end Go.Proofs.YtdohmppildfjhaaGreat
