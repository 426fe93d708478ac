import Derived.Test.YtdohmppildfjhaaGreatDoorGj
import Derived.Test.YtdohmppildfjhaaGreatDoorGg
namespace Go.Proofs.YtdohmppildfjhaaGreatDoor
open Go.Eng Go.Vx
set_option linter.unusedSimpArgs false
set_option linter.unusedVariables false
set_option maxRecDepth 100000
def rzV : V := .agg [.lit (.slice none 0 0), .lit (.bool false), .lit (.slice none 0 0)]
attribute [go_sem] rzV
set_option maxHeartbeats 1000000 in
theorem cchanceT_fn {k a w K : Nat} (hs : smallG k a w) (hK : K = 2 ^ w - 1) : Fn1 Tryz.prog 21 [pR k a w, .lit (.int .i64 (K : Int))] [] (.tup [rzV, .lit (.int .i64 0)]) [] := by
 obtain ⟨hg, h4⟩ := smallG_good hs
 have ca := gcat_fn hs (K := K) (by omega)
 have ct := cTop_fn hg h4
 rw [← hK] at ct
 refine fn1N_of pl21 (by kernel_rfl) Tryz.call21 Tryz.func21 rfl (by kernel_rfl) rfl [.cell 4 35, .tmp 5] (by kernel_rfl) fun Q hQ => ?_
 refine runW ?_
 refine callW [] [2] (ca) ?_
 refine runW ?_
 refine callV0 (ct) rfl rfl ?_
 simp (maxSteps := 1000000) (disch := (first | omega | (simp only [lnA, List.length_map, List.length_range, true_and, and_true]; (try omega); done) | fail)) only [go_sem, decide_true, Int.reduceEq, Int.reduceToNat, Nat.reduceAdd, Nat.reduceMul, Nat.reduceEqDiff, ↓reduceIte]
 exact endW [] hQ
theorem plink_fn {k a b : Int} : Fn1 Tryz.prog 70 [.agg [.lit (.int .i64 k), .lit (.int .i64 a), .lit (.int .i64 b)]] [] (.agg [.lit (.int .i64 k), .lit (.int .i64 a), .lit (.int .i64 b)]) [] := by
 refine fn1N_of pl70 (by kernel_rfl) Tryz.call70 Tryz.func70 rfl (by kernel_rfl) rfl [.cell 2 42] (by kernel_rfl) fun Q hQ => ?_
 refine runW ?_
 exact endW [] hQ
def stepD (k a w : Nat) (s : Ky) : Ds := if s.1 = ((2 ^ w - 1 : Nat) : Int) then [((s.1, s.2.1, true), 1)] else eitD (chX k a s.1.toNat) (s.1 + 1, s.2.1, s.2.2) s
set_option maxHeartbeats 1000000 in
theorem ponT_fn {k a w K : Nat} {T : Int} {F : Bool} (hs : smallG k a w) (hK : K = 2 ^ w - 1) :
  Fn1 Tryz.prog 71 [pR k a w, kyS ((K : Int), T, F), rzV] [] (.mref 0) [some (.map (enM [(((K : Int), T, true), 1)]))] := by
 obtain ⟨hg, h4⟩ := smallG_good hs
 have ct := cTop_fn hg h4
 rw [← hK] at ct
 have ln := plink_fn (k := (k : Int)) (a := (a : Int)) (b := (w : Int))
 have su := psure_fn (k := ((K : Int), T, true))
 generalize (1 : Rat) = one at *
 refine fn1N_of pl71 (by kernel_rfl) Tryz.call71 Tryz.func71 rfl (by kernel_rfl) rfl [.tmp 6] (by kernel_rfl) fun Q hQ => ?_
 refine runW ?_
 refine callV0 (ln) rfl rfl ?_
 refine runW ?_
 refine callV0 (ct) rfl rfl ?_
 simp (maxSteps := 1000000) (disch := (first | omega | (simp only [lnA, List.length_map, List.length_range, true_and, and_true]; (try omega); done) | fail)) only [go_sem, decide_true, Int.reduceEq, Int.reduceToNat, Nat.reduceAdd, Nat.reduceMul, Nat.reduceEqDiff, ↓reduceIte]
 refine callW [] [] (su) ?_
 refine runW ?_
 exact endW [some 3] hQ
set_option maxHeartbeats 1000000 in
theorem pon_fn {k a w K : Nat} {T : Int} {F : Bool} {x : Rat} (hs : smallG k a w) (hK : K < 2 ^ w - 1) (hx : RS 300000 x) :
  Fn1 Tryz.prog 71 [pR k a w, kyS ((K : Int), T, F), RV x] [] (.mref 0) [some (.map (enM (eitD x ((K : Int) + 1, T, F) ((K : Int), T, F))))] := by
 obtain ⟨hg, h4⟩ := smallG_good hs
 have hp : 2 ^ w ≤ 2 ^ 4 := Nat.pow_le_pow_right (by decide) hs.2.2
 have ct := cTop_fn hg h4
 have ln := plink_fn (k := (k : Int)) (a := (a : Int)) (b := (w : Int))
 have ei := peither_fn (s := ((K : Int) + 1, T, F)) (o := ((K : Int), T, F)) hx
 generalize eitD x ((K : Int) + 1, T, F) ((K : Int), T, F) = res at *
 generalize hm : 2 ^ w - 1 = m at *
 refine fn1N_of pl71 (by kernel_rfl) Tryz.call71 Tryz.func71 rfl (by kernel_rfl) rfl [.tmp 6] (by kernel_rfl) fun Q hQ => ?_
 refine runW ?_
 refine callV0 (ln) rfl rfl ?_
 refine runW ?_
 refine callV0 (ct) rfl rfl ?_
 refine runW ?_
 refine callW [] [] (ei) ?_
 refine runW ?_
 exact endW [some 4] hQ
theorem RS_chX {k a w K : Nat} (hs : smallG k a w) (hK : K ≤ 15) : RS 129 (chX k a K) := by
 unfold chX
 obtain ⟨hs, -⟩ := hs
 rcases hs with ⟨rfl, h1, h2⟩ | ⟨rfl, h2⟩ | ⟨rfl, h1, h2⟩
 ·
  rw [if_pos rfl]
  obtain ⟨r, e, -, -, h3, hr⟩ := rpow_ex (x := quo a (a + 1)) (RS_quo (by omega) (by omega)) (n := (K : Int)) (by omega) (by omega)
  obtain ⟨rfl, rfl⟩ := h3 K rfl (by omega)
  exact hr
 ·
  rw [if_neg (by decide), if_pos rfl]
  have := Nat.div_le_self K (2 ^ a)
  exact RS_hf (by omega)
 ·
  rw [if_neg (by decide), if_neg (by decide)]
  obtain ⟨-, h3, -, -⟩ := plAt_ok (s := a) (i := K) (by omega) (by omega)
  exact RS_hf (by omega)
set_option maxHeartbeats 2000000 in
theorem pstep_fn {k a w K : Nat} {T : Int} {F : Bool} (hs : smallG k a w) (hK : K ≤ 2 ^ w - 1) :
  Fn1 Tryz.prog 34 [pR k a w, kyS ((K : Int), T, F)] [] (.mref 0) [some (.map (enM (stepD k a w ((K : Int), T, F))))] := by
 obtain ⟨hg, h4⟩ := smallG_good hs
 have hp : 2 ^ w ≤ 2 ^ 4 := Nat.pow_le_pow_right (by decide) hs.2.2
 have ln := plink_fn (k := (k : Int)) (a := (a : Int)) (b := (w : Int))
 have hk4 : ¬ (k : Int) = 4 := by omega
 by_cases hT : K = 2 ^ w - 1
 ·
  have ch := cchanceT_fn hs hT
  have on := ponT_fn (T := T) (F := F) hs hT
  have hsd : stepD k a w ((K : Int), T, F) = [(((K : Int), T, true), 1)] := by
   unfold stepD
   rw [if_pos (by rw [← hT])]
  rw [hsd]
  generalize (1 : Rat) = one at *
  refine fn1N_of pl34 (by kernel_rfl) Tryz.call34 Tryz.func34 rfl (by kernel_rfl) rfl [.tmp 4] (by kernel_rfl) fun Q hQ => ?_
  refine runW ?_
  refine callV0 (ln) rfl rfl ?_
  refine runW ?_
  refine callV0 (ch) rfl rfl ?_
  refine runW ?_
  refine callW [] [] (on) ?_
  refine runW ?_
  exact endW [some 3] hQ
 ·
  have ch := cchance_fn hs (K := K) (by omega)
  have on := pon_fn (T := T) (F := F) hs (K := K) (by omega) ((RS_chX hs (K := K) (by omega)).mono (show 129 ≤ 300000 by decide))
  have hsd : stepD k a w ((K : Int), T, F) = eitD (chX k a K) ((K : Int) + 1, T, F) ((K : Int), T, F) := by
   unfold stepD
   rw [if_neg (by dsimp only; omega)]
   dsimp only
   rw [Int.toNat_natCast]
  rw [hsd]
  generalize eitD (chX k a K) ((K : Int) + 1, T, F) ((K : Int), T, F) = res at *
  generalize chX k a K = x at *
  refine fn1N_of pl34 (by kernel_rfl) Tryz.call34 Tryz.func34 rfl (by kernel_rfl) rfl [.tmp 4] (by kernel_rfl) fun Q hQ => ?_
  refine runW ?_
  refine callV0 (ln) rfl rfl ?_
  refine runW ?_
  refine callV0 (ch) rfl rfl ?_
  refine runW ?_
  refine callW [] [] (on) ?_
  refine runW ?_
  exact endW [some 3] hQ
theorem pofc_fn {k a w K : Nat} {T : Int} {F : Bool} (hs : smallG k a w) (hK : K ≤ 2 ^ w - 1) :
  Fn1 Tryz.prog 33 [kyS ((K : Int), T, F), cpP k a w] [] (.mref 0) [some (.map (enM (stepD k a w ((K : Int), T, F))))] := by
 have st := pstep_fn (T := T) (F := F) hs hK
 generalize stepD k a w ((K : Int), T, F) = res at *
 refine fn1N_of pl33 (by kernel_rfl) Tryz.call33 Tryz.func33 rfl (by kernel_rfl) rfl [.tmp 3] (by kernel_rfl) fun Q hQ => ?_
 refine runW ?_
 refine callW [] [] (st) ?_
 refine runW ?_
 exact endW [some 1] hQ
def isI (N : Nat) (x : Rat) : Prop := ∃ z : Int, x * ((N : Nat) : Int) = ((z : Int) : Rat)
theorem isI_add {N : Nat} {x y : Rat} (hx : isI N x) (hy : isI N y) : isI N (x + y) := by
 obtain ⟨a, ha⟩ := hx
 obtain ⟨b, hb⟩ := hy
 refine ⟨a + b, ?_⟩
 rw [Rat.intCast_add, ← ha, ← hb]
 grind
theorem isI_mul {N M : Nat} {x y : Rat} (hx : isI N x) (hy : isI M y) : isI (N * M) (x * y) := by
 obtain ⟨a, ha⟩ := hx
 obtain ⟨b, hb⟩ := hy
 refine ⟨a * b, ?_⟩
 rw [Rat.intCast_mul, ← ha, ← hb, Int.natCast_mul, Rat.intCast_mul]
 grind
theorem isI_zero (N : Nat) : isI N 0 := ⟨0, by rw [Rat.zero_mul]; rfl⟩
theorem isI_one (N : Nat) : isI N 1 := ⟨N, by rw [Rat.one_mul]⟩
theorem isI_sub {N : Nat} {x : Rat} (hx : isI N x) : isI N (1 - x) := by
 obtain ⟨a, ha⟩ := hx
 refine ⟨(N : Int) - a, ?_⟩
 rw [Rat.intCast_sub, ← ha]
 grind
theorem RS_isI {N c : Nat} {x : Rat} (hN : N ≠ 0) (hc : (wg N).length ≤ c) (h0 : 0 ≤ x) (h1 : x ≤ 1) (hx : isI N x) : RS c x := by
 obtain ⟨z, hz⟩ := hx
 have hNp : (0 : Rat) < ((N : Nat) : Int) := by
  have : ((0 : Int) : Rat) < ((N : Int) : Rat) := Rat.intCast_lt_intCast.2 (by omega)
  exact this
 have hz0 : 0 ≤ z := by
  have : ((0 : Int) : Rat) ≤ (z : Rat) := by rw [← hz]; exact Rat.mul_nonneg h0 (Rat.le_of_lt hNp)
  exact Rat.intCast_le_intCast.1 this
 have hz1 : z ≤ N := by
  have : (z : Rat) ≤ ((N : Int) : Rat) := by
   rw [← hz]
   have := Rat.mul_le_mul_of_nonneg_right h1 (Rat.le_of_lt hNp)
   rwa [Rat.one_mul] at this
  exact Rat.intCast_le_intCast.1 this
 have hx : x = mkRat z N := by
  rw [Rat.mkRat_eq_div, ← hz, show ((N : Nat) : Rat) = ((N : Int) : Rat) from rfl]
  generalize ((N : Int) : Rat) = M at *
  have hM : M ≠ 0 := fun e => by rw [e] at hNp; exact absurd hNp (by decide +kernel)
  rw [Rat.div_def, Rat.mul_assoc, Rat.mul_inv_cancel _ hM, Rat.mul_one]
 rw [hx]
 refine RS_mk hN ?_ hc
 have : z.natAbs ≤ N := by omega
 exact Nat.le_trans (wg_mono this) hc
theorem EX_app (g : Ky → Rat) (l l' : Ds) : EX g (l ++ l') = EX g l + EX g l' := by
 induction l with
 | nil => simp only [List.nil_append, EX]; grind
 | cons e l ih => obtain ⟨k, x⟩ := e; simp only [List.cons_append, EX, ih]; grind
theorem EX_congr {g h : Ky → Rat} {l : Ds} (e : ∀ x ∈ l, g x.1 = h x.1) : EX g l = EX h l := by
 induction l with
 | nil => rfl
 | cons y l ih =>
  obtain ⟨k, x⟩ := y
  simp only [EX]
  rw [ih fun x hx => e x (List.mem_cons_of_mem _ hx), e _ List.mem_cons_self]
theorem EX_in (g : Ky → Rat) (x : Rat) (L out : Ds) : EX g (inD x L out) = EX g out + x * EX g L := by
 unfold inD
 induction L generalizing out with
 | nil => simp only [List.foldl_nil, EX]; grind
 | cons b L ih =>
  obtain ⟨k, y⟩ := b
  rw [List.foldl_cons, ih, EX_add]
  simp only [EX]
  grind
theorem EX_ou (g : Ky → Rat) (NX : Ky → Ds) (L out : Ds) : EX g (ouD NX L out) = EX g out + EX (fun s => EX g (NX s)) L := by
 unfold ouD
 induction L generalizing out with
 | nil => simp only [List.foldl_nil, EX]; grind
 | cons a L ih =>
  obtain ⟨k, x⟩ := a
  rw [List.foldl_cons, ih, EX_in, EX_at]
  simp only [EX]
  grind
theorem EX_times (g : Ky → Rat) (NX : Ky → Ds) (l : Ds) : EX g (timesD l NX) = EX (fun s => EX g (NX s)) l := by
 unfold timesD
 rw [EX_ou, EX_at]
 simp only [EX]
 grind
theorem in_nd (x : Rat) (L : Ds) : ∀ {out : Ds}, ndK out → ndK (inD x L out) := by
 unfold inD
 induction L with
 | nil => intro out h; exact h
 | cons b L ih => intro out h; rw [List.foldl_cons]; exact ih (addD_nd h)
theorem ou_nd (NX : Ky → Ds) (L : Ds) : ∀ {out : Ds}, ndK out → ndK (ouD NX L out) := by
 unfold ouD
 induction L with
 | nil => intro out h; exact h
 | cons b L ih => intro out h; rw [List.foldl_cons]; exact ih (in_nd _ _ h)
theorem put_len (k : Ky) (x : Rat) (l : Ds) : (put k x l).length ≤ l.length + 1 := by
 induction l with
 | nil => simp [put]
 | cons e l ih =>
  obtain ⟨k', x'⟩ := e
  unfold put
  split
  ·
   simp
  ·
   simp only [List.length_cons]; omega
theorem in_len (x : Rat) (L : Ds) : ∀ (out : Ds), (inD x L out).length ≤ out.length + L.length := by
 unfold inD
 induction L with
 | nil => intro out; simp
 | cons b L ih =>
  intro out
  rw [List.foldl_cons]
  have h1 := ih (addD b.1 (x * b.2) out)
  have h2 := put_len b.1 ((look b.1 out).getD 0 + x * b.2) out
  unfold addD at h1 ⊢
  simp only [List.length_cons]
  omega
theorem ou_len {NX : Ky → Ds} {c : Nat} (L : Ds) (hc : ∀ a ∈ L, (NX a.1).length ≤ c) : ∀ (out : Ds), (ouD NX L out).length ≤ out.length + L.length * c := by
 unfold ouD
 induction L with
 | nil => intro out; simp
 | cons a L ih =>
  intro out
  rw [List.foldl_cons]
  have h1 := ih (fun b hb => hc b (List.mem_cons_of_mem _ hb)) (inD a.2 (atD (NX a.1)) out)
  have h2 := in_len a.2 (atD (NX a.1)) out
  have h3 := at_len (NX a.1)
  have h4 := hc a List.mem_cons_self
  simp only [List.length_cons, Nat.add_mul, Nat.one_mul]
  omega
def allE (p : Ky → Rat → Prop) (l : Ds) : Prop := ∀ e ∈ l, p e.1 e.2
theorem addD_all {p : Ky → Rat → Prop} (hp : ∀ k x y, p k x → p k y → p k (x + y)) {k : Ky} {x : Rat} {l : Ds} (hl : allE p l) (hx : p k x) : allE p (addD k x l) := by
 intro e he
 unfold addD at he
 rcases put_mem _ _ _ _ he with h | h
 ·
  rw [h]
  cases hk : look k l with
  | none => simp only [Option.getD_none]; rw [Rat.zero_add]; exact hx
  | some y => simp only [Option.getD_some]; exact hp _ _ _ (hl _ (look_mem hk)) hx
 ·
  exact hl e h
theorem in_all {p : Ky → Rat → Prop} (hp : ∀ k x y, p k x → p k y → p k (x + y)) {x : Rat} {L : Ds} (hL : ∀ b ∈ L, p b.1 (x * b.2)) : ∀ {out : Ds}, allE p out → allE p (inD x L out) := by
 unfold inD
 induction L with
 | nil => intro out h; exact h
 | cons b L ih =>
  intro out h
  rw [List.foldl_cons]
  exact ih (fun b hb => hL b (List.mem_cons_of_mem _ hb)) (addD_all hp h (hL b List.mem_cons_self))
theorem ou_all {p : Ky → Rat → Prop} (hp : ∀ k x y, p k x → p k y → p k (x + y)) {NX : Ky → Ds} {L : Ds} (hL : ∀ a ∈ L, ∀ b ∈ atD (NX a.1), p b.1 (a.2 * b.2)) : ∀ {out : Ds}, allE p out → allE p (ouD NX L out) := by
 unfold ouD
 induction L with
 | nil => intro out h; exact h
 | cons a L ih =>
  intro out h
  rw [List.foldl_cons]
  exact ih (fun b hb => hL b (List.mem_cons_of_mem _ hb)) (in_all hp (hL a List.mem_cons_self) h)
theorem EX1_mono {L : Ds} (h : ∀ e ∈ L, 0 ≤ e.2) (i : Nat) : EX (fun _ => 1) (L.take i) ≤ EX (fun _ => 1) L := by
 have h1 := EX_app (fun _ => 1) (L.take i) (L.drop i)
 rw [List.take_append_drop] at h1
 have h2 := EX_pos (l := L.drop i) fun e he => h e (List.mem_of_mem_drop he)
 grind
end Go.Proofs.YtdohmppildfjhaaGreatDoor
