import Derived.Test.YtdohmppildfjhaaGreatKd
import Derived.Test.YtdohmppildfjhaaGreatKp
import Derived.Test.YtdohmppildfjhaaGreatKr
import Derived.Test.YtdohmppildfjhaaGreatHc
import Derived.Test.YtdohmppildfjhaaGreatFw
namespace Go.Proofs.YtdohmppildfjhaaGreat
open Go.Eng Go.Vx
set_option linter.unusedSimpArgs false
set_option linter.unusedVariables false
set_option maxRecDepth 100000
theorem RS_one : RS 1 (1 : Rat) := RS_small (z := 1) (by decide)
theorem RS_two : RS 1 ((2 : Int) : Rat) := RS_small (by decide)
theorem rof1_fn : Fn1 Tryz.prog 11 [.lit (.int .i64 1)] [] (RV 1) [] := rof_fn (n := 1) (by decide) (by decide)
end Go.Proofs.YtdohmppildfjhaaGreat

namespace Go.Proofs.YtdohmppildfjhaaGreat
open Go.Eng Go.Vx
set_option linter.unusedSimpArgs false
set_option linter.unusedVariables false
abbrev Ky := Int × Int × Bool
abbrev Ds := List (Ky × Rat)
def enP (x : Rat) : List PV := [.row 1 ((nl (wg x.num.natAbs)).map (ie .u64)), .lit (.bool (decide (x.num < 0))), .row 1 ((nl (wg (x.den - 1))).map (ie .u64))]
def enM (l : Ds) : ML := l.map fun e => (e.1, enP e.2)
def look (k : Ky) : Ds → Option Rat
 | [] => none
 | (k', x) :: l => if k' = k then some x else look k l
def put (k : Ky) (x : Rat) : Ds → Ds
 | [] => [(k, x)]
 | (k', x') :: l => if k' = k then (k', x) :: l else (k', x') :: put k x l
theorem lookM_en (k : Ky) : ∀ l : Ds, lookM k (enM l) = (look k l).map enP
 | [] => rfl
 | (k', x) :: l => by
  have ih := lookM_en k l
  simp only [enM, List.map_cons, lookM, look] at ih ⊢
  split
  ·
   rfl
  ·
   exact ih
theorem putM_en (k : Ky) (x : Rat) : ∀ l : Ds, putM k (enP x) (enM l) = enM (put k x l)
 | [] => rfl
 | (k', x') :: l => by
  have ih := putM_en k x l
  simp only [enM, List.map_cons, putM, put] at ih ⊢
  split
  ·
   rfl
  ·
   rw [ih]; rfl
def addD (k : Ky) (x : Rat) (l : Ds) : Ds := put k ((look k l).getD 0 + x) l
def EX (g : Ky → Rat) : Ds → Rat
 | [] => 0
 | (k, x) :: l => x * g k + EX g l
theorem EX_put (g : Ky → Rat) (k : Ky) (x : Rat) : ∀ l : Ds, EX g (put k ((look k l).getD 0 + x) l) = EX g l + x * g k
 | [] => by simp only [put, look, EX, Option.getD_none]; grind
 | (k', x') :: l => by
  have ih := EX_put g k x l
  simp only [put, look]
  by_cases h : k' = k
  ·
   subst h
   rw [if_pos rfl, if_pos rfl]
   simp only [EX, Option.getD_some]
   grind
  ·
   rw [if_neg h, if_neg h]
   simp only [EX]
   rw [ih]
   grind
theorem EX_add (g : Ky → Rat) (k : Ky) (x : Rat) (l : Ds) : EX g (addD k x l) = EX g l + x * g k := EX_put g k x l
def ndK (l : Ds) : Prop := (l.map (·.1)).Nodup
theorem put_keys (k : Ky) (x : Rat) : ∀ l : Ds, ∀ q ∈ (put k x l).map (·.1), q = k ∨ q ∈ l.map (·.1)
 | [], q, h => by simp [put] at h; exact .inl h
 | (k', x') :: l, q, h => by
  unfold put at h
  split at h
  ·
   exact .inr (by simpa using h)
  ·
   rw [List.map_cons, List.mem_cons] at h
   rcases h with h | h
   ·
    exact .inr (by simp [h])
   ·
    rcases put_keys k x l q h with h | h
    ·
     exact .inl h
    ·
     exact .inr (by simp at h ⊢; exact .inr h)
theorem put_nd (k : Ky) (x : Rat) : ∀ l : Ds, ndK l → ndK (put k x l)
 | [], _ => by simp [put, ndK]
 | (k', x') :: l, h => by
  unfold ndK at h ⊢
  rw [List.map_cons, List.nodup_cons] at h
  unfold put
  split
  ·
   rw [List.map_cons, List.nodup_cons]; exact h
  ·
   rename_i hne
   rw [List.map_cons, List.nodup_cons]
   refine ⟨fun hm => ?_, put_nd k x l h.2⟩
   rcases put_keys k x l k' hm with e | e
   ·
    exact hne e
   ·
    exact h.1 e
theorem addD_nd {k : Ky} {x : Rat} {l : Ds} (h : ndK l) : ndK (addD k x l) := put_nd _ _ _ h
theorem look_mem {k : Ky} {y : Rat} : ∀ {l : Ds}, look k l = some y → (k, y) ∈ l
 | (k', x) :: l, h => by
  unfold look at h
  split at h
  ·
   rename_i e
   cases h; subst e; simp
  ·
   exact List.mem_cons_of_mem _ (look_mem h)
theorem put_mem (k : Ky) (x : Rat) : ∀ (l : Ds), ∀ e ∈ put k x l, e = (k, x) ∨ e ∈ l
 | [], e, h => by simp [put] at h; exact .inl h
 | (k', x') :: l, e, h => by
  unfold put at h
  split at h
  ·
   rename_i hk
   subst hk
   rcases List.mem_cons.1 h with h | h
   ·
    exact .inl h
   ·
    exact .inr (List.mem_cons_of_mem _ h)
  ·
   rcases List.mem_cons.1 h with h | h
   ·
    exact .inr (by simp [h])
   ·
    rcases put_mem k x l e h with h | h
    ·
     exact .inl h
    ·
     exact .inr (List.mem_cons_of_mem _ h)
theorem EX_one_le {k : Ky} {x : Rat} : ∀ {l : Ds}, (∀ e ∈ l, 0 ≤ e.2) → (k, x) ∈ l → x ≤ EX (fun _ => 1) l
 | (k', x') :: l, h0, h => by
  have hp : ∀ {l : Ds}, (∀ e ∈ l, 0 ≤ e.2) → 0 ≤ EX (fun _ => 1) l := by
   intro l
   induction l with
   | nil => intro _; exact Rat.le_refl
   | cons e l ih =>
    intro h
    have h1 := h e (by simp)
    have h2 := ih fun e he => h e (List.mem_cons_of_mem _ he)
    obtain ⟨a, b⟩ := e
    simp only [EX] at h1 ⊢
    grind
  have h1 := h0 _ (List.mem_cons_self)
  have h2 := hp fun e he => h0 e (List.mem_cons_of_mem _ he)
  simp only [EX] at h1 ⊢
  rcases List.mem_cons.1 h with e | h
  ·
   cases e
   grind
  ·
   have := EX_one_le (fun e he => h0 e (List.mem_cons_of_mem _ he)) h
   grind
theorem EX_pos {l : Ds} (h : ∀ e ∈ l, 0 ≤ e.2) : 0 ≤ EX (fun _ => 1) l := by
 induction l with
 | nil => exact Rat.le_refl
 | cons e l ih =>
  have h1 := h e (by simp)
  have h2 := ih fun e he => h e (List.mem_cons_of_mem _ he)
  obtain ⟨a, b⟩ := e
  simp only [EX] at h1 ⊢
  grind
end Go.Proofs.YtdohmppildfjhaaGreat

namespace Go.Proofs.YtdohmppildfjhaaGreat
open Go.Eng Go.Vx
set_option linter.unusedSimpArgs false
set_option linter.unusedVariables false
set_option maxRecDepth 100000
@[go_sem ↓] theorem cstV_map {m : Option Nat} {K : V → Prop} : cstV (.map m) K = K (.lit (.map m)) := (rfl)
def kyS (k : Ky) : V := .agg [.lit (.int .i64 k.1), .lit (.int .i64 k.2.1), .lit (.bool k.2.2)]
attribute [go_sem] kyS
theorem RV0n : RV 0 = .agg [.row 1 [], .lit (.bool false), .row 1 []] := by
 unfold RV
 rw [show (0 : Rat).num = 0 from rfl, show (0 : Rat).den = 1 from rfl, show (0 : Int).natAbs = 0 from rfl, Nat.sub_self, wg_zero]
 rfl
set_option maxHeartbeats 1000000 in
theorem padd_fn {l : Ds} {k : Ky} {x : Rat} (hl : ∀ y, look k l = some y → RS 400000 y) (hx : RS 400000 x) :
  Fn1 Tryz.prog 50 [.mref 0, kyS k, RV x] [some (.map (enM l))] (.tup []) [some (.map (enM (addD k x l)))] := by
 obtain ⟨K, T, F⟩ := k
 have hp : ∀ z : Rat, putM (K, T, F) [.row 1 ((nl (wg z.num.natAbs)).map (ie .u64)), .lit (.bool (decide (z.num < 0))), .row 1 ((nl (wg (z.den - 1))).map (ie .u64))] (enM l) = enM (put (K, T, F) z l) := fun z => putM_en _ _ _
 unfold addD
 rcases hlk : look (K, T, F) l with _ | y
 ·
  have ad := radd_fn (x := 0) (y := x) (RS_small (z := 0) (by decide) |>.mono (by decide)) hx
  rw [RV0n] at ad
  have hlM : lookM (K, T, F) (enM l) = none := by rw [lookM_en, hlk]; rfl
  have hz : (none : Option Rat).getD 0 + x = 0 + x := rfl
  rw [hz]
  generalize 0 + x = z at *
  refine fn1N_of pl50 (by kernel_rfl) Tryz.call50 Tryz.func50 rfl (by kernel_rfl) rfl [] (by kernel_rfl) fun Q hQ => ?_
  simp (maxSteps := 1000000) (disch := (first | omega | (simp only [lnA, List.length_map, List.length_range, true_and, and_true]; (try omega); done) | fail)) only [go_sem, hlM, Option.getD_none, Int.reduceEq, Int.reduceToNat, Nat.reduceAdd, Nat.reduceMul, Nat.reduceEqDiff, ↓reduceIte]
  refine callW [] [] (ad) ?_
  simp (maxSteps := 1000000) (disch := (first | omega | (simp only [lnA, List.length_map, List.length_range, true_and, and_true]; (try omega); done) | fail)) only [go_sem, hp, Int.reduceEq, Int.reduceToNat, Nat.reduceAdd, Nat.reduceMul, Nat.reduceEqDiff, ↓reduceIte]
  exact endW [some 0] hQ
 ·
  have ad := radd_fn (x := y) (y := x) (hl y hlk) hx
  have hlM : lookM (K, T, F) (enM l) = some [.row 1 ((nl (wg y.num.natAbs)).map (ie .u64)), .lit (.bool (decide (y.num < 0))), .row 1 ((nl (wg (y.den - 1))).map (ie .u64))] := by rw [lookM_en, hlk]; rfl
  have hz : (some y : Option Rat).getD 0 + x = y + x := rfl
  rw [hz]
  generalize y + x = z at *
  refine fn1N_of pl50 (by kernel_rfl) Tryz.call50 Tryz.func50 rfl (by kernel_rfl) rfl [] (by kernel_rfl) fun Q hQ => ?_
  simp (maxSteps := 1000000) (disch := (first | omega | (simp only [lnA, List.length_map, List.length_range, true_and, and_true]; (try omega); done) | fail)) only [go_sem, hlM, Option.getD_some, Int.reduceEq, Int.reduceToNat, Nat.reduceAdd, Nat.reduceMul, Nat.reduceEqDiff, ↓reduceIte]
  refine callV0 (ad) rfl rfl ?_
  simp (maxSteps := 1000000) (disch := (first | omega | (simp only [lnA, List.length_map, List.length_range, true_and, and_true]; (try omega); done) | fail)) only [go_sem, hp, Int.reduceEq, Int.reduceToNat, Nat.reduceAdd, Nat.reduceMul, Nat.reduceEqDiff, ↓reduceIte]
  exact endW [some 0] hQ
theorem rofI_fn : Fn1 Tryz.prog 11 [.lit (.int .i64 1)] [] (RV 1) [] := rof_fn (n := 1) (by decide) (by decide)
set_option maxHeartbeats 1000000 in
theorem psure_fn {k : Ky} : Fn1 Tryz.prog 16 [kyS k] [] (.mref 0) [some (.map (enM [(k, 1)]))] := by
 obtain ⟨K, T, F⟩ := k
 have hp : ∀ z : Rat, putM (K, T, F) [.row 1 ((nl (wg z.num.natAbs)).map (ie .u64)), .lit (.bool (decide (z.num < 0))), .row 1 ((nl (wg (z.den - 1))).map (ie .u64))] [] = enM [((K, T, F), z)] := fun z => rfl
 have o := rofI_fn
 generalize (1 : Rat) = one at *
 refine fn1N_of pl16 (by kernel_rfl) Tryz.call16 Tryz.func16 rfl (by kernel_rfl) rfl [.tmp 2] (by kernel_rfl) fun Q hQ => ?_
 simp (maxSteps := 1000000) (disch := (first | omega | (simp only [lnA, List.length_map, List.length_range, true_and, and_true]; (try omega); done) | fail)) only [go_sem, and_self, and_true, Int.reduceEq, Int.reduceToNat, Nat.reduceAdd, Nat.reduceMul, Nat.reduceEqDiff, ↓reduceIte]
 refine ⟨?_, ?_⟩
 ·
  refine callV0 (o) rfl rfl ?_
  simp (maxSteps := 1000000) (disch := (first | omega | (simp only [lnA, List.length_map, List.length_range, true_and, and_true]; (try omega); done) | fail)) only [go_sem, and_self, and_true, hp, Int.reduceEq, Int.reduceToNat, Nat.reduceAdd, Nat.reduceMul, Nat.reduceEqDiff, ↓reduceIte]
  exact endW [some 1] hQ
 ·
  refine callV0 (o) rfl rfl ?_
  simp (maxSteps := 1000000) (disch := (first | omega | (simp only [lnA, List.length_map, List.length_range, true_and, and_true]; (try omega); done) | fail)) only [go_sem, and_self, and_true, hp, Int.reduceEq, Int.reduceToNat, Nat.reduceAdd, Nat.reduceMul, Nat.reduceEqDiff, ↓reduceIte]
  exact endW [some 1] hQ
def eitD (x : Rat) (s o : Ky) : Ds := addD o (1 - x) (addD s x [])
set_option maxHeartbeats 1000000 in
theorem peither_fn {x : Rat} {s o : Ky} (hx : RS 300000 x) : Fn1 Tryz.prog 51 [RV x, kyS s, kyS o] [] (.mref 0) [some (.map (enM (eitD x s o)))] := by
 have one := rofI_fn
 have su := rsub_fn (x := 1) (y := x) ((RS_small (z := 1) (by decide)).mono (by decide)) (hx.mono (by decide))
 have s2 : RS 400000 (1 - x) := (RS_sub (RS_small (z := 1) (by decide)) hx).mono (by decide)
 have a1 := padd_fn (l := []) (k := s) (x := x) (fun y h => by simp [look] at h) (hx.mono (by decide))
 rw [show enM [] = [] from rfl] at a1
 have a2 := padd_fn (l := addD s x []) (k := o) (x := 1 - x) (fun y h => by
  simp only [addD, put, look, Option.getD_none] at h
  split at h
  ·
   cases h; rw [Rat.zero_add]; exact hx.mono (by decide)
  ·
   cases h) s2
 unfold eitD
 generalize addD o (1 - x) (addD s x []) = l2 at *
 generalize addD s x [] = l1 at *
 generalize 1 - x = y at *
 generalize (1 : Rat) = on at *
 obtain ⟨K, T, F⟩ := s
 obtain ⟨K2, T2, F2⟩ := o
 refine fn1N_of pl51 (by kernel_rfl) Tryz.call51 Tryz.func51 rfl (by kernel_rfl) rfl [.tmp 6] (by kernel_rfl) fun Q hQ => ?_
 refine runW ?_
 refine callW [some 3] [] (a1) ?_
 refine runW ?_
 refine callV0 (one) rfl rfl ?_
 refine runW ?_
 refine callV0 (su) rfl rfl ?_
 refine runW ?_
 refine callW [some 3] [] (a2) ?_
 refine runW ?_
 exact endW [some 3] hQ
end Go.Proofs.YtdohmppildfjhaaGreat

namespace Go.Proofs.YtdohmppildfjhaaGreat
open Go.Eng Go.Vx
set_option linter.unusedSimpArgs false
set_option linter.unusedVariables false
set_option maxRecDepth 100000
def caC (v k a b : Nat) : Ob := .cells [.ref v 0 0 0, .lit (.int .i64 (k : Int)), .lit (.int .i64 (a : Int)), .lit (.int .i64 (b : Int))]
def caP (k a b n w X : Nat) : V := .rref 4 [[.ptr 3 [[.row 1 ((words (nwd n w) X).map (ie .u64)), .lit (.int .i64 (n : Int)), .lit (.int .i64 (w : Int))]] 0 0, .lit (.int .i64 (k : Int)), .lit (.int .i64 (a : Int)), .lit (.int .i64 (b : Int))]] 0 0
attribute [go_sem] caC caP
def wd (k a b : Nat) : Nat := w1 k a b + w2 k a b + 1
end Go.Proofs.YtdohmppildfjhaaGreat
