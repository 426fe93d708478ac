import Derived.Test.YtdohmppildfjhaaGreatDoorFa
import Derived.Test.YtdohmppildfjhaaGreatDoorE7
import Derived.Test.YtdohmppildfjhaaGreatDoorKd
import Derived.Test.YtdohmppildfjhaaGreatDoorNe
import Derived.Test.YtdohmppildfjhaaGreatDoorKp
namespace Go.Proofs.YtdohmppildfjhaaGreatDoor
open Go.Eng Go.Vx
set_option linter.unusedSimpArgs false
set_option linter.unusedVariables false
set_option maxRecDepth 100000
theorem RS_one : RS 1 (1 : Rat) := RS_small (z := 1) (by decide)
theorem RS_two : RS 1 ((2 : Int) : Rat) := RS_small (by decide)
theorem rof1_fn : Fn1 Tryz.prog 12 [.lit (.int .i64 1)] [] (RV 1) [] := rof_fn (n := 1) (by decide) (by decide)
abbrev Ky := Int × Int × Bool
abbrev Ds := List (Ky × Rat)
def enP (x : Rat) : List PV := [.row 1 ((nl (wg x.num.natAbs)).map (ie .u64)), .lit (.bool (decide (x.num < 0))), .row 1 ((nl (wg (x.den - 1))).map (ie .u64))]
def enM (l : Ds) : ML := l.map fun e => (e.1, enP e.2)
def look (k : Ky) : Ds → Option Rat
 | [] => none
 | (k', x) :: l => if k' = k then some x else look k l
def put (k : Ky) (x : Rat) : Ds → Ds
 | [] => [(k, x)]
 | (k', x') :: l => if k' = k then (k', x) :: l else (k', x') :: put k x l
theorem lookM_en (k : Ky) : ∀ l : Ds, lookM k (enM l) = (look k l).map enP
 | [] => rfl
 | (k', x) :: l => by
  have ih := lookM_en k l
  simp only [enM, List.map_cons, lookM, look] at ih ⊢
  split
  ·
   rfl
  ·
   exact ih
theorem putM_en (k : Ky) (x : Rat) : ∀ l : Ds, putM k (enP x) (enM l) = enM (put k x l)
 | [] => rfl
 | (k', x') :: l => by
  have ih := putM_en k x l
  simp only [enM, List.map_cons, putM, put] at ih ⊢
  split
  ·
   rfl
  ·
   rw [ih]; rfl
def addD (k : Ky) (x : Rat) (l : Ds) : Ds := put k ((look k l).getD 0 + x) l
def EX (g : Ky → Rat) : Ds → Rat
 | [] => 0
 | (k, x) :: l => x * g k + EX g l
theorem EX_put (g : Ky → Rat) (k : Ky) (x : Rat) : ∀ l : Ds, EX g (put k ((look k l).getD 0 + x) l) = EX g l + x * g k
 | [] => by simp only [put, look, EX, Option.getD_none]; grind
 | (k', x') :: l => by
  have ih := EX_put g k x l
  simp only [put, look]
  by_cases h : k' = k
  ·
   subst h
   rw [if_pos rfl, if_pos rfl]
   simp only [EX, Option.getD_some]
   grind
  ·
   rw [if_neg h, if_neg h]
   simp only [EX]
   rw [ih]
   grind
theorem EX_add (g : Ky → Rat) (k : Ky) (x : Rat) (l : Ds) : EX g (addD k x l) = EX g l + x * g k := EX_put g k x l
def ndK (l : Ds) : Prop := (l.map (·.1)).Nodup
theorem put_keys (k : Ky) (x : Rat) : ∀ l : Ds, ∀ q ∈ (put k x l).map (·.1), q = k ∨ q ∈ l.map (·.1)
 | [], q, h => by simp [put] at h; exact .inl h
 | (k', x') :: l, q, h => by
  unfold put at h
  split at h
  ·
   exact .inr (by simpa using h)
  ·
   rw [List.map_cons, List.mem_cons] at h
   rcases h with h | h
   ·
    exact .inr (by simp [h])
   ·
    rcases put_keys k x l q h with h | h
    ·
     exact .inl h
    ·
     exact .inr (by simp at h ⊢; exact .inr h)
theorem put_nd (k : Ky) (x : Rat) : ∀ l : Ds, ndK l → ndK (put k x l)
 | [], _ => by simp [put, ndK]
 | (k', x') :: l, h => by
  unfold ndK at h ⊢
  rw [List.map_cons, List.nodup_cons] at h
  unfold put
  split
  ·
   rw [List.map_cons, List.nodup_cons]; exact h
  ·
   rename_i hne
   rw [List.map_cons, List.nodup_cons]
   refine ⟨fun hm => ?_, put_nd k x l h.2⟩
   rcases put_keys k x l k' hm with e | e
   ·
    exact hne e
   ·
    exact h.1 e
theorem addD_nd {k : Ky} {x : Rat} {l : Ds} (h : ndK l) : ndK (addD k x l) := put_nd _ _ _ h
theorem look_mem {k : Ky} {y : Rat} : ∀ {l : Ds}, look k l = some y → (k, y) ∈ l
 | (k', x) :: l, h => by
  unfold look at h
  split at h
  ·
   rename_i e
   cases h; subst e; simp
  ·
   exact List.mem_cons_of_mem _ (look_mem h)
theorem put_mem (k : Ky) (x : Rat) : ∀ (l : Ds), ∀ e ∈ put k x l, e = (k, x) ∨ e ∈ l
 | [], e, h => by simp [put] at h; exact .inl h
 | (k', x') :: l, e, h => by
  unfold put at h
  split at h
  ·
   rename_i hk
   subst hk
   rcases List.mem_cons.1 h with h | h
   ·
    exact .inl h
   ·
    exact .inr (List.mem_cons_of_mem _ h)
  ·
   rcases List.mem_cons.1 h with h | h
   ·
    exact .inr (by simp [h])
   ·
    rcases put_mem k x l e h with h | h
    ·
     exact .inl h
    ·
     exact .inr (List.mem_cons_of_mem _ h)
theorem EX_one_le {k : Ky} {x : Rat} : ∀ {l : Ds}, (∀ e ∈ l, 0 ≤ e.2) → (k, x) ∈ l → x ≤ EX (fun _ => 1) l
 | (k', x') :: l, h0, h => by
  have hp : ∀ {l : Ds}, (∀ e ∈ l, 0 ≤ e.2) → 0 ≤ EX (fun _ => 1) l := by
   intro l
   induction l with
   | nil => intro _; exact Rat.le_refl
   | cons e l ih =>
    intro h
    have h1 := h e (by simp)
    have h2 := ih fun e he => h e (List.mem_cons_of_mem _ he)
    obtain ⟨a, b⟩ := e
    simp only [EX] at h1 ⊢
    grind
  have h1 := h0 _ (List.mem_cons_self)
  have h2 := hp fun e he => h0 e (List.mem_cons_of_mem _ he)
  simp only [EX] at h1 ⊢
  rcases List.mem_cons.1 h with e | h
  ·
   cases e
   grind
  ·
   have := EX_one_le (fun e he => h0 e (List.mem_cons_of_mem _ he)) h
   grind
theorem EX_pos {l : Ds} (h : ∀ e ∈ l, 0 ≤ e.2) : 0 ≤ EX (fun _ => 1) l := by
 induction l with
 | nil => exact Rat.le_refl
 | cons e l ih =>
  have h1 := h e (by simp)
  have h2 := ih fun e he => h e (List.mem_cons_of_mem _ he)
  obtain ⟨a, b⟩ := e
  simp only [EX] at h1 ⊢
  grind
def wrP (L : List Bool) : V := .rref 2 [[.row 1 ((pk L).map (ie .u8)), .lit (.int .i64 (L.length : Int))]] 0 0
attribute [go_sem] wrP
set_option maxHeartbeats 4000000 in
theorem awake28_fn : Fn1 Tryz.prog 4 [] [] (.lit (.bool true)) [] := by
 have mk := rmake_fn (p := 1) (q := 3) (by decide) (by decide) (by decide) (by decide) (by decide)
 have sx : RS 2 (((1 : Int) : Rat) / ((3 : Int) : Rat)) := RS_div (by decide) (RS_small (by decide)) (RS_small (by decide))
 have o0 := rof_fn (n := 0) (by decide) (by decide)
 rw [show ((0 : Int) : Rat) = 0 from rfl] at o0
 obtain ⟨L, H, hP, s1, s2, ex⟩ := expPos_fn (x := 0) (N := 9) (RS_zero.mono (by decide)) (by decide) (by decide) Rat.le_refl (by decide +kernel)
 rw [show ((9 : Nat) : Int) = 9 from rfl] at ex
 have o1 := rof_fn (n := 1) (by decide) (by decide)
 rw [show ((1 : Int) : Rat) = 1 from rfl] at o1
 obtain ⟨eL, eH⟩ := exp_zero hP.bnd hP.one
 obtain ⟨c1, hc1, cm1⟩ := rcmp_le (s1.mono (show 4000 ≤ 400000 by decide)) (RS_one1.mono (show 1 ≤ 400000 by decide)) (by rw [eL]; exact Rat.le_refl)
 obtain ⟨c2, hc2, cm2⟩ := rcmp_ge (s2.mono (show 4000 ≤ 400000 by decide)) (RS_one1.mono (show 1 ≤ 400000 by decide)) eH
 have dw := down_fn (x := ((1 : Int) : Rat) / ((3 : Int) : Rat)) (bits := 4) (B := 4) (by decide) (sx.mono (by decide))
 have uw := upB_fn (x := ((1 : Int) : Rat) / ((3 : Int) : Rat)) (bits := 4) (B := 4) (by decide) (sx.mono (by decide))
 have t1 := rtxt_fn ((RS_dn' (B := 4) (by decide) sx).mono (show _ ≤ 5000 by decide))
 have t2 := rtxt_fn ((RS_up' (B := 4) (by decide) sx).mono (show _ ≤ 5000 by decide))
 have e1 : dn (((1 : Int) : Rat) / ((3 : Int) : Rat)) 4 = mkRat 5 16 := by decide +kernel
 have e2 : up (((1 : Int) : Rat) / ((3 : Int) : Rat)) 4 = mkRat 3 8 := by decide +kernel
 have d16 : decS 16 = [49, 54] := by decide +kernel
 rw [e1] at dw t1
 rw [e2] at uw t2
 rw [show qS (mkRat 5 16) = [53, 47, 49, 54] by
  unfold qS zS
  rw [show (mkRat 5 16).num = 5 by decide +kernel, show (mkRat 5 16).den = 16 by decide +kernel, if_neg (by decide), if_neg (by decide), show (5 : Int).natAbs = 5 from rfl, zS_lit 5 (by decide), d16]
  decide] at t1
 rw [show qS (mkRat 3 8) = [51, 47, 56] by
  unfold qS zS
  rw [show (mkRat 3 8).num = 3 by decide +kernel, show (mkRat 3 8).den = 8 by decide +kernel, if_neg (by decide), if_neg (by decide), show (3 : Int).natAbs = 3 from rfl, zS_lit 3 (by decide), zS_lit 8 (by decide)]
  decide] at t2
 clear hP s1 s2 eL eH e1 e2 sx
 generalize ((1 : Int) : Rat) / ((3 : Int) : Rat) = x at *
 generalize mkRat 5 16 = a at *
 generalize mkRat 3 8 = c at *
 generalize (1 : Rat) = one at *
 generalize (0 : Rat) = zer at *
 refine fn1N_of pl4 (by kernel_rfl) Tryz.call4 Tryz.func4 rfl (by kernel_rfl) rfl [.tmp 0] (by kernel_rfl) fun Q hQ => ?_
 repeat (first | (refine callV0 (mk) rfl rfl ?_) | (refine callV0 (o0) rfl rfl ?_) | (refine callV0 (ex) rfl rfl ?_) | (refine callV0 (o1) rfl rfl ?_) | (refine callV0 (cm1) rfl rfl ?_) | (refine callV0 (cm2) rfl rfl ?_) | (refine callV0 (dw) rfl rfl ?_) | (refine callV0 (uw) rfl rfl ?_) | (refine callV0 (t1) rfl rfl ?_) | (refine callV0 (t2) rfl rfl ?_) | (simp (maxSteps := 1000000) (disch := (first | omega | (simp only [lnA, List.length_map, List.length_range, true_and, and_true]; (try omega); done) | fail)) only [go_sem, eq_self, decide_true, List.append_eq, List.cons_append, List.nil_append, Int.reduceEq, Int.reduceToNat, Nat.reduceAdd, Nat.reduceMul, Nat.reduceEqDiff, ↓reduceIte]))
 exact endW [] hQ
end Go.Proofs.YtdohmppildfjhaaGreatDoor
