import Derived.Test.YtdmdmdoeahhkiaaGreatDoorE6
import Derived.Test.YtdmdmdoeahhkiaaGreatDoorSa
import Derived.Test.YtdmdmdoeahhkiaaGreatDoorRj
import Derived.Test.YtdmdmdoeahhkiaaGreatDoorRa
import Derived.Test.YtdmdmdoeahhkiaaGreatDoorD1
import Derived.Test.YtdmdmdoeahhkiaaGreatDoorD3
import Derived.Test.YtdmdmdoeahhkiaaGreatDoorN1
import Derived.Test.YtdmdmdoeahhkiaaGreatDoorSf
namespace Go.Vx
open Go.Eng
set_option linter.unusedSimpArgs false
set_option linter.unusedVariables false
section
variable {P : Program}
def FnR (P : Program) (f : FuncId) (vs : List V) (σ : St) {X : Type} (R : X → Prop) (r : X → V) (s : X → St) : Prop := Fn P f vs σ fun u' s' => ∃ x, R x ∧ u' = r x ∧ s' = s x
theorem fnRN_of {f : FuncId} {fn : Func} {c : Code} {vs : List V} {σ : St} {X : Type} {R : X → Prop} {r : X → V} {s : X → St} (pl : Plans) (hm : P.follows .mixedOrders = true) (hcf : ∀ (args : Array Value) (w : World), (callFunc f args).run P w = .ok (.enter f args) w)
    (hf : P.funcs[f]? = some fn) (hb : fn.body = some c) (hc : chkN fn.ntmps pl c = true) (hs : Nat.ble vs.length fn.ntmps = true) (rs : List ResultVar) (hr : fn.results.toList = rs)
    (h : ∀ Q : V → St → Prop, (∀ x, R x → Q (r x) (s x)) → denV true P σ.length pl c (rgV 0 vs) σ (retPV P rs (EndV σ.length Q))) : FnR P f vs σ R r s :=
  fn_of pl hm hcf hf hb (chkN_chk hc) hs rs hr (h _ fun x hx => ⟨x, hx, rfl, rfl⟩)
theorem callR {e : Bool} {f : FuncId} {vs vs₀ : List V} {σ σ₀ : St} {X : Type} {R : X → Prop} {r : X → V} {s : X → St} {K : KV} (π : Pi) (F : List Nat) (spec : FnR P f vs₀ σ₀ R r s)
    (hk : ∀ x, R x → K true (renV (rnm (vpi σ.length π) (σ.length + vcnt π)) (r x)) (behd π F σ (s x)))
    (h1 : (ndp π && π.all (fun p => match p with | some p => decide (p < σ.length) && !F.contains p | none => true)) = true := by rfl)
    (h2 : mSt F.contains π σ σ₀ π := by simp (disch := (first | omega | (simp only [List.length_append, List.length_set, List.length_cons, List.length_nil, List.length_replicate, List.length_take, List.length_drop, List.length_map, List.length_range, true_and, and_true]; (try omega); done) | fail)) only [go_sem, Int.reduceEq, Int.reduceToNat, Nat.reduceAdd, Nat.reduceMul, Nat.reduceEqDiff, ↓reduceIte, true_and, and_true, and_self, List.drop_zero, List.take_length, Nat.le_refl, V.lit.injEq, Value.int.injEq, Value.bool.injEq]; try (first | omega | (simp; done) | (simp; omega)))
    (h3 : mVs F.contains π σ vs₀ vs := by simp (disch := (first | omega | (simp only [List.length_append, List.length_set, List.length_cons, List.length_nil, List.length_replicate, List.length_take, List.length_drop, List.length_map, List.length_range, true_and, and_true]; (try omega); done) | fail)) only [go_sem, Int.reduceEq, Int.reduceToNat, Nat.reduceAdd, Nat.reduceMul, Nat.reduceEqDiff, ↓reduceIte, true_and, and_true, and_self, List.drop_zero, List.take_length, Nat.le_refl, V.lit.injEq, Value.int.injEq, Value.bool.injEq]; try (first | omega | (simp; done) | (simp; omega))) (he : e = true → σ₀ = [] := by simp) : callV P e f vs σ K :=
  callV_of π F spec ⟨h1, h2, h3⟩ he fun u s ⟨x, hx, h4, h5⟩ => by rw [h4, h5]; exact hk x hx
end
@[go_sem] theorem pnO_cells {l : List V} : pnO (.cells l) = (pnV.pnL l = true) := (rfl)
end Go.Vx

namespace Go.Proofs.YtdmdmdoeahhkiaaGreatDoor
open Go.Eng Go.Vx
set_option linter.unusedSimpArgs false
set_option linter.unusedVariables false
set_option maxRecDepth 100000
theorem num_nonnegR {A B : Nat} (hB : B ≠ 0) : ¬ (((A : Int) : Rat) / ((B : Int) : Rat)).num < 0 := by
  have h := frac_eq (p := (A : Int)) (q := (B : Int)) (by omega)
  rw [decide_eq_false (show ¬ (A : Int) < 0 by omega), decide_eq_false (show ¬ (B : Int) < 0 by omega)] at h
  rw [← h]
  exact mk_nonneg hB
theorem RS_one {a : Int} (h0 : -9223372036854775808 ≤ a) (h1 : a ≤ 9223372036854775807) : RS 1 (a : Rat) := RS_int (wg_int h0 h1) (by decide)
end Go.Proofs.YtdmdmdoeahhkiaaGreatDoor

namespace Go.Proofs.YtdmdmdoeahhkiaaGreatDoor
open Go.Eng Go.Vx
set_option linter.unusedSimpArgs false
set_option linter.unusedVariables false
set_option maxRecDepth 100000
def outV (N took : Nat) (e : Int) : V := .agg [.lit (.int .u64 (N : Int)), .lit (.int .i64 (took : Int)), .lit (.int .i64 e)]
attribute [go_sem] outV
end Go.Proofs.YtdmdmdoeahhkiaaGreatDoor

namespace Go.Proofs.YtdmdmdoeahhkiaaGreatDoor
open Go.Eng Go.Vx
set_option linter.unusedSimpArgs false
set_option linter.unusedVariables false
set_option maxRecDepth 100000
def rndN (L : List Bool) (n d p : Nat) : Nat × Int × Nat × Bool :=
  (if (ratX L (n % d) d p).2.1 = 0 then n / d + (if (ratX L (n % d) d p).1 then 1 else 0) else 0, (ratX L (n % d) d p).2.1, (ratX L (n % d) d p).2.2.1, (ratX L (n % d) d p).2.2.2)
theorem rndX_N (L : List Bool) (n d p : Nat) : rndX L n d p = (((rndN L n d p).1 : Int), (rndN L n d p).2) := by
  unfold rndX rndN
  simp only
  split <;> simp
theorem ratX_ge {L : List Bool} {P D p : Nat} (hp : p ≤ L.length) : p ≤ (ratX L P D p).2.2.1 := by
  rcases okR_rat (L := L) (P := P) (D := D) hp with e | ⟨b, e, q, h, _, h2, _⟩
  · rw [e]; exact hp
  · rw [h]; exact h2
theorem refRound_fn {L : List Bool} {p P D : Nat} (hD : D ≠ 0) (hD2 : D ≤ 4294967296) (hP : P ≤ 1099511627776) (hp : p ≤ L.length) (hL : L.length ≤ 1048576) : Fn1 Tryz.prog 149 [.row 1 (L.map be), .lit (.int .i64 (p : Int)), .lit (.int .i64 (P : Int)), .lit (.int .i64 (D : Int))] []
    (outV (rndN L P D p).1 ((rndN L P D p).2.2.1 - p) (rndN L P D p).2.1) [] := by
  have hm : (P : Int) % (D : Int) = ((P % D : Nat) : Int) := rfl
  have hq : (P : Int) / (D : Int) = ((P / D : Nat) : Int) := rfl
  have hml := Nat.mod_lt P (show 0 < D by omega)
  have hql := Nat.div_le_self P D
  have hr := refRatio_fn (L := L) (p := p) (P := P % D) (D := D) hD (by omega) hD2 hp hL
  have hge := ratX_ge (L := L) (P := P % D) (D := D) hp
  refine fn1N_of pl149 (by kernel_rfl) Tryz.call149 Tryz.func149 rfl (by kernel_rfl) rfl [.cell 8 193] (by kernel_rfl) fun Q hQ => ?_
  unfold rndN at hQ
  generalize ratX L (P % D) D p = r at *
  obtain ⟨r1, r2, r3, r4⟩ := r
  simp only at hge hr hQ
  generalize P / D = n at *
  dsimp only [out10] at hr
  rw [show (r3 : Int) - (p : Int) = ((r3 - p : Nat) : Int) by omega] at hr
  simp (maxSteps := 1000000) (disch := (first | omega | (simp only [lnA, List.length_map, List.length_range, true_and, and_true]; (try omega); done) | fail)) only [go_sem, hm, Int.reduceEq, Int.reduceToNat, Nat.reduceAdd, Nat.reduceMul, Nat.reduceEqDiff, ↓reduceIte]
  refine callV0 (hr) rfl rfl ?_
  by_cases h2 : r2 = 0
  · rw [if_pos h2] at hQ
    subst h2
    cases r1
    · simp (maxSteps := 1000000) (disch := (first | omega | (simp only [lnA, List.length_map, List.length_range, true_and, and_true]; (try omega); done) | fail)) only [go_sem, hq, Int.reduceEq, Int.reduceToNat, Nat.reduceAdd, Nat.reduceMul, Nat.reduceEqDiff, ↓reduceIte]
      exact endW [] hQ
    · simp (maxSteps := 1000000) (disch := (first | omega | (simp only [lnA, List.length_map, List.length_range, true_and, and_true]; (try omega); done) | fail)) only [go_sem, hq, Int.reduceEq, Int.reduceToNat, Nat.reduceAdd, Nat.reduceMul, Nat.reduceEqDiff, ↓reduceIte]
      exact endW [] hQ
  · rw [if_neg h2] at hQ
    refine runW ?_
    exact endW [] hQ
def okN (L : List Bool) (p : Nat) (r : Nat × Int × Nat × Bool) : Prop := r = (0, 8, L.length, true) ∨ ∃ n e q, r = (n, e, q, false) ∧ e ≠ 8 ∧ p ≤ q ∧ q ≤ L.length
end Go.Proofs.YtdmdmdoeahhkiaaGreatDoor

namespace Go.Proofs.YtdmdmdoeahhkiaaGreatDoor
open Go.Eng Go.Vx
set_option linter.unusedSimpArgs false
set_option linter.unusedVariables false
set_option maxRecDepth 100000
end Go.Proofs.YtdmdmdoeahhkiaaGreatDoor

namespace Go.Proofs.YtdmdmdoeahhkiaaGreatDoor
open Go.Eng Go.Vx
set_option linter.unusedSimpArgs false
set_option linter.unusedVariables false
set_option maxRecDepth 100000
end Go.Proofs.YtdmdmdoeahhkiaaGreatDoor

namespace Go.Proofs.YtdmdmdoeahhkiaaGreatDoor
open Go.Eng Go.Vx
set_option linter.unusedSimpArgs false
set_option linter.unusedVariables false
set_option maxRecDepth 100000
def dg (n : Nat) : List Nat := dgB 10000 n
def DV (n : Nat) : V := .row 1 ((nl (dg n)).map (ie .i64))
attribute [go_sem] DV
end Go.Proofs.YtdmdmdoeahhkiaaGreatDoor

namespace Go.Proofs.YtdmdmdoeahhkiaaGreatDoor
open Go.Eng Go.Vx
set_option linter.unusedSimpArgs false
set_option linter.unusedVariables false
set_option maxRecDepth 100000
def wv (W : List Nat) : Nat := valB 18446744073709551616 W
end Go.Proofs.YtdmdmdoeahhkiaaGreatDoor

namespace Go.Proofs.YtdmdmdoeahhkiaaGreatDoor
open Go.Eng Go.Vx
set_option linter.unusedSimpArgs false
set_option linter.unusedVariables false
set_option maxRecDepth 100000
theorem cmpI_gt {a b : Nat} (h : b < a) : cmpI a b = 1 := by unfold cmpI; rw [if_neg (by omega), if_pos h]
end Go.Proofs.YtdmdmdoeahhkiaaGreatDoor

namespace Go.Proofs.YtdmdmdoeahhkiaaGreatDoor
set_option linter.unusedSimpArgs false
set_option linter.unusedVariables false
structure PW (P : SP) : Prop extends PB P where
  m255 : P.m ≤ 255
  d3 : P.d ≤ 3
  s4 : P.s ≤ 4
theorem wth_le {c : Cell} {s A : Nat} (hc : c.1 ≤ A) (hm : c.2 ≤ 3) (hs : s ≤ 4) : wth c s ≤ A * 4096 := by
  unfold wth
  have h1 : s * c.2 ≤ 4 * 3 := Nat.mul_le_mul hs hm
  have h2 : 2 ^ (s * c.2) ≤ 2 ^ 12 := Nat.pow_le_pow_right (by decide) (by omega)
  exact Nat.mul_le_mul hc h2
theorem mode_le {P : SP} {v s : Nat} : modeOf P v s P.d 0 ≤ P.d := (modeOf_spec (P := P) (v := v) (s := s) (f := P.d) (m := 0) (by omega)).1
theorem sm_le {s m : Nat} (hs : s ≤ 4) (hm : m ≤ 3) : s * m ≤ 12 := by
  have := Nat.mul_le_mul hs hm
  omega
theorem rnd_le {L : List Bool} {n k p a q : Nat} (h : (rndD n k).run L p = some (a, q)) : a ≤ n / 2 ^ k + 1 ∧ a ≤ n + 1 := by
  have h1 := all_run (rndD_all n k) h
  have := Nat.div_le_self n (2 ^ k)
  omega
theorem run_map {α β : Type} {L : List Bool} {f : α → β} {t : DT α} {p : Nat} : (t.bind fun r => DT.ret (f r)).run L p = (t.run L p).map (fun x => (f x.1, x.2)) := by
  rw [run_bind]
  cases t.run L p with
  | none => rfl
  | some x => rfl
theorem scD_run {P : SP} {L : List Bool} {v s p : Nat} : (scD P v s).run L p = ((rndD v (s * modeOf P v s P.d 0)).run L p).map (fun r => ((r.1, modeOf P v s P.d 0), r.2)) := run_map
theorem upD_run {L : List Bool} {c : Cell} {s p : Nat} : (upD c s).run L p = ((rndD c.1 s).run L p).map (fun r => ((r.1, c.2 + 1), r.2)) := run_map
theorem reD_run {P : SP} {L : List Bool} {c : Cell} {w p : Nat} : (reD P w c).run L p = match (scD P (wth c w) (w + 1)).run L p with | some (c1, q) => if P.m < c1.1 then (upD c1 (w + 1)).run L q else some (c1, q) | none => none := by
  unfold reD
  rw [run_bind]
  cases (scD P (wth c w) (w + 1)).run L p with
  | none => rfl
  | some x =>
    obtain ⟨c1, q⟩ := x
    show (if P.m < c1.1 then upD c1 (w + 1) else .ret c1).run L q = if P.m < c1.1 then (upD c1 (w + 1)).run L q else some (c1, q)
    split <;> rfl
theorem rsD_own {P : SP} {L : List Bool} {w k p : Nat} {i : Int} {c own : Cell} {cs : List Cell} (hk : (k : Int) = i) : (rsD P w i (c :: cs) k own).run L p = match (scD P (wth own w) (w + 1)).run L p with | some (o, q) => ((rsD P w i cs (k + 1) o).run L q).map (fun r => ((c :: r.1.1, r.1.2), r.2)) | none => none := by
  rw [rsD.eq_2, if_pos hk, run_bind]
  cases (scD P (wth own w) (w + 1)).run L p with
  | none => rfl
  | some x => exact run_map
theorem rsD_other {P : SP} {L : List Bool} {w k p : Nat} {i : Int} {c own : Cell} {cs : List Cell} (hk : ¬ (k : Int) = i) : (rsD P w i (c :: cs) k own).run L p = match (reD P w c).run L p with | some (c1, q) => ((rsD P w i cs (k + 1) own).run L q).map (fun r => ((putS c1 :: r.1.1, r.1.2), r.2)) | none => none := by
  rw [rsD.eq_2, if_neg hk, run_bind]
  cases (reD P w c).run L p with
  | none => rfl
  | some x => exact run_map
theorem dead_next {α : Type} {L : List Bool} {t : DT α} {d : Bool} {p q : Nat} {a : α} (hp : p ≤ L.length) (hd : d = true → p = L.length) (h : t.run L p = some (a, q)) : q ≤ L.length ∧ (d = true → q = L.length) := by
  have := run_le hp h
  refine ⟨this.2, fun e => ?_⟩
  have := hd e
  omega
end Go.Proofs.YtdmdmdoeahhkiaaGreatDoor
