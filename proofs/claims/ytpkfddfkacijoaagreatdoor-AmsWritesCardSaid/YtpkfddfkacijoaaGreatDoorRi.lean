import Derived.Test.YtpkfddfkacijoaaGreatDoorE6
import Derived.Test.YtpkfddfkacijoaaGreatDoorLb
import Derived.Test.YtpkfddfkacijoaaGreatDoorRh
import Derived.Test.YtpkfddfkacijoaaGreatDoorQa
import Derived.Test.YtpkfddfkacijoaaGreatDoorFa
import Derived.Test.YtpkfddfkacijoaaGreatDoorLa
namespace Go.Vx
open Go.Eng
set_option linter.unusedSimpArgs false
set_option linter.unusedVariables false
section
variable {P : Program}
def FnR (P : Program) (f : FuncId) (vs : List V) (σ : St) {X : Type} (R : X → Prop) (r : X → V) (s : X → St) : Prop := Fn P f vs σ fun u' s' => ∃ x, R x ∧ u' = r x ∧ s' = s x
theorem fnRN_of {f : FuncId} {fn : Func} {c : Code} {vs : List V} {σ : St} {X : Type} {R : X → Prop} {r : X → V} {s : X → St} (pl : Plans) (hm : P.follows .mixedOrders = true) (hcf : ∀ (args : Array Value) (w : World), (callFunc f args).run P w = .ok (.enter f args) w)
    (hf : P.funcs[f]? = some fn) (hb : fn.body = some c) (hc : chkN fn.ntmps pl c = true) (hs : Nat.ble vs.length fn.ntmps = true) (rs : List ResultVar) (hr : fn.results.toList = rs)
    (h : ∀ Q : V → St → Prop, (∀ x, R x → Q (r x) (s x)) → denV true P σ.length pl c (rgV 0 vs) σ (retPV P rs (EndV σ.length Q))) : FnR P f vs σ R r s :=
  fn_of pl hm hcf hf hb (chkN_chk hc) hs rs hr (h _ fun x hx => ⟨x, hx, rfl, rfl⟩)
theorem callR {e : Bool} {f : FuncId} {vs vs₀ : List V} {σ σ₀ : St} {X : Type} {R : X → Prop} {r : X → V} {s : X → St} {K : KV} (π : Pi) (F : List Nat) (spec : FnR P f vs₀ σ₀ R r s)
    (hk : ∀ x, R x → K true (renV (rnm (vpi σ.length π) (σ.length + vcnt π)) (r x)) (behd π F σ (s x)))
    (h1 : (ndp π && π.all (fun p => match p with | some p => decide (p < σ.length) && !F.contains p | none => true)) = true := by rfl)
    (h2 : mSt F.contains π σ σ₀ π := by simp (disch := (first | omega | (simp only [List.length_append, List.length_set, List.length_cons, List.length_nil, List.length_replicate, List.length_take, List.length_drop, List.length_map, List.length_range, true_and, and_true]; (try omega); done) | fail)) only [go_sem, Int.reduceEq, Int.reduceToNat, Nat.reduceAdd, Nat.reduceMul, Nat.reduceEqDiff, ↓reduceIte, true_and, and_true, and_self, List.drop_zero, List.take_length, Nat.le_refl, V.lit.injEq, Value.int.injEq, Value.bool.injEq]; try (first | omega | (simp; done) | (simp; omega)))
    (h3 : mVs F.contains π σ vs₀ vs := by simp (disch := (first | omega | (simp only [List.length_append, List.length_set, List.length_cons, List.length_nil, List.length_replicate, List.length_take, List.length_drop, List.length_map, List.length_range, true_and, and_true]; (try omega); done) | fail)) only [go_sem, Int.reduceEq, Int.reduceToNat, Nat.reduceAdd, Nat.reduceMul, Nat.reduceEqDiff, ↓reduceIte, true_and, and_true, and_self, List.drop_zero, List.take_length, Nat.le_refl, V.lit.injEq, Value.int.injEq, Value.bool.injEq]; try (first | omega | (simp; done) | (simp; omega))) (he : e = true → σ₀ = [] := by simp) : callV P e f vs σ K :=
  callV_of π F spec ⟨h1, h2, h3⟩ he fun u s ⟨x, hx, h4, h5⟩ => by rw [h4, h5]; exact hk x hx
end
@[go_sem] theorem pnO_cells {l : List V} : pnO (.cells l) = (pnV.pnL l = true) := (rfl)
end Go.Vx

namespace Go.Proofs.YtpkfddfkacijoaaGreatDoor
open Go.Eng Go.Vx
set_option linter.unusedSimpArgs false
set_option linter.unusedVariables false
set_option maxRecDepth 100000
theorem xlog_fn {N : Nat} {n : Int} (h : max 0 (min n 1048576) = (N : Int)) : Fn1 Tryz.prog 107 [.lit (.int .i64 n)] [] (.lit (.int .i64 ((N * lgN (max 1 N) : Nat) : Int))) [] := by
  refine fn1N_of pl107 (by kernel_rfl) Tryz.call107 Tryz.func107 rfl (by kernel_rfl) rfl [.tmp 2] (by kernel_rfl) fun Q hQ => ?_
  have hN : N ≤ 1048576 := by omega
  have hl := lgN_le (n := max 1 N) (by omega) (by omega)
  have hm : N * lgN (max 1 N) ≤ 1048576 * (41 * 268435456) := Nat.mul_le_mul hN (by omega)
  have hc : (N : Int) * ((lgN (max 1 N) : Nat) : Int) = ((N * lgN (max 1 N) : Nat) : Int) := by simp
  simp (maxSteps := 1000000) (disch := (first | omega | (simp only [lnA, List.length_map, List.length_range, true_and, and_true]; (try omega); done) | fail)) only [go_sem, h, Int.reduceEq, Int.reduceToNat, Nat.reduceAdd, Nat.reduceMul, Nat.reduceEqDiff, ↓reduceIte]
  refine callV0 (log2_fn (N := max 1 N) (n := (N : Int)) (by omega)) rfl rfl ?_
  simp (maxSteps := 1000000) (disch := (first | omega | (simp only [lnA, List.length_map, List.length_range, true_and, and_true]; (try omega); done) | fail)) only [go_sem, hc, Int.reduceEq, Int.reduceToNat, Nat.reduceAdd, Nat.reduceMul, Nat.reduceEqDiff, ↓reduceIte]
  exact endW [] hQ
end Go.Proofs.YtpkfddfkacijoaaGreatDoor

namespace Go.Proofs.YtpkfddfkacijoaaGreatDoor
open Go.Eng Go.Vx
set_option linter.unusedSimpArgs false
set_option linter.unusedVariables false
set_option maxRecDepth 100000
def xl (N : Nat) : Int := ((N * lgN (max 1 N) : Nat) : Int)
theorem xl_le {N : Nat} (h : N ≤ 1048576) : 0 ≤ xl N ∧ xl N ≤ 11542724608000000 := by
  have hl := lgN_le (n := max 1 N) (by omega) (by omega)
  have hm : N * lgN (max 1 N) ≤ 1048576 * (41 * 268435456) := Nat.mul_le_mul h (by omega)
  unfold xl
  omega
theorem xlogx_fn {N : Nat} {n : Int} (h : max 0 (min n 1048576) = (N : Int)) : Fn1 Tryz.prog 107 [.lit (.int .i64 n)] [] (.lit (.int .i64 (xl N))) [] := xlog_fn h
theorem xlogn_fn {N : Nat} (h2 : N ≤ 1048576) : Fn1 Tryz.prog 107 [.lit (.int .i64 (N : Int))] [] (.lit (.int .i64 (xl N))) [] := xlogx_fn (by omega)
end Go.Proofs.YtpkfddfkacijoaaGreatDoor
