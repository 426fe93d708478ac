import Derived.Test.YtfemchdaoihogaaE6
import Derived.Laws.Externs
/-! Calls that the model answers at once. -/
namespace Go.Eng
open Go.Vx
set_option linter.unusedSimpArgs false
set_option linter.unusedVariables false
theorem RepL_lits {w : World} {Im : Nat → Prop} {μ : Mu} : ∀ {xs args : List Value}, RepL w Im μ (xs.map V.lit) args → args = xs
  | [], args, h => List.length_eq_zero_iff.1 (by simpa using h.1)
  | x :: xs, args, h => by
    obtain ⟨v, vs, rfl, h1, h2⟩ := RepL.uncons h
    cases h1
    rw [RepL_lits h2]
theorem callX {P : Program} {e : Bool} {f : FuncId} {xs : List Value} {u : V} {v : Value} {σ : St} {K : KV} (h : ∀ w, (callFunc f xs.toArray).run P w = .ok (.value v) w)
    (hu : ∀ w Im μ, RepV w Im μ u v) (hk : K true u σ) : callV P e f (xs.map V.lit) σ K := fun μ Im w args r hr => by
  obtain rfl := RepL_lits hr
  unfold cllK callK runK
  rw [h]
  exact ⟨u, σ, μ, Im, r, Stp.refl _ _ _ _, fun _ => Ext.refl _ _, hu _ _ _, hk⟩
theorem two_rep {a b : Value} (ha : oneC a = true) (hb : oneC b = true) (w : World) (Im : Nat → Prop) (μ : Mu) : RepV w Im μ (.tup [.lit a, .lit b]) (.tuple #[a, b]) :=
  .tup (C := [a, b]) rfl fun i u c h1 h2 => by
    rcases i with _ | _ | i
    · simp at h1 h2; subst h1; subst h2; exact .lit ha
    · simp at h1 h2; subst h1; subst h2; exact .lit hb
    · simp at h1
/-- math/bits.Add64. -/
theorem call_add64 {P : Program} {e : Bool} {f : FuncId} {fn : Func} {x y c : Nat} {σ : St} {K : KV} (hf : P.funcs[f]? = some fn) (h1 : (fn.name == "runtime.NumGoroutine") = false)
    (h2 : fn.body.isNone = true) (h3 : Extern.findNext fn = none) (h4 : Extern.find fn = some add64Entry) (hc : c ≤ 1)
    (hk : K true (.tup [.lit (.int .u64 (((x + y + c) % 18446744073709551616 : Nat) : Int)), .lit (.int .u64 (((x + y + c) / 18446744073709551616 : Nat) : Int))]) σ) :
    callV P e f [.lit (.int .u64 (x : Int)), .lit (.int .u64 (y : Int)), .lit (.int .u64 (c : Int))] σ K := by
  refine callX (xs := [.int .u64 (x : Int), .int .u64 (y : Int), .int .u64 (c : Int)]) (fun w => ?_) (two_rep rfl rfl) hk
  rw [run_callFunc_extern hf h1 h2 h3 h4, run_add64 x y c (by omega) (by omega) (by omega) (by omega)]
  simp only [Result.andThen]
  congr 5 <;> omega
/-- math/bits.Sub64. -/
def sub64E : Array Value → Sem Value := (Extern.MathBitsCarry.rows.getD 1 ("", fun _ => stuck "")).2
theorem run_sub64E {P : Program} (x y b : Nat) (hb : b ≤ 1) (w : World) : (sub64E #[.int .u64 x, .int .u64 y, .int .u64 b]).run P w =
    .ok (.tuple #[.int .u64 (((x + 18446744073709551616 - y - b) % 18446744073709551616 : Nat) : Int), .int .u64 ((if x < y + b then 1 else 0 : Nat) : Int)]) w := by
  have : b = 0 ∨ b = 1 := by omega
  rcases this with rfl | rfl <;> rfl
theorem call_sub64 {P : Program} {e : Bool} {f : FuncId} {fn : Func} {x y c : Nat} {σ : St} {K : KV} (hf : P.funcs[f]? = some fn) (h1 : (fn.name == "runtime.NumGoroutine") = false)
    (h2 : fn.body.isNone = true) (h3 : Extern.findNext fn = none) (h4 : Extern.find fn = some sub64E) (hc : c ≤ 1)
    (hk : K true (.tup [.lit (.int .u64 (((x + 18446744073709551616 - y - c) % 18446744073709551616 : Nat) : Int)), .lit (.int .u64 ((if x < y + c then 1 else 0 : Nat) : Int))]) σ) :
    callV P e f [.lit (.int .u64 (x : Int)), .lit (.int .u64 (y : Int)), .lit (.int .u64 (c : Int))] σ K := by
  refine callX (xs := [.int .u64 (x : Int), .int .u64 (y : Int), .int .u64 (c : Int)]) (fun w => ?_) (two_rep rfl rfl) hk
  rw [run_callFunc_extern hf h1 h2 h3 h4, run_sub64E x y c hc]
  rfl
end Go.Eng
