import Derived.Test.YthbcfjlalmhabaaVl
import Derived.Test.YthbcfjlalmhabaaGlue
/-! From what a statement hands in to values without addresses. -/
namespace Go.Proofs.Ythbcfjlalmhabaa
open Go.Eng Go.Vx Go.RowKit
set_option linter.unusedSimpArgs false
set_option linter.unusedVariables false
theorem rep_of_row {w : World} {a : Option Addr} {len cap : Nat} {C : List Value} {l : List (List PV)} (hl : l.length = len) (hc : len ≤ cap) (hz : ∀ e ∈ l, e.length = 1) (hR : Row w a C) (hn : C.length = len) (ho : ∀ c ∈ C, oneC c = true)
    (hr : ∀ (i : Nat) c p, C[i]? = some c → l.flatten[i]? = some p → RepP w (fun b => b < w.heap.size) p c) : RepV w (fun b => b < w.heap.size) [] (.row 1 l) (.slice a len cap) := by
  refine .row (.row (C := C) hl.symm hc hz hR (fun hne => ?_) (by omega) ho hr)
  have hpos : 0 < C.length := by
    cases C with
    | nil => exact absurd rfl hne
    | cons _ _ => simp
  exact World.block_lt_of_cell? _ _ (hR.2 0 hpos)
theorem flat_one {α : Type} (f : α → PV) (l : List α) : (l.map fun x => [f x]).flatten = l.map f := by
  induction l with
  | nil => rfl
  | cons x l ih => simp [ih]
theorem rep_ints {k : IntKind} {w : World} {a : Option Addr} {len cap : Nat} {zs : List Int}
    (h : (a = none ∧ len = 0 ∧ cap = 0 ∧ zs = []) ∨ ∃ x, a = some x ∧ len ≤ cap ∧ cap ≤ maxLen ∧ zs.length = cap ∧ (∀ i, i < zs.length → w.cell? (x.add i) = some (.int k (zs.getD i 0))) ∧ ∀ n ∈ zs, (Lit.int k n).wf = true) :
    ∃ l : List Int, l.length = len ∧ len ≤ maxLen ∧ (∀ n ∈ l, k.min ≤ n ∧ n ≤ k.max) ∧ RepV w (fun b => b < w.heap.size) [] (.row 1 (l.map (ie k))) (.slice a len cap) := by
  obtain ⟨l, h1, h2, h3, h4, h5⟩ := row_ints h
  have e : (l.map (ie k)).flatten = l.map fun x => PV.lit (.int k x) := flat_one (fun x => PV.lit (.int k x)) l
  refine ⟨l, h1, Nat.le_trans h2 h3, fun n hn => wf_bounds (h5 n hn), rep_of_row (by simpa using h1) h2 (fun e he => ?_) h4 (by simpa using h1) (fun c hc => ?_) (fun i c p hc hp => ?_)⟩
  · obtain ⟨x, _, rfl⟩ := List.mem_map.1 he
    rfl
  · obtain ⟨x, _, rfl⟩ := List.mem_map.1 hc
    rfl
  · rw [e] at hp
    rw [List.getElem?_map] at hc hp
    cases hx : l[i]? with
    | none => rw [hx] at hc; cases hc
    | some x => rw [hx] at hc hp; cases hc; cases hp; exact .lit rfl
def IsB (B : List Int) : Prop := ∀ x ∈ B, 0 ≤ x ∧ x ≤ 255
theorem isB_of {l : List Int} (h : ∀ n ∈ l, IntKind.u8.min ≤ n ∧ n ≤ IntKind.u8.max) : IsB l := fun x hx => by
  have h := h x hx
  have e1 : IntKind.u8.min = 0 := by decide
  have e2 : IntKind.u8.max = 255 := by decide
  rw [e1, e2] at h
  exact h
theorem isW_of {l : List Int} (h : ∀ n ∈ l, IntKind.u64.min ≤ n ∧ n ≤ IntKind.u64.max) : ∀ x ∈ l, 0 ≤ x ∧ x < 18446744073709551616 := fun x hx => by
  have h := h x hx
  have e1 : IntKind.u64.min = 0 := by decide
  have e2 : IntKind.u64.max = 18446744073709551615 := by decide
  rw [e1, e2] at h
  omega
/-- A law, proved. -/
theorem calls_fn {P : Program} {f : FuncId} {vs : List V} {args : List Value} {w : World} (h : Fn1 P f vs [] (.lit (.bool true)) []) (hr : RepL w (fun b => b < w.heap.size) [] vs args) :
    Calls P f args.toArray w fun e w' => e = .returned (.bool true) ∧ Below w.heap.size w w' := calls_of (rets_of_fn (u := .lit (.bool true)) h hr fun u s h => h.1)
end Go.Proofs.Ythbcfjlalmhabaa
