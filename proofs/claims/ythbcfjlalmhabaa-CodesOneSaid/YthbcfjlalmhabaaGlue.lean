import Derived.Test.YthbcfjlalmhabaaApp
import Derived.Test.YthbcfjlalmhabaaLib
import Derived.Below
/-! From what a statement hands in to rows, and back. -/
namespace Go.Proofs.Ythbcfjlalmhabaa
open Go.Eng
open Go.RowKit
set_option linter.unusedSimpArgs false
set_option linter.unusedVariables false

theorem toBelow {w w' : World} (h : Ext [] w w') : Below w.heap.size w w' := ⟨h.os, h.tape, h.output, h.size, fun k hk => h.block k hk (by simp)⟩
theorem cell_spot {w : World} {x : Addr} {v : Value} (h : w.cell? x = some v) : x.spot = none := by
  unfold World.cell? at h
  split at h
  · split at h
    · simp at h
    · rename_i hn; simpa using hn
  · simp at h
theorem row_cells {w : World} {x : Addr} {cs : List Value} (h : ∀ i (hi : i < cs.length), w.cell? (x.add i) = some cs[i]) : Row w (some x) cs := by
  have hs : 0 < cs.length → x = ⟨x.block, x.off, none⟩ := fun h0 => by
    have := cell_spot (h 0 h0)
    cases x
    simpa [Addr.add] using this
  refine ⟨fun h0 => congrArg some (hs h0), fun i hi => ?_⟩
  have h1 := h i hi
  have h2 := hs (by omega)
  have : x.add i = ⟨x.block, x.off + i, none⟩ := by rw [h2]; simp [Addr.add]
  rw [this] at h1
  exact h1
/-- A slice of numbers that came in. -/
theorem row_ints {k : IntKind} {w : World} {a : Option Addr} {len cap : Nat} {zs : List Int}
    (h : (a = none ∧ len = 0 ∧ cap = 0 ∧ zs = []) ∨ ∃ x, a = some x ∧ len ≤ cap ∧ cap ≤ maxLen ∧ zs.length = cap ∧ (∀ i, i < zs.length → w.cell? (x.add i) = some (.int k (zs.getD i 0))) ∧ ∀ n ∈ zs, (Lit.int k n).wf = true) :
    ∃ l : List Int, l.length = len ∧ len ≤ cap ∧ cap ≤ maxLen ∧ Row w a (l.map (Value.int k)) ∧ ∀ n ∈ l, (Lit.int k n).wf = true := by
  rcases h with ⟨rfl, rfl, rfl, rfl⟩ | ⟨x, rfl, hl, hm, hz, hc, hw⟩
  · exact ⟨[], rfl, Nat.le_refl _, Nat.zero_le _, Row.nil _ _, fun n hn => by simp at hn⟩
  · refine ⟨zs.take len, by simp; omega, hl, hm, ?_, fun n hn => hw n (List.mem_of_mem_take hn)⟩
    rw [List.map_take]
    refine Row.take (row_cells fun i hi => ?_) len
    rw [hc i (by simpa using hi)]
    simp [List.getD_eq_getElem?_getD, List.getElem?_eq_getElem (show i < zs.length by simpa using hi)]
theorem wf_bounds {k : IntKind} {n : Int} (h : (Lit.int k n).wf = true) : k.min ≤ n ∧ n ≤ k.max := by
  have h' : (decide (k.min ≤ n) && decide (n ≤ k.max)) = true := h
  simpa using h'
theorem row_u8 {w : World} {a : Option Addr} {len cap : Nat} {zs : List Int}
    (h : (a = none ∧ len = 0 ∧ cap = 0 ∧ zs = []) ∨ ∃ x, a = some x ∧ len ≤ cap ∧ cap ≤ maxLen ∧ zs.length = cap ∧ (∀ i, i < zs.length → w.cell? (x.add i) = some (.int .u8 (zs.getD i 0))) ∧ ∀ n ∈ zs, (Lit.int .u8 n).wf = true) :
    ∃ l : List UInt8, l.length = len ∧ len ≤ cap ∧ cap ≤ maxLen ∧ Row w a (l.map u8v) := by
  obtain ⟨l, h1, h2, h3, h4, h5⟩ := row_ints h
  refine ⟨l.map fun n => UInt8.ofNat n.toNat, by simpa using h1, h2, h3, ?_⟩
  have : (l.map fun n => UInt8.ofNat n.toNat).map u8v = l.map (Value.int .u8) := by
    rw [List.map_map]
    refine List.map_congr_left fun n hn => ?_
    have := h5 n hn
    obtain ⟨b1, b2⟩ := wf_bounds this
    have e1 : IntKind.u8.min = 0 := by decide
    have e2 : IntKind.u8.max = 255 := by decide
    rw [e1] at b1
    rw [e2] at b2
    simp only [Function.comp, u8v]
    congr 1
    rw [UInt8.toNat_ofNat', Nat.mod_eq_of_lt (by omega)]
    omega
  rw [this]; exact h4
theorem u8_nat {n : Int} (h : (Lit.int .u8 n).wf = true) : ∃ m : Nat, n = (m : Int) ∧ m < 256 := by
  obtain ⟨b1, b2⟩ := wf_bounds h
  have e1 : IntKind.u8.min = 0 := by decide
  have e2 : IntKind.u8.max = 255 := by decide
  exact ⟨n.toNat, by omega, by omega⟩
theorem u32_nat {n : Int} (h : (Lit.int .u32 n).wf = true) : ∃ m : Nat, n = (m : Int) ∧ m < 4294967296 := by
  obtain ⟨b1, b2⟩ := wf_bounds h
  have e1 : IntKind.u32.min = 0 := by decide
  have e2 : IntKind.u32.max = 4294967295 := by decide
  exact ⟨n.toNat, by omega, by omega⟩
theorem u64_nat {n : Int} (h : (Lit.int .u64 n).wf = true) : ∃ m : Nat, n = (m : Int) ∧ m < 18446744073709551616 := by
  obtain ⟨b1, b2⟩ := wf_bounds h
  have e1 : IntKind.u64.min = 0 := by decide
  have e2 : IntKind.u64.max = 18446744073709551615 := by decide
  exact ⟨n.toNat, by omega, by omega⟩
theorem i64_range {n : Int} (h : (Lit.int .i64 n).wf = true) : -9223372036854775808 ≤ n ∧ n ≤ 9223372036854775807 := by
  obtain ⟨b1, b2⟩ := wf_bounds h
  have e1 : IntKind.i64.min = -9223372036854775808 := by decide
  have e2 : IntKind.i64.max = 9223372036854775807 := by decide
  omega
/-- What a law's own walk is asked for. -/
theorem calls_of {P : Program} {f : FuncId} {args : List Value} {w : World} (h : Rets P f args w fun v w' => v = .bool true ∧ Ext [] w w') :
    Calls P f args.toArray w fun e w' => e = .returned (.bool true) ∧ Below w.heap.size w w' :=
  Calls.mono h fun e w' ⟨v, he, hv, hw⟩ => ⟨by rw [he, hv], toBelow hw⟩
end Go.Proofs.Ythbcfjlalmhabaa
