import Derived.Test.YthbcfjlalmhabaaBitsE
import Derived.Deep.SlicePairs
/-! A slice of numbers with widths that came in. -/
namespace Go.Proofs.Ythbcfjlalmhabaa
open Go.Eng Go.ChangeShapes Go.WideShapes
set_option linter.unusedSimpArgs false
set_option linter.unusedVariables false
set_option maxRecDepth 100000

def PutsRow (w : World) (a : Option Addr) (len cap : Nat) : Prop :=
  ∃ l : List PutN, l.length = len ∧ len ≤ cap ∧ cap ≤ maxLen ∧ Row w a (putsC l) ∧ ∀ x ∈ l, x.n < 18446744073709551616 ∧ -9223372036854775808 ≤ x.m ∧ x.m ≤ 9223372036854775807

theorem open_puts {H : Type} {enc : TypeId × Value → H} {W : World} {a : Option Addr} {len cap fuel base : Nat} {held : Bool} {x : DataW H × List MemPlace}
    (hf : DataW.trod enc Try.prog W base (fun _ => true) held fuel 22 [.slice a len cap] = some x) : PutsRow W a len cap := by
  rcases Go.Deep.open_slice_pairs Try.underlying22 Try.underlying30 (by kernel_rfl) rfl rfl (by kernel_rfl) (by kernel_rfl) hf with ⟨hcs, -⟩ | ⟨y, l, c, m, n, V0, V1, D0, D1, P0, P1, hcs, -, hl, hm, hmm, -, hall⟩
  · simp only [List.cons.injEq, Value.slice.injEq, and_true] at hcs
    obtain ⟨rfl, rfl, rfl⟩ := hcs
    exact ⟨[], rfl, Nat.le_refl _, Nat.zero_le _, Row.nil _ _, fun x hx => by simp at hx⟩
  · simp only [List.cons.injEq, Value.slice.injEq, and_true] at hcs
    obtain ⟨rfl, rfl, rfl⟩ := hcs
    simp only [if_true] at hmm
    subst hmm
    have h0 : ∀ i, i < m → ∃ N M, V0 i = .int .u64 N ∧ V1 i = .int .i64 M ∧ (Lit.int .u64 N).wf = true ∧ (Lit.int .i64 M).wf = true := fun i hi => by
      obtain ⟨N, h1, -, h3⟩ := DataW.trod_int Try.underlying28 (hall i hi).2.2.1
      obtain ⟨M, h4, -, h6⟩ := DataW.trod_int Try.underlying3 (hall i hi).2.2.2
      simp only [List.cons.injEq, and_true] at h1 h4
      exact ⟨N, M, h1, h4, h3, h6⟩
    have ex : ∀ i, ∃ x : PutN, i < m → V0 i = .int .u64 (x.n : Int) ∧ V1 i = .int .i64 x.m ∧ x.n < 18446744073709551616 ∧ -9223372036854775808 ≤ x.m ∧ x.m ≤ 9223372036854775807 := fun i => by
      by_cases hi : i < m
      · obtain ⟨N, M, e1, e2, e3, e4⟩ := h0 i hi
        obtain ⟨k, rfl, hk⟩ := u64_nat e3
        have hM := i64_range e4
        exact ⟨⟨k, M⟩, fun _ => ⟨e1, e2, hk, hM.1, hM.2⟩⟩
      · exact ⟨default, fun h => absurd h hi⟩
    obtain ⟨X, hX⟩ := Classical.axiomOfChoice ex
    have hlen : ((List.range len).map X).length = len := by simp
    refine ⟨(List.range len).map X, hlen, hl, hm, row_cells (fun i hi => ?_), fun x hx => ?_⟩
    · rw [putsC_len, hlen] at hi
      have hq : i / 2 < len := by omega
      have hg : ((List.range len).map X).getD (i / 2) default = X (i / 2) := by
        rw [List.getD_eq_getElem?_getD, List.getElem?_map, List.getElem?_range hq]; rfl
      have h1 := putsC_get ((List.range len).map X) (i / 2) (i % 2) (by rw [hlen]; exact hq) (Nat.mod_lt _ (by omega))
      rw [show i / 2 * 2 + i % 2 = i by omega, hg] at h1
      obtain ⟨e1, e2, -⟩ := hX (i / 2) (by omega)
      obtain ⟨c1, c2, -⟩ := hall (i / 2) (by omega)
      have h2 := List.getElem?_eq_getElem (l := putsC ((List.range len).map X)) (i := i) (by rw [putsC_len, hlen]; omega)
      rw [h1] at h2
      rcases Nat.mod_two_eq_zero_or_one i with hr | hr
      · rw [hr] at h2
        rw [show i / 2 * 2 = i by omega, e1] at c1
        rw [c1]
        simpa [putC] using h2
      · rw [hr] at h2
        rw [show i / 2 * 2 + 1 = i by omega, e2] at c2
        rw [c2]
        simpa [putC] using h2
    · obtain ⟨i, hi, rfl⟩ := List.mem_map.1 hx
      have := List.mem_range.1 hi
      exact (hX i (by omega)).2.2
end Go.Proofs.Ythbcfjlalmhabaa
