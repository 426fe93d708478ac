import Derived.Test.YthbcfjlalmhabaaPc
import Derived.Test.YthbcfjlalmhabaaVm
import Derived.Deep.SlicePairs
/-! A slice of numbers with widths that came in. -/
namespace Go.Proofs.Ythbcfjlalmhabaa
open Go.Eng Go.Vx Go.ChangeShapes Go.WideShapes
set_option linter.unusedSimpArgs false
set_option linter.unusedVariables false
set_option maxRecDepth 100000
def putC (x : PutN) : List Value := [.int .u64 (x.n : Int), .int .i64 x.m]
def putsC (l : List PutN) : List Value := l.flatMap putC
theorem putsC_len (l : List PutN) : (putsC l).length = l.length * 2 := by
  induction l with
  | nil => rfl
  | cons x l ih => simp only [putsC, List.flatMap_cons, List.length_append, List.length_cons] at ih ⊢; rw [ih]; simp [putC]; omega
theorem putsC_get : ∀ (l : List PutN) (i j : Nat), i < l.length → j < 2 → (putsC l)[i * 2 + j]? = (putC (l.getD i default))[j]?
  | x :: l, 0, j, _, hj => by
    simp only [putsC, List.flatMap_cons, Nat.zero_mul, Nat.zero_add]
    rw [List.getElem?_append_left (by simpa [putC] using hj)]
    rfl
  | x :: l, i + 1, j, hi, hj => by
    simp only [putsC, List.flatMap_cons]
    rw [List.getElem?_append_right (by simp [putC]; omega)]
    have := putsC_get l i j (by simpa using hi) hj
    simp only [putsC] at this
    simp only [List.getD_cons_succ]
    rw [← this]
    congr 1
    simp [putC]
    omega

/-- A slice of plain cells that came in, elements of z cells each. -/
theorem rep_lits {w : World} {a : Option Addr} {len cap z : Nat} {l : List (List Value)} (hl : l.length = len) (hc : len ≤ cap) (hz : ∀ e ∈ l, e.length = z) (hR : Row w a l.flatten) (ho : ∀ c ∈ l.flatten, oneC c = true) :
    RepV w (fun b => b < w.heap.size) [] (.row z (l.map fun e => e.map PV.lit)) (.slice a len cap) := by
  have hfl : l.flatten.length = l.length * z := by
    clear hR ho hl
    induction l with
    | nil => simp
    | cons e l ih =>
      rw [List.flatten_cons, List.length_append, ih (fun x hx => hz x (by simp [hx])), hz e (by simp), List.length_cons, Nat.succ_mul]
      omega
  have e1 : (l.map fun e => e.map PV.lit).flatten = l.flatten.map PV.lit := by rw [List.map_flatten]
  refine .row (.row (C := l.flatten) (by simpa using hl.symm) hc (fun e he => ?_) hR (fun hne => ?_) (by rw [hfl, hl]) ho (fun i c p hc hp => ?_))
  · obtain ⟨x, hx, rfl⟩ := List.mem_map.1 he
    rw [List.length_map]; exact hz x hx
  · have hpos : 0 < l.flatten.length := by
      cases hq : l.flatten with
      | nil => exact absurd hq hne
      | cons _ _ => simp
    exact World.block_lt_of_cell? _ _ (hR.2 0 hpos)
  · rw [e1, List.getElem?_map, hc] at hp
    cases hp
    exact .lit (ho c (List.mem_of_getElem? hc))
def putE (x : PutN) : List PV := [.lit (.int .u64 (x.n : Int)), .lit (.int .i64 x.m)]
@[go_sem] theorem putE_eq {x : PutN} : putE x = [.lit (.int .u64 (x.n : Int)), .lit (.int .i64 x.m)] := (rfl)
def PutsV (w : World) (a : Option Addr) (len cap : Nat) : Prop :=
  ∃ l : List PutN, l.length = len ∧ len ≤ maxLen ∧ (∀ x ∈ l, x.n < 18446744073709551616 ∧ -9223372036854775808 ≤ x.m ∧ x.m ≤ 9223372036854775807) ∧ RepV w (fun b => b < w.heap.size) [] (.row 2 (l.map putE)) (.slice a len cap)
theorem putsV_of {w : World} {a : Option Addr} {len cap : Nat} {l : List PutN} (h1 : l.length = len) (h2 : len ≤ cap) (h3 : cap ≤ maxLen) (hR : Row w a (putsC l))
    (hb : ∀ x ∈ l, x.n < 18446744073709551616 ∧ -9223372036854775808 ≤ x.m ∧ x.m ≤ 9223372036854775807) : PutsV w a len cap := by
  refine ⟨l, h1, Nat.le_trans h2 h3, hb, ?_⟩
  have e : (l.map putE) = ((l.map putC).map fun e => e.map PV.lit) := by
    rw [List.map_map]; rfl
  rw [e]
  have e2 : (l.map putC).flatten = putsC l := rfl
  refine rep_lits (by simpa using h1) h2 (fun e he => ?_) (by rw [e2]; exact hR) (fun c hc => ?_)
  · obtain ⟨x, _, rfl⟩ := List.mem_map.1 he
    rfl
  · obtain ⟨e, he, hce⟩ := List.mem_flatten.1 hc
    obtain ⟨x, _, rfl⟩ := List.mem_map.1 he
    simp only [putC, List.mem_cons, List.not_mem_nil, or_false] at hce
    rcases hce with rfl | rfl <;> rfl
theorem open_puts {H : Type} {enc : TypeId × Value → H} {W : World} {a : Option Addr} {len cap fuel base : Nat} {held : Bool} {x : DataW H × List MemPlace}
    (hf : DataW.trod enc Try.prog W base (fun _ => true) held fuel 22 [.slice a len cap] = some x) : PutsV W a len cap := by
  rcases Go.Deep.open_slice_pairs Try.underlying22 Try.underlying30 (by kernel_rfl) rfl rfl (by kernel_rfl) (by kernel_rfl) hf with ⟨hcs, -⟩ | ⟨y, l, c, m, n, V0, V1, D0, D1, P0, P1, hcs, -, hl, hm, hmm, -, hall⟩
  · simp only [List.cons.injEq, Value.slice.injEq, and_true] at hcs
    obtain ⟨rfl, rfl, rfl⟩ := hcs
    exact putsV_of (l := []) rfl (Nat.le_refl _) (Nat.zero_le _) (Row.nil _ _) (fun x hx => by simp at hx)
  · simp only [List.cons.injEq, Value.slice.injEq, and_true] at hcs
    obtain ⟨rfl, rfl, rfl⟩ := hcs
    simp only [if_true] at hmm
    subst hmm
    have h0 : ∀ i, i < m → ∃ N M, V0 i = .int .u64 N ∧ V1 i = .int .i64 M ∧ (Lit.int .u64 N).wf = true ∧ (Lit.int .i64 M).wf = true := fun i hi => by
      obtain ⟨N, h1, -, h3⟩ := DataW.trod_int Try.underlying28 (hall i hi).2.2.1
      obtain ⟨M, h4, -, h6⟩ := DataW.trod_int Try.underlying3 (hall i hi).2.2.2
      simp only [List.cons.injEq, and_true] at h1 h4
      exact ⟨N, M, h1, h4, h3, h6⟩
    have ex : ∀ i, ∃ x : PutN, i < m → V0 i = .int .u64 (x.n : Int) ∧ V1 i = .int .i64 x.m ∧ x.n < 18446744073709551616 ∧ -9223372036854775808 ≤ x.m ∧ x.m ≤ 9223372036854775807 := fun i => by
      by_cases hi : i < m
      · obtain ⟨N, M, e1, e2, e3, e4⟩ := h0 i hi
        obtain ⟨k, rfl, hk⟩ := u64_nat e3
        have hM := i64_range e4
        exact ⟨⟨k, M⟩, fun _ => ⟨e1, e2, hk, hM.1, hM.2⟩⟩
      · exact ⟨default, fun h => absurd h hi⟩
    obtain ⟨X, hX⟩ := Classical.axiomOfChoice ex
    have hlen : ((List.range len).map X).length = len := by simp
    refine putsV_of (l := (List.range len).map X) hlen hl hm (row_cells (fun i hi => ?_)) (fun x hx => ?_)
    · rw [putsC_len, hlen] at hi
      have hq : i / 2 < len := by omega
      have hg : ((List.range len).map X).getD (i / 2) default = X (i / 2) := by
        rw [List.getD_eq_getElem?_getD, List.getElem?_map, List.getElem?_range hq]; rfl
      have h1 := putsC_get ((List.range len).map X) (i / 2) (i % 2) (by rw [hlen]; exact hq) (Nat.mod_lt _ (by omega))
      rw [show i / 2 * 2 + i % 2 = i by omega, hg] at h1
      obtain ⟨e1, e2, -⟩ := hX (i / 2) (by omega)
      obtain ⟨c1, c2, -⟩ := hall (i / 2) (by omega)
      have h2 := List.getElem?_eq_getElem (l := putsC ((List.range len).map X)) (i := i) (by rw [putsC_len, hlen]; omega)
      rw [h1] at h2
      rcases Nat.mod_two_eq_zero_or_one i with hr | hr
      · rw [hr] at h2
        rw [show i / 2 * 2 = i by omega, e1] at c1
        rw [c1]
        simpa [putC] using h2
      · rw [hr] at h2
        rw [show i / 2 * 2 + 1 = i by omega, e2] at c2
        rw [c2]
        simpa [putC] using h2
    · obtain ⟨i, hi, rfl⟩ := List.mem_map.1 hx
      have := List.mem_range.1 hi
      exact (hX i (by omega)).2.2
end Go.Proofs.Ythbcfjlalmhabaa
