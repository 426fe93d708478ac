import Derived.Test.YtflpdbhabknekaaCrc
/-! package crc by its table. -/
namespace Go.Proofs.Ytflpdbhabknekaa
open Go.Eng
set_option linter.unusedSimpArgs false
set_option linter.unusedVariables false

/-! ### by a table -/
def tstep (c : Nat) : Nat := if c % 2 = 1 then (c / 2) ^^^ 3988292384 else c / 2
def tsteps (c : Nat) : Nat → Nat
  | 0 => c
  | k + 1 => tstep (tsteps c k)
def entry (i : Nat) : Nat := tsteps i 8
theorem tstep_lt {c : Nat} (h : c < 4294967296) : tstep c < 4294967296 := by
  unfold tstep
  split
  · exact Nat.xor_lt_two_pow (n := 32) (by omega) (by omega)
  · omega
theorem tsteps_lt {c : Nat} (h : c < 4294967296) : ∀ k, tsteps c k < 4294967296
  | 0 => h
  | k + 1 => tstep_lt (tsteps_lt h k)
theorem entry_lt {i : Nat} (h : i < 256) : entry i < 4294967296 := tsteps_lt (by omega) 8
def enV (i : Nat) : Value := .int .u32 (entry i : Int)
/-- The table's cells, the first i made. -/
def tabTo (i : Nat) : List Value := (List.range i).map enV ++ List.replicate (256 - i) (.int .u32 0)
theorem tabTo_len {i : Nat} (h : i ≤ 256) : (tabTo i).length = 256 := by
  unfold tabTo; rw [List.length_append, List.length_map, List.length_range, List.length_replicate]; omega
theorem tabTo_set {i : Nat} (h : i < 256) : (tabTo i).set i (enV i) = tabTo (i + 1) := by
  unfold tabTo
  rw [List.range_succ, List.map_append, List.set_append_right _ _ (by simp)]
  simp only [List.length_map, List.length_range, Nat.sub_self, List.map_cons, List.map_nil, List.append_assoc, List.singleton_append]
  rw [show 256 - i = (256 - (i + 1)) + 1 by omega, List.replicate_succ]
  rfl
theorem tabTo_get {m : Nat} (h : m < 256) : (tabTo 256)[m]? = some (enV m) := by
  unfold tabTo
  rw [List.getElem?_append_left (by simpa using h), List.getElem?_map, List.getElem?_range h]
  rfl
theorem tab_one : ∀ v ∈ tabTo 256, oneC v = true := by
  intro v hv
  simp only [tabTo, Nat.sub_self, List.replicate_zero, List.append_nil] at hv
  obtain ⟨i, _, rfl⟩ := List.mem_map.1 hv
  rfl
theorem tabTo_zero : tabTo 0 = List.replicate 256 (.int .u32 0) := by
  unfold tabTo; rw [List.range_zero, List.map_nil, List.nil_append]

theorem table_rets (w : World) : Rets Try.prog 12 [] w fun v w' => v = .agg (tabTo 256).toArray ∧ Ext [] w w' := by
  refine rets_den Try.func12 rfl (by kernel_rfl) (by kernel_rfl) [.cell 0 30] (by kernel_rfl) ?_
  simp (disch := omega) only [go_sem, ↓reduceIte, Nat.reduceEqDiff]
  rw [← tabTo_zero]
  have hl0 := tabTo_len (i := 0) (by omega)
  generalize hw0 : w.alloc (.cells (tabTo 0).toArray 30) = w0
  have hs0 : w0.heap.size = w.heap.size + 1 := by subst hw0; simp
  refine LoopK_of (X := Nat) (st := fun i => [(0, .pointer (some ⟨w.heap.size, 0, none⟩)), (1, .pointer (some ⟨w0.heap.size, 0, none⟩)), (5, .int .i64 i)])
    (inv := fun i w' => i ≤ 256 ∧ w' = w0.alloc (.cells (tabTo i).toArray 30)) (m := fun i => 256 - i) 0
    (sub_cons rfl rfl (sub_cons rfl rfl (sub_cons rfl rfl (sub_nil _)))) ⟨by omega, rfl⟩ ?_
  rintro i w1 ⟨hi, rfl⟩
  have hli := tabTo_len hi
  by_cases hi2 : i < 256
  · simp (disch := omega) only [go_sem, ↓reduceIte, Nat.reduceEqDiff]
    refine LoopK_of (X := Nat) (st := fun j => [(0, .pointer (some ⟨w.heap.size, 0, none⟩)), (1, .pointer (some ⟨w0.heap.size, 0, none⟩)), (2, .int .i64 i), (3, .int .u32 (tsteps i j : Int)), (5, .int .i64 i), (10, .int .i64 j)])
      (inv := fun j w' => j ≤ 8 ∧ w' = w0.alloc (.cells (tabTo i).toArray 30)) (m := fun j => 8 - j) 0
      (sub_cons rfl rfl (sub_cons rfl rfl (sub_cons rfl rfl (sub_cons rfl rfl (sub_cons rfl rfl (sub_cons rfl rfl (sub_nil _))))))) ⟨by omega, rfl⟩ ?_
    rintro j w2 ⟨hj, rfl⟩
    have hlt := tsteps_lt (c := i) (by omega) j
    have hst : tsteps i (j + 1) = tstep (tsteps i j) := rfl
    by_cases hj8 : j < 8
    · simp (disch := omega) only [go_sem, ↓reduceIte, Nat.reduceEqDiff]
      refine cdK_split (fun h => ?_) (fun h => ?_)
      · simp (disch := omega) only [go_sem, ↓reduceIte, Nat.reduceEqDiff]
        refine NextK_of (j + 1) (sub_cons rfl rfl (sub_cons rfl rfl (sub_cons rfl rfl (sub_cons rfl (int_eq ?_) (sub_cons rfl rfl (sub_cons rfl (int_eq (by omega)) (sub_nil _))))))) ⟨by omega, rfl⟩ (by omega)
        rw [hst, tstep, if_pos (by omega), ← xor_u32 (by omega) (by omega)]
        congr 1
      · simp (disch := omega) only [go_sem, ↓reduceIte, Nat.reduceEqDiff]
        refine NextK_of (j + 1) (sub_cons rfl rfl (sub_cons rfl rfl (sub_cons rfl rfl (sub_cons rfl (int_eq ?_) (sub_cons rfl rfl (sub_cons rfl (int_eq (by omega)) (sub_nil _))))))) ⟨by omega, rfl⟩ (by omega)
        rw [hst, tstep, if_neg (by omega)]
        omega
    · obtain rfl : j = 8 := by omega
      simp (disch := omega) only [go_sem, ↓reduceIte, Nat.reduceEqDiff]
      refine NextK_of (i + 1) (sub_cons rfl rfl (sub_cons rfl rfl (sub_cons rfl (int_eq (by omega)) (sub_nil _)))) ⟨by omega, ?_⟩ (by omega)
      rw [← tabTo_set hi2, Nat.zero_add]
      rfl
  · obtain rfl : i = 256 := by omega
    have hlo : w.heap.size < w0.heap.size := by omega
    simp (disch := omega) only [go_sem, ↓reduceIte, Nat.reduceEqDiff]
    rw [← hw0, stsK_all rfl (by omega) tab_one]
    simp (disch := first | omega | (simp only [World.size_alloc]; omega)) only [go_sem, ↓reduceIte, Nat.reduceEqDiff]
    exact ⟨trivial, ((Ext.refl [] w).alloc _).alloc _⟩
end Go.Proofs.Ytflpdbhabknekaa
