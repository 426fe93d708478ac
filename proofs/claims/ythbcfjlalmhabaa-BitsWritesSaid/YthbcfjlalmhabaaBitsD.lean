import Derived.Test.YthbcfjlalmhabaaRefBytes
import Derived.Test.YthbcfjlalmhabaaByt
/-! The statements of bits: awake. -/
namespace Go.Proofs.Ythbcfjlalmhabaa
open Go.Eng
set_option linter.unusedSimpArgs false
set_option linter.unusedVariables false
set_option maxRecDepth 100000

theorem Wr.start (w : World) (T : TypeId) : Wr (w.alloc (.cells ([.slice none 0 0, .int .i64 0] : List Value).toArray T)) w.heap.size (.slice none 0 0) [] :=
  ⟨Blk.new _ _ _, OwnC.nil _ _, by simp [fpv]⟩
theorem bits4 : packed ([] ++ numBits 5 3 ++ [true]) = [176] := by decide +kernel

theorem awake1_rets (w : World) : Rets Try.prog 15 [] w fun v w' => v = .bool true ∧ Ext [] w w' := by
  refine rets_den Try.func15 rfl (by kernel_rfl) (by kernel_rfl) [.tmp 0] (by kernel_rfl) ?_
  simp (disch := omega) only [go_sem, ↓reduceIte, Nat.reduceEqDiff]
  refine cllK_of Try.call16 (num_rets (n := 5) (m := 3) (Wr.start w _) (by simp) (by omega)) ?_
  rintro v w1 hor
  obtain ⟨rfl, v1, hw1, he1, hF1⟩ : v = .int .i64 0 ∧ ∃ v', Wr w1 w.heap.size v' ([] ++ numBits 5 3) ∧ Ext (w.heap.size :: fpv (.slice none 0 0)) (w.alloc (.cells ([.slice none 0 0, .int .i64 0] : List Value).toArray 26)) w1 ∧ ∀ q ∈ fpv v', q ∈ fpv (.slice none 0 0) ∨ (w.alloc (.cells ([.slice none 0 0, .int .i64 0] : List Value).toArray 26)).heap.size ≤ q := by
    rcases hor with ⟨-, h1, h2⟩ | ⟨h, -⟩
    · exact ⟨h1, h2⟩
    · exact absurd ⟨by omega, by omega, by decide⟩ h
  have E1 : Ext [] w w1 := ((Ext.refl [] w).alloc _).trans he1 (fun q hq => .inr (by simp [fpv] at hq; omega))
  have F1 : ∀ q ∈ fpv v1, w.heap.size ≤ q := fun q hq => by
    rcases hF1 q hq with h | h
    · simp [fpv] at h
    · simp only [World.size_alloc] at h; omega
  simp (disch := omega) only [go_sem, ↓reduceIte, Nat.reduceEqDiff]
  refine cllK_of Try.call44 (bit_rets hw1 (by simp [numBits])) ?_
  rintro v w2 ⟨v2, hw2, he2, hF2⟩
  have E2 : Ext [] w w2 := E1.trans he2 (fun q hq => by
    rcases List.mem_cons.1 hq with h | h
    · exact .inr (by omega)
    · exact .inr (F1 q h))
  simp (disch := omega) only [go_sem, ↓reduceIte, Nat.reduceEqDiff]
  refine cllK_of Try.call20 (bytes_rets hw2 (by simp [numBits])) ?_
  rintro v w3 ⟨hv3, he3, hF3⟩
  rw [bits4] at hv3
  obtain ⟨a3, c3, rfl, hc3, R3, -⟩ := hv3.row
  have hn : ((([] ++ numBits 5 3 ++ [true]) : List Bool).length + 7) / 8 = 1 := by simp [numBits]
  have hl4 : (([] ++ numBits 5 3 ++ [true]) : List Bool).length = 4 := by simp [numBits]
  rw [hn] at *
  have hB3 := hw2.blk.ext he3 (by simp)
  simp (disch := omega) only [go_sem, decide_true, ↓reduceIte, Nat.reduceEqDiff]
  refine cllK_of Try.call18 (len_rets hB3) ?_
  rintro v w4 ⟨rfl, hw4⟩
  subst w4
  rw [hl4]
  have hix : ∀ (q : IntKind) (F : Kv) (w' : World), idxK Try.prog 24 (.slice a3 1 c3) (.int q 0) w' F = F true (.pointer (some ⟨ab a3, ao a3 + 0, none⟩)) w' := fun q F w' => ixr_24 (m := 0) R3 (by simp) (by omega) w'
  have hc : ∀ F, cellK w3 ⟨ab a3, ao a3 + 0, none⟩ F = F true (.int .u8 176) := fun F => R3.get (m := 0) (by simp) F
  simp (disch := omega) only [go_sem, hix, hc, decide_true, ↓reduceIte, Nat.reduceEqDiff]
  exact ⟨trivial, E2.trans' he3⟩
end Go.Proofs.Ythbcfjlalmhabaa
