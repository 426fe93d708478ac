import Derived.Test.YthbcfjlalmhabaaBitsB
import Derived.Test.YthbcfjlalmhabaaCopy
/-! Package bits: the bytes of a writer; the start of a reader. -/
namespace Go.Proofs.Ythbcfjlalmhabaa
open Go.Eng
set_option linter.unusedSimpArgs false
set_option linter.unusedVariables false

theorem packed_len (L : List Bool) : (packed L).length = (L.length + 7) / 8 := packedTo_len _ _
/-- Cells that a copy fills whole. -/
theorem copy_all {w : World} {k : Kv} {b n c cap : Nat} {C xs : List Value} {ax : Option Addr} {ty : TypeId} {cst : Array Bool} (hB : Blk w b C) (hC : C.length = n) (hx : Row w ax xs) (hxl : xs.length = n) (ho : ∀ v ∈ xs, oneC v = true) :
    bltK Try.prog .copy #[24, 24] ty cst [.slice (some ⟨b, 0, none⟩) n c, .slice ax n cap] w k = k true (.int .i64 n) (setB w b xs) := by
  rw [bltK_copy (e := 5) (z := 1) (by kernel_rfl) (by kernel_rfl) hB hx (by omega) ho (Nat.le_refl _) (by omega), setL_all C xs (by omega)]
  by_cases h : xs = []
  · rw [if_pos h]
    have : C = xs := by subst h; exact List.length_eq_zero_iff.1 (by simp at hxl; omega)
    rw [← this]
    congr 1
    exact (setB_same hB).symm
  · rw [if_neg h]

set_option maxRecDepth 100000 in
theorem bytes_rets {w : World} {b : Nat} {v : Value} {L : List Bool} (h : Wr w b v L) (hl : L.length < 1000000000) :
    Rets Try.prog 20 [.pointer (some ⟨b, 0, none⟩)] w fun u w' => OwnC w' u ((L.length + 7) / 8) 1 ((packed L).map u8v) ∧ Ext [] w w' ∧ ∀ q ∈ fpv u, w.heap.size ≤ q := by
  refine rets_den Try.func20 rfl (by kernel_rfl) (by kernel_rfl) [.tmp 2] (by kernel_rfl) ?_
  obtain ⟨hB, hO, hne⟩ := h
  obtain ⟨a, c, rfl, hc, R, -⟩ := hO.row
  have c0 : ∀ F, cellK w ⟨b, 0, none⟩ F = F true (.slice a ((L.length + 7) / 8) c) := fun F => cellK_of (hB.cell rfl)
  have c1 : ∀ (o : Obj) F, cellK (w.alloc o) ⟨b, 0, none⟩ F = F true (.slice a ((L.length + 7) / 8) c) := fun o F => cellK_of ((hB.alloc o).cell rfl)
  have hpl := packed_len L
  simp (disch := omega) only [go_sem, c0, c1, ↓reduceIte, Nat.reduceEqDiff]
  rw [copy_all (Blk.new _ _ _) (by simp) (R.alloc _) (by simp; exact hpl) (u8v_one _)]
  simp (disch := omega) only [go_sem, ↓reduceIte, Nat.reduceEqDiff]
  rw [setB_alloc_new]
  refine ⟨⟨by simp; exact hpl, .inr ⟨_, _, _, rfl, Blk.new _ _ _, by simp; omega, Nat.le_refl _, by rw [List.take_of_length_le]; simp; omega⟩⟩, (Ext.refl [] w).alloc _, fun q hq => by simp [fpv] at hq; omega⟩
end Go.Proofs.Ythbcfjlalmhabaa
