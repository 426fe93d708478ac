import Derived.Test.YthbcfjlalmhabaaLib
import Derived.Test.YthbcfjlalmhabaaFacts
import Derived.Test.YthbcfjlalmhabaaDraw
/-! Copies and comparisons of bytes. -/
namespace Go.Proofs.Ythbcfjlalmhabaa
open Go.Eng
set_option linter.unusedSimpArgs false
set_option linter.unusedVariables false
set_option maxRecDepth 100000

theorem clone_rets {w : World} {a : Option Addr} {cap : Nat} {l : List UInt8} (h : Row w a (l.map u8v)) (hm : l.length ≤ 70368744177664) :
    Rets Try.prog 64 [.slice a l.length cap] w fun v w' => OwnC w' v l.length 1 (l.map u8v) ∧ Ext [] w w' ∧ ∀ b ∈ fpv v, w.heap.size ≤ b := by
  refine rets_den Try.func64 rfl (by kernel_rfl) (by kernel_rfl) [.tmp 2] (by kernel_rfl) ?_
  simp (disch := omega) only [go_sem, ↓reduceIte, Nat.reduceEqDiff]
  cases a with
  | none =>
    simp (disch := omega) only [go_sem, Option.isNone_none, ↓reduceIte, Nat.reduceEqDiff]
    have hl : l = [] := by
      cases l with
      | nil => rfl
      | cons b l => have := h.1 (by simp); cases this
    subst hl
    exact ⟨OwnC.nil _ _, Ext.refl _ _, fun b hb => by simp [fpv] at hb⟩
  | some x =>
    simp (disch := omega) only [go_sem, Option.isNone_some, ↓reduceIte, Nat.reduceEqDiff]
    refine apd_24_24 (n := 0) (m := l.length) (cs := []) (xs := l.map u8v) ?_ (h.alloc _) (by simp) (u8v_one l) (by omega) ?_
    · exact ⟨rfl, .inr ⟨_, _, 0, rfl, Blk.new _ _ _, by simp, by simp, by simp⟩⟩
    · intro v' w' hv he hf
      simp (disch := omega) only [go_sem, ↓reduceIte, Nat.reduceEqDiff]
      refine ⟨by simpa using hv, ((Ext.refl [] w).alloc _).trans he (fun b hb => ?_), fun b hb => ?_⟩
      · simp [fpv] at hb; exact .inr (by omega)
      · rcases hf b hb with h1 | h1
        · simp [fpv] at h1; omega
        · simp at h1; omega
theorem ne_of_getD {l m : List UInt8} {i : Nat} (h : l.getD i default ≠ m.getD i default) : l ≠ m := fun e => h (by rw [e])
theorem u8_eq {a b : UInt8} : (a.toNat : Int) = (b.toNat : Int) ↔ a = b := by
  constructor
  · intro h; exact UInt8.toNat_inj.1 (by omega)
  · intro h; rw [h]

theorem same_rets {w : World} {a b : Option Addr} {ca cb : Nat} {l m : List UInt8} (h : Row w a (l.map u8v)) (hb : Row w b (m.map u8v)) (hl : l.length < 4611686018427387904) :
    Rets Try.prog 19 [.slice a l.length ca, .slice b m.length cb] w fun v w' => v = .bool (decide (l = m)) ∧ Ext [] w w' := by
  refine rets_den Try.func19 rfl (by kernel_rfl) (by kernel_rfl) [.tmp 4] (by kernel_rfl) ?_
  by_cases hlm : l.length = m.length
  · simp (disch := omega) only [go_sem, ↓reduceIte, Nat.reduceEqDiff]
    refine LoopK_of (X := Nat) (st := fun i => [(0, .slice a l.length ca), (1, .slice b m.length cb), (5, .int .i64 i)]) (inv := fun i w' => i ≤ l.length ∧ l.take i = m.take i ∧ Ext [] w w') (m := fun i => l.length - i) 0
      (sub_cons rfl rfl (sub_cons rfl rfl (sub_cons rfl rfl (sub_nil _)))) ⟨by omega, rfl, Ext.refl _ _⟩ ?_
    rintro i w1 ⟨hi, heq, he⟩
    have h1 := h.ext' he
    have hb1 := hb.ext' he
    by_cases hil : i < l.length
    · have him : i < m.length := by omega
      have hc : ∀ F, cellK w1 ⟨ab a, ao a + i, none⟩ F = F true (u8v (l.getD i default)) := fun F => h1.get hil F
      have hd : ∀ F, cellK w1 ⟨ab b, ao b + i, none⟩ F = F true (u8v (m.getD i default)) := fun F => hb1.get him F
      have hix : ∀ (q : IntKind) (k : Kv) (w' : World), idxK Try.prog 24 (.slice a l.length ca) (.int q (i : Int)) w' k = k true (.pointer (some ⟨ab a, ao a + i, none⟩)) w' := fun q k w' => ixr_24 h1 (by simp) hil w'
      have hiy : ∀ (q : IntKind) (k : Kv) (w' : World), idxK Try.prog 24 (.slice b m.length cb) (.int q (i : Int)) w' k = k true (.pointer (some ⟨ab b, ao b + i, none⟩)) w' := fun q k w' => ixr_24 hb1 (by simp) him w'
      unfold u8v at hc hd
      simp (disch := omega) only [go_sem, ↓reduceIte, Nat.reduceEqDiff]
      refine DrawK_reads (by kernel_rfl) (by kernel_rfl) (by kernel_rfl) ?_
      simp (disch := omega) only [go_sem, hix, hiy, hc, hd, ↓reduceIte, Nat.reduceEqDiff]
      refine cdK_nsplit (fun hne => ?_) (fun hq => ?_)
      · simp (disch := omega) only [go_sem, ↓reduceIte, Nat.reduceEqDiff]
        have : l ≠ m := ne_of_getD (i := i) fun e => hne (by rw [e])
        exact ⟨by simp [this], he.drew⟩
      · simp (disch := omega) only [go_sem, ↓reduceIte, Nat.reduceEqDiff]
        refine NextK_of (i + 1) (sub_cons rfl rfl (sub_cons rfl rfl (sub_cons rfl (int_eq (by omega)) (sub_nil _)))) ⟨by omega, ?_, he.drew⟩ (by omega)
        rw [take_succ_getD l i hil, take_succ_getD m i him, heq, u8_eq.1 hq]
    · simp (disch := omega) only [go_sem, ↓reduceIte, Nat.reduceEqDiff]
      have : l = m := by
        rw [List.take_of_length_le (by omega), List.take_of_length_le (by omega)] at heq
        exact heq
      exact ⟨by simp [this], he⟩
  · simp (disch := omega) only [go_sem, ↓reduceIte, Nat.reduceEqDiff]
    have : l ≠ m := fun e => hlm (by rw [e])
    exact ⟨by simp [this], Ext.refl _ _⟩

theorem equal_rets {w : World} {a b : Option Addr} {ca cb : Nat} {l m : List UInt8} (h : Row w a (l.map u8v)) (hb : Row w b (m.map u8v)) (hl : l.length < 4611686018427387904) :
    Rets Try.prog 75 [.slice a l.length ca, .slice b m.length cb] w fun v w' => v = .bool (decide (l = m)) ∧ Ext [] w w' := by
  refine rets_den Try.func75 rfl (by kernel_rfl) (by kernel_rfl) [.tmp 4] (by kernel_rfl) ?_
  by_cases hlm : l.length = m.length
  · simp (disch := omega) only [go_sem, ↓reduceIte, Nat.reduceEqDiff]
    refine LoopK_of (X := Nat) (st := fun i => [(0, .slice a l.length ca), (1, .slice b m.length cb), (12, .int .i64 l.length), (13, .int .i64 i)]) (inv := fun i w' => i ≤ l.length ∧ l.take i = m.take i ∧ Ext [] w w') (m := fun i => l.length - i) 0
      (sub_cons rfl rfl (sub_cons rfl rfl (sub_cons rfl rfl (sub_cons rfl rfl (sub_nil _))))) ⟨by omega, rfl, Ext.refl _ _⟩ ?_
    rintro i w1 ⟨hi, heq, he⟩
    have h1 := h.ext' he
    have hb1 := hb.ext' he
    by_cases hil : i < l.length
    · have him : i < m.length := by omega
      have hc : ∀ F, cellK w1 ⟨ab a, ao a + i, none⟩ F = F true (u8v (l.getD i default)) := fun F => h1.get hil F
      have hd : ∀ F, cellK w1 ⟨ab b, ao b + i, none⟩ F = F true (u8v (m.getD i default)) := fun F => hb1.get him F
      have hix : ∀ (q : IntKind) (k : Kv) (w' : World), idxK Try.prog 24 (.slice a l.length ca) (.int q (i : Int)) w' k = k true (.pointer (some ⟨ab a, ao a + i, none⟩)) w' := fun q k w' => ixr_24 h1 (by simp) hil w'
      have hiy : ∀ (q : IntKind) (k : Kv) (w' : World), idxK Try.prog 24 (.slice b m.length cb) (.int q (i : Int)) w' k = k true (.pointer (some ⟨ab b, ao b + i, none⟩)) w' := fun q k w' => ixr_24 hb1 (by simp) him w'
      unfold u8v at hc hd
      simp (disch := omega) only [go_sem, ↓reduceIte, Nat.reduceEqDiff]
      refine DrawK_reads (by kernel_rfl) (by kernel_rfl) (by kernel_rfl) ?_
      simp (disch := omega) only [go_sem, hix, hiy, hc, hd, ↓reduceIte, Nat.reduceEqDiff]
      refine cdK_nsplit (fun hne => ?_) (fun hq => ?_)
      · simp (disch := omega) only [go_sem, ↓reduceIte, Nat.reduceEqDiff]
        have : l ≠ m := ne_of_getD (i := i) fun e => hne (by rw [e])
        exact ⟨by simp [this], he.drew⟩
      · simp (disch := omega) only [go_sem, ↓reduceIte, Nat.reduceEqDiff]
        refine NextK_of (i + 1) (sub_cons rfl rfl (sub_cons rfl rfl (sub_cons rfl rfl (sub_cons rfl (int_eq (by omega)) (sub_nil _))))) ⟨by omega, ?_, he.drew⟩ (by omega)
        rw [take_succ_getD l i hil, take_succ_getD m i him, heq, u8_eq.1 hq]
    · simp (disch := omega) only [go_sem, ↓reduceIte, Nat.reduceEqDiff]
      have : l = m := by
        rw [List.take_of_length_le (by omega), List.take_of_length_le (by omega)] at heq
        exact heq
      exact ⟨by simp [this], he⟩
  · simp (disch := omega) only [go_sem, ↓reduceIte, Nat.reduceEqDiff]
    have : l ≠ m := fun e => hlm (by rw [e])
    exact ⟨by simp [this], Ext.refl _ _⟩

end Go.Proofs.Ythbcfjlalmhabaa
