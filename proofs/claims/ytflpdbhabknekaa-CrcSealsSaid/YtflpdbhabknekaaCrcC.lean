import Derived.Test.YtflpdbhabknekaaCrcB
/-! Comparisons of bytes; frames. -/
namespace Go.Proofs.Ytflpdbhabknekaa
open Go.Eng
set_option linter.unusedSimpArgs false
set_option linter.unusedVariables false

theorem ne_of_getD {l m : List UInt8} {i : Nat} (h : l.getD i default ≠ m.getD i default) : l ≠ m := fun e => h (by rw [e])
theorem u8_eq {a b : UInt8} : (a.toNat : Int) = (b.toNat : Int) ↔ a = b := by
  constructor
  · intro h; exact UInt8.toNat_inj.1 (by omega)
  · intro h; rw [h]

theorem same_rets {w : World} {a b : Option Addr} {ca cb : Nat} {l m : List UInt8} (h : Row w a (l.map u8v)) (hb : Row w b (m.map u8v)) (hl : l.length < 4611686018427387904) :
    Rets Try.prog 15 [.slice a l.length ca, .slice b m.length cb] w fun v w' => v = .bool (decide (l = m)) ∧ Ext [] w w' := by
  refine rets_den Try.func15 rfl (by kernel_rfl) (by kernel_rfl) [.tmp 4] (by kernel_rfl) ?_
  by_cases hlm : l.length = m.length
  · simp (disch := omega) only [go_sem, ↓reduceIte, Nat.reduceEqDiff]
    refine LoopK_of (X := Nat) (st := fun i => [(0, .slice a l.length ca), (1, .slice b m.length cb), (5, .int .i64 i)]) (inv := fun i w' => i ≤ l.length ∧ l.take i = m.take i ∧ Ext [] w w') (m := fun i => l.length - i) 0
      (sub_cons rfl rfl (sub_cons rfl rfl (sub_cons rfl rfl (sub_nil _)))) ⟨by omega, rfl, Ext.refl _ _⟩ ?_
    rintro i w1 ⟨hi, heq, he⟩
    have h1 := h.ext' he
    have hb1 := hb.ext' he
    by_cases hil : i < l.length
    · have him : i < m.length := by omega
      have hc : ∀ F, cellK w1 ⟨ab a, ao a + i, none⟩ F = F true (u8v (l.getD i default)) := fun F => h1.get hil F
      have hd : ∀ F, cellK w1 ⟨ab b, ao b + i, none⟩ F = F true (u8v (m.getD i default)) := fun F => hb1.get him F
      have hix : ∀ (q : IntKind) (k : Kv) (w' : World), idxK Try.prog 22 (.slice a l.length ca) (.int q (i : Int)) w' k = k true (.pointer (some ⟨ab a, ao a + i, none⟩)) w' := fun q k w' => ixr_22 h1 (by simp) hil w'
      have hiy : ∀ (q : IntKind) (k : Kv) (w' : World), idxK Try.prog 22 (.slice b m.length cb) (.int q (i : Int)) w' k = k true (.pointer (some ⟨ab b, ao b + i, none⟩)) w' := fun q k w' => ixr_22 hb1 (by simp) him w'
      unfold u8v at hc hd
      simp (disch := omega) only [go_sem, ↓reduceIte, Nat.reduceEqDiff]
      refine DrawK_reads (by kernel_rfl) (by kernel_rfl) (by kernel_rfl) ?_
      simp (disch := omega) only [go_sem, hix, hiy, hc, hd, ↓reduceIte, Nat.reduceEqDiff]
      refine cdK_nsplit (fun hne => ?_) (fun hq => ?_)
      · simp (disch := omega) only [go_sem, ↓reduceIte, Nat.reduceEqDiff]
        have : l ≠ m := ne_of_getD (i := i) fun e => hne (by rw [e])
        exact ⟨by simp [this], he.drew⟩
      · simp (disch := omega) only [go_sem, ↓reduceIte, Nat.reduceEqDiff]
        refine NextK_of (i + 1) (sub_cons rfl rfl (sub_cons rfl rfl (sub_cons rfl (int_eq (by omega)) (sub_nil _)))) ⟨by omega, ?_, he.drew⟩ (by omega)
        rw [take_succ_getD l i hil, take_succ_getD m i him, heq, u8_eq.1 hq]
    · simp (disch := omega) only [go_sem, ↓reduceIte, Nat.reduceEqDiff]
      have : l = m := by
        rw [List.take_of_length_le (by omega), List.take_of_length_le (by omega)] at heq
        exact heq
      exact ⟨by simp [this], he⟩
  · simp (disch := omega) only [go_sem, ↓reduceIte, Nat.reduceEqDiff]
    have : l ≠ m := fun e => hlm (by rw [e])
    exact ⟨by simp [this], Ext.refl _ _⟩

theorem equal_rets {w : World} {a b : Option Addr} {ca cb : Nat} {l m : List UInt8} (h : Row w a (l.map u8v)) (hb : Row w b (m.map u8v)) (hl : l.length < 4611686018427387904) :
    Rets Try.prog 18 [.slice a l.length ca, .slice b m.length cb] w fun v w' => v = .bool (decide (l = m)) ∧ Ext [] w w' := by
  refine rets_den Try.func18 rfl (by kernel_rfl) (by kernel_rfl) [.tmp 4] (by kernel_rfl) ?_
  by_cases hlm : l.length = m.length
  · simp (disch := omega) only [go_sem, ↓reduceIte, Nat.reduceEqDiff]
    refine LoopK_of (X := Nat) (st := fun i => [(0, .slice a l.length ca), (1, .slice b m.length cb), (12, .int .i64 l.length), (13, .int .i64 i)]) (inv := fun i w' => i ≤ l.length ∧ l.take i = m.take i ∧ Ext [] w w') (m := fun i => l.length - i) 0
      (sub_cons rfl rfl (sub_cons rfl rfl (sub_cons rfl rfl (sub_cons rfl rfl (sub_nil _))))) ⟨by omega, rfl, Ext.refl _ _⟩ ?_
    rintro i w1 ⟨hi, heq, he⟩
    have h1 := h.ext' he
    have hb1 := hb.ext' he
    by_cases hil : i < l.length
    · have him : i < m.length := by omega
      have hc : ∀ F, cellK w1 ⟨ab a, ao a + i, none⟩ F = F true (u8v (l.getD i default)) := fun F => h1.get hil F
      have hd : ∀ F, cellK w1 ⟨ab b, ao b + i, none⟩ F = F true (u8v (m.getD i default)) := fun F => hb1.get him F
      have hix : ∀ (q : IntKind) (k : Kv) (w' : World), idxK Try.prog 22 (.slice a l.length ca) (.int q (i : Int)) w' k = k true (.pointer (some ⟨ab a, ao a + i, none⟩)) w' := fun q k w' => ixr_22 h1 (by simp) hil w'
      have hiy : ∀ (q : IntKind) (k : Kv) (w' : World), idxK Try.prog 22 (.slice b m.length cb) (.int q (i : Int)) w' k = k true (.pointer (some ⟨ab b, ao b + i, none⟩)) w' := fun q k w' => ixr_22 hb1 (by simp) him w'
      unfold u8v at hc hd
      simp (disch := omega) only [go_sem, ↓reduceIte, Nat.reduceEqDiff]
      refine DrawK_reads (by kernel_rfl) (by kernel_rfl) (by kernel_rfl) ?_
      simp (disch := omega) only [go_sem, hix, hiy, hc, hd, ↓reduceIte, Nat.reduceEqDiff]
      refine cdK_nsplit (fun hne => ?_) (fun hq => ?_)
      · simp (disch := omega) only [go_sem, ↓reduceIte, Nat.reduceEqDiff]
        have : l ≠ m := ne_of_getD (i := i) fun e => hne (by rw [e])
        exact ⟨by simp [this], he.drew⟩
      · simp (disch := omega) only [go_sem, ↓reduceIte, Nat.reduceEqDiff]
        refine NextK_of (i + 1) (sub_cons rfl rfl (sub_cons rfl rfl (sub_cons rfl rfl (sub_cons rfl (int_eq (by omega)) (sub_nil _))))) ⟨by omega, ?_, he.drew⟩ (by omega)
        rw [take_succ_getD l i hil, take_succ_getD m i him, heq, u8_eq.1 hq]
    · simp (disch := omega) only [go_sem, ↓reduceIte, Nat.reduceEqDiff]
      have : l = m := by
        rw [List.take_of_length_le (by omega), List.take_of_length_le (by omega)] at heq
        exact heq
      exact ⟨by simp [this], he⟩
  · simp (disch := omega) only [go_sem, ↓reduceIte, Nat.reduceEqDiff]
    have : l ≠ m := fun e => hlm (by rw [e])
    exact ⟨by simp [this], Ext.refl _ _⟩

/-- The four bytes of a sum, the greatest first. -/
def be4 (s : Nat) : List UInt8 := [UInt8.ofNat (s / 16777216), UInt8.ofNat (s / 65536), UInt8.ofNat (s / 256), UInt8.ofNat s]
theorem u8w (s : Nat) : Value.int .u8 (IntKind.u8.wrap (s : Int)) = u8v (UInt8.ofNat s) := by
  unfold u8v
  rw [IntKind.wrap_u8]
  simp

def refSum (l : List UInt8) : Nat := 4294967295 - crcR l
theorem refSeal_rets {w : World} {a : Option Addr} {cap : Nat} {l : List UInt8} (h : Row w a (l.map u8v)) (hm : l.length < 4294967296) :
    Rets Try.prog 16 [.slice a l.length cap] w fun v w' => OwnC w' v (l.length + 4) 1 ((l ++ be4 (refSum l)).map u8v) ∧ Ext [] w w' ∧ ∀ b ∈ fpv v, w.heap.size ≤ b := by
  refine rets_den Try.func16 rfl (by kernel_rfl) (by kernel_rfl) [.tmp 2] (by kernel_rfl) ?_
  simp (disch := omega) only [go_sem, ↓reduceIte, Nat.reduceEqDiff]
  refine cllK_of Try.call10 (refSum_rets h hm) ?_
  rintro v w0 ⟨rfl, rfl⟩
  simp (disch := omega) only [go_sem, ↓reduceIte, Nat.reduceEqDiff]
  have hlt := crcR_lt l
  have hS : 4294967295 - crcR l < 4294967296 := by omega
  have hR : refSum l = 4294967295 - crcR l := rfl
  generalize 4294967295 - crcR l = S at *
  refine apd_22_22 (n := 0) (m := l.length) (cs := []) (xs := l.map u8v) ?_ (h.alloc _) (by simp) (u8v_one l) (by omega) ?_
  · exact ⟨rfl, .inr ⟨_, _, 0, rfl, Blk.new _ _ _, by simp, by simp, by simp⟩⟩
  · intro v' w' hv he hf
    have hs := he.size
    simp only [World.size_alloc] at hs
    simp (disch := omega) only [go_sem, ↓reduceIte, Nat.reduceEqDiff]
    have e4 : ([Value.int .u8 ((S : Int) / 16777216), .int .u8 (IntKind.u8.wrap ((S : Int) / 65536)), .int .u8 (IntKind.u8.wrap ((S : Int) / 256)), .int .u8 (IntKind.u8.wrap (S : Int))] : List Value) = (be4 S).map u8v := by
      have e1 : Value.int .u8 ((S : Int) / 16777216) = Value.int .u8 (IntKind.u8.wrap ((S : Int) / 16777216)) := by
        rw [IntKind.wrap_u8, Int.emod_eq_of_lt (by omega) (by omega)]
      rw [e1]
      simp only [be4, List.map_cons, List.map_nil, ← u8w]
      rfl
    rw [e4]
    refine apd_22_22 (n := l.length) (m := 4) (cs := l.map u8v) (xs := (be4 S).map u8v) (by simpa using hv.ext' ((Ext.refl [] w').alloc _)) (Row.of_blk (Blk.new _ _ _) (fun i hi => by rw [Nat.zero_add]; exact List.getElem?_eq_getElem hi)) (by simp [be4]) (u8v_one _) (by omega) ?_
    intro v2 w2 hv2 he2 hf2
    simp (disch := omega) only [go_sem, ↓reduceIte, Nat.reduceEqDiff]
    rw [hR, List.map_append]
    have hfr : ∀ b ∈ fpv v', w0.heap.size ≤ b := fun b hb => by
      rcases hf b hb with h1 | h1
      · simp [fpv] at h1; omega
      · simp at h1; omega
    have E1 : Ext [] w0 w' := ((Ext.refl [] w0).alloc _).trans he (fun b hb => .inr (by simp [fpv] at hb; omega))
    have E2 : Ext [] w0 w2 := (E1.alloc _).trans he2 (fun b hb => .inr (hfr b hb))
    refine ⟨by simpa [be4] using hv2, E2, fun b hb => ?_⟩
    rcases hf2 b hb with h1 | h1
    · exact hfr b h1
    · have := E1.size
      simp only [World.size_alloc] at h1
      omega
end Go.Proofs.Ytflpdbhabknekaa
