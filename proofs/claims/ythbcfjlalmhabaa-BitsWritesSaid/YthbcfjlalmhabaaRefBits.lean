import Derived.Test.YthbcfjlalmhabaaBitsC
/-! The document's answers for bits: what they come to. -/
namespace Go.Proofs.Ythbcfjlalmhabaa
open Go.Eng
set_option linter.unusedSimpArgs false
set_option linter.unusedVariables false

def bv (b : Bool) : Value := .bool b
theorem bv_one (l : List Bool) : ∀ v ∈ l.map bv, oneC v = true := by
  intro v hv; obtain ⟨b, _, rfl⟩ := List.mem_map.1 hv; rfl
theorem own_one (w : World) (x : Value) (T : TypeId) : OwnC (w.alloc (.cells [x].toArray T)) (.slice (some ⟨w.heap.size, 0, none⟩) 1 1) 1 1 [x] :=
  ⟨rfl, .inr ⟨_, _, 1, rfl, Blk.new _ _ _, by simp, by simp, by simp⟩⟩
theorem own_zero (w : World) (T : TypeId) : OwnC (w.alloc (.cells ([] : List Value).toArray T)) (.slice (some ⟨w.heap.size, 0, none⟩) 0 0) 0 1 [] :=
  ⟨rfl, .inr ⟨_, _, 0, rfl, Blk.new _ _ _, by simp, by simp, by simp⟩⟩
theorem numBits_succ (n i : Nat) : numBits n (i + 1) = decide (n / 2 ^ i % 2 = 1) :: numBits n i := by
  unfold numBits
  apply List.ext_getElem
  · simp
  · intro j h1 h2
    simp at h1
    cases j with
    | zero => simp
    | succ j => simp [show i - (j + 1) = i - 1 - j by omega]

set_option maxRecDepth 100000 in
theorem refPut_rets {w : World} {a : Option Addr} {cap n k : Nat} {L : List Bool} {m : Int} (h : Row w a (L.map bv)) (hk : L.length = k) (hl : k < 1000000000) (hn : n < 18446744073709551616) :
    Rets Try.prog 17 [.slice a k cap, .int .u64 (n : Int), .int .i64 m] w fun u w' =>
      ((0 ≤ m ∧ m ≤ 64 ∧ n < 2 ^ m.toNat) ∧ ∃ v', u = .tuple #[v', .int .i64 0] ∧ OwnC w' v' (k + m.toNat) 1 ((L ++ numBits n m.toNat).map bv) ∧ Ext [] w w' ∧ ∀ q ∈ fpv v', w.heap.size ≤ q) ∨
      (¬ (0 ≤ m ∧ m ≤ 64 ∧ n < 2 ^ m.toNat) ∧ u = .tuple #[.slice a k cap, .int .i64 2] ∧ Ext [] w w') := by
  subst hk
  refine rets_den Try.func17 rfl (by kernel_rfl) (by kernel_rfl) [.tmp 6, .tmp 7] (by kernel_rfl) ?_
  by_cases h0 : m < 0
  · simp (disch := omega) only [go_sem, ↓reduceIte, Nat.reduceEqDiff]
    exact .inr ⟨by omega, trivial, Ext.refl _ _⟩
  by_cases h1 : 64 < m
  · simp (disch := omega) only [go_sem, ↓reduceIte, Nat.reduceEqDiff]
    exact .inr ⟨by omega, trivial, Ext.refl _ _⟩
  obtain ⟨M, rfl⟩ : ∃ M : Nat, m = (M : Int) := ⟨m.toNat, by omega⟩
  have hM : M ≤ 64 := by omega
  simp (disch := omega) only [go_sem, ↓reduceIte, Nat.reduceEqDiff]
  refine LoopK_of (X := Nat × Value) (st := fun x => [(0, .slice a L.length cap), (1, .int .u64 ((n / 2 ^ x.1 : Nat) : Int)), (2, .int .i64 (M : Int)), (8, x.2), (9, .int .i64 x.1)])
    (inv := fun x w' => x.1 ≤ M ∧ OwnC w' x.2 x.1 1 ((numBits n x.1).map bv) ∧ Ext [] w w' ∧ ∀ q ∈ fpv x.2, w.heap.size ≤ q) (m := fun x => M - x.1) (0, .slice none 0 0)
    (sub_cons rfl rfl (sub_cons rfl (by simp) (sub_cons rfl rfl (sub_cons rfl rfl (sub_cons rfl rfl (sub_nil _)))))) ⟨Nat.zero_le _, OwnC.nil _ _, Ext.refl _ _, fun q hq => by simp [fpv] at hq⟩ ?_
  rintro ⟨i, v1⟩ w1 ⟨hi, ho, he, hF⟩
  simp only at hi ho he hF ⊢
  have hlt : n / 2 ^ i < 18446744073709551616 := Nat.lt_of_le_of_lt (Nat.div_le_self _ _) hn
  have hdiv : n / 2 ^ (i + 1) = n / 2 ^ i / 2 := by rw [Nat.pow_succ, Nat.div_div_eq_div_mul]
  have hsucc := numBits_succ n i
  have hzero : n / 2 ^ M = 0 ↔ n < 2 ^ M := by
    have := Nat.two_pow_pos M
    rw [Nat.div_eq_zero_iff]; omega
  obtain ⟨a1, c1, rfl, hc1, R1, -⟩ := ho.row
  by_cases hiM : i < M
  · generalize n / 2 ^ i = Q at *
    have hbit : decide ((Q : Int) % 2 = 1) = decide (Q % 2 = 1) := by congr 1; exact propext (by omega)
    simp (disch := omega) only [go_sem, hbit, ↓reduceIte, Nat.reduceEqDiff]
    refine apd_27_27 (n := 1) (m := i) (cs := [.bool (decide (Q % 2 = 1))]) (xs := (numBits n i).map bv) (own_one _ _ _) (R1.alloc _) (by simp [numBits]) (bv_one _) (by omega) ?_
    intro v' w' hv he' hf'
    have E3 : Ext [] w w' := (he.alloc _).trans he' (fun q hq => .inr (by have := he.size; simp [fpv] at hq; omega))
    simp (disch := omega) only [go_sem, ↓reduceIte, Nat.reduceEqDiff]
    refine NextK_of (i + 1, v') (sub_cons rfl rfl (sub_cons rfl (int_eq ?_) (sub_cons rfl rfl (sub_cons rfl rfl (sub_cons rfl (int_eq (by omega)) (sub_nil _)))))) ⟨by simp only; omega, ?_, E3, fun q hq => ?_⟩ (by simp only; omega)
    · simp only [hdiv]
      omega
    · simp only
      rw [hsucc, Nat.add_comm]
      exact hv
    · have := he.size
      rcases hf' q hq with h1 | h1
      · simp [fpv] at h1; omega
      · simp only [World.size_alloc] at h1; omega
  · obtain rfl : i = M := by omega
    generalize n / 2 ^ i = Q at *
    by_cases hq : 0 < Q
    · simp (disch := omega) only [go_sem, ↓reduceIte, Nat.reduceEqDiff]
      exact .inr ⟨fun h => by have := hzero.2 (by simpa using h.2.2); omega, trivial, he⟩
    · simp (disch := omega) only [go_sem, ↓reduceIte, Nat.reduceEqDiff]
      have hs := he.size
      refine apd_27_27 (n := 0) (m := L.length) (cs := []) (xs := L.map bv) (own_zero _ _) ((h.ext' he).alloc _) (by simp) (bv_one _) (by omega) ?_
      intro v2 w2 hv2 he2 hf2
      have E2 : Ext [] w1 w2 := ((Ext.refl [] w1).alloc _).trans he2 (fun q hq => .inr (by simp [fpv] at hq; omega))
      have F2 : ∀ q ∈ fpv v2, w1.heap.size ≤ q := fun q hq => by
        rcases hf2 q hq with h1 | h1
        · simp [fpv] at h1; omega
        · simp only [World.size_alloc] at h1; omega
      simp (disch := omega) only [go_sem, ↓reduceIte, Nat.reduceEqDiff]
      refine apd_27_27 (n := L.length) (m := i) (cs := L.map bv) (xs := (numBits n i).map bv) (by simpa using hv2) (R1.ext' E2) (by simp [numBits]) (bv_one _) (by omega) ?_
      intro v3 w3 hv3 he3 hf3
      have E3 : Ext [] w1 w3 := E2.trans he3 (fun q hq => .inr (F2 q hq))
      simp (disch := omega) only [go_sem, ↓reduceIte, Nat.reduceEqDiff]
      refine .inl ⟨⟨by omega, by omega, by simpa using hzero.1 (by omega)⟩, v3, rfl, by simpa using hv3, he.trans' E3, fun q hq => ?_⟩
      rcases hf3 q hq with h1 | h1
      · have := F2 q h1; omega
      · have := E2.size; omega
end Go.Proofs.Ythbcfjlalmhabaa
