import Derived.Test.YthbcfjlalmhabaaRefBits
/-! The document's bytes of bits. -/
namespace Go.Proofs.Ythbcfjlalmhabaa
open Go.Eng
set_option linter.unusedSimpArgs false
set_option linter.unusedVariables false

def bTo (L : List Bool) (j : Nat) : Nat → Nat
  | 0 => 0
  | k + 1 => 2 * bTo L j k + bAt L (8 * j + k)
theorem bTo_eight (L : List Bool) (j : Nat) : bTo L j 8 = byteV L j := by
  simp only [bTo, byteV, Nat.add_zero]
  omega
theorem bTo_le (L : List Bool) (j : Nat) : ∀ k, bTo L j k < 2 ^ k
  | 0 => by simp [bTo]
  | k + 1 => by have := bTo_le L j k; have := bAt_le L (8 * j + k); rw [Nat.pow_succ]; unfold bTo; omega
theorem packedTo_succ (L : List Bool) (j : Nat) : packedTo L (j + 1) = packedTo L j ++ [UInt8.ofNat (byteV L j)] := by
  unfold packedTo; rw [List.range_succ, List.map_append]; rfl
theorem getD_eq (L : List Bool) (i : Nat) : L.getD i default = L.getD i false := rfl

set_option maxRecDepth 100000 in
theorem refBytes_rets {w : World} {a : Option Addr} {cap n : Nat} {L : List Bool} (h : Row w a (L.map bv)) (hn : L.length = n) (hl : n < 1000000000) :
    Rets Try.prog 21 [.slice a n cap] w fun u w' => OwnC w' u ((n + 7) / 8) 1 ((packed L).map u8v) ∧ Ext [] w w' ∧ ∀ q ∈ fpv u, w.heap.size ≤ q := by
  subst hn
  refine rets_den Try.func21 rfl (by kernel_rfl) (by kernel_rfl) [.tmp 2] (by kernel_rfl) ?_
  simp (disch := omega) only [go_sem, ↓reduceIte, Nat.reduceEqDiff]
  refine LoopK_of (X := Nat × Value) (st := fun x => [(0, .slice a L.length cap), (3, x.2), (4, .int .i64 ((8 * x.1 : Nat) : Int))])
    (inv := fun x w' => x.1 ≤ (L.length + 7) / 8 ∧ OwnC w' x.2 x.1 1 ((packedTo L x.1).map u8v) ∧ Ext [] w w' ∧ ∀ q ∈ fpv x.2, w.heap.size ≤ q) (m := fun x => (L.length + 7) / 8 - x.1) (0, .slice none 0 0)
    (sub_cons rfl rfl (sub_cons rfl rfl (sub_cons rfl rfl (sub_nil _)))) ⟨Nat.zero_le _, OwnC.nil _ _, Ext.refl _ _, fun q hq => by simp [fpv] at hq⟩ ?_
  rintro ⟨j, v1⟩ w1 ⟨hj, ho, he, hF⟩
  simp only at hj ho he hF ⊢
  by_cases hjL : 8 * j < L.length
  · simp (disch := omega) only [go_sem, ↓reduceIte, Nat.reduceEqDiff]
    refine LoopK_of (X := Nat) (st := fun k => [(0, .slice a L.length cap), (3, v1), (4, .int .i64 ((8 * j : Nat) : Int)), (5, .int .i64 ((bTo L j k : Nat) : Int)), (6, .int .i64 (k : Int))])
      (inv := fun k w' => k ≤ 8 ∧ w' = w1) (m := fun k => 8 - k) 0
      (sub_cons rfl rfl (sub_cons rfl rfl (sub_cons rfl rfl (sub_cons rfl rfl (sub_cons rfl rfl (sub_nil _)))))) ⟨by omega, rfl⟩ ?_
    rintro k w2 ⟨hk, rfl⟩
    have hb := bTo_le L j k
    have hpw : (2 : Nat) ^ k ≤ 2 ^ 8 := Nat.pow_le_pow_right (by omega) hk
    rw [show (2 : Nat) ^ 8 = 256 from rfl] at hpw
    have hbs : bTo L j (k + 1) = 2 * bTo L j k + bAt L (8 * j + k) := rfl
    by_cases hk8 : k < 8
    · have hadd : ((8 * j : Nat) : Int) + (k : Int) = ((8 * j + k : Nat) : Int) := by omega
      have hB : bTo L j k < 256 := by omega
      generalize bTo L j k = B at *
      by_cases hin : 8 * j + k < L.length
      · have R2 := h.ext' he
        have hix : ∀ (q : IntKind) (F : Kv) (w' : World), idxK Try.prog 27 (.slice a L.length cap) (.int q ((8 * j + k : Nat) : Int)) w' F = F true (.pointer (some ⟨ab a, ao a + (8 * j + k), none⟩)) w' := fun q F w' => ixr_27 R2 (by simp) hin w'
        have hc : ∀ F, cellK w2 ⟨ab a, ao a + (8 * j + k), none⟩ F = F true (.bool (L.getD (8 * j + k) false)) := fun F => R2.get hin F
        simp (disch := omega) only [go_sem, hadd, hix, hc, ↓reduceIte, Nat.reduceEqDiff]
        have hba : bAt L (8 * j + k) = (L.getD (8 * j + k) false).toNat := rfl
        cases hbit : L.getD (8 * j + k) false with
        | true =>
          rw [hbit] at hba
          simp (disch := omega) only [go_sem, ↓reduceIte, Nat.reduceEqDiff]
          refine NextK_of (k + 1) (sub_cons rfl rfl (sub_cons rfl rfl (sub_cons rfl rfl (sub_cons rfl (int_eq ?_) (sub_cons rfl (int_eq (by omega)) (sub_nil _)))))) ⟨by omega, rfl⟩ (by omega)
          rw [hbs, hba]; simp
        | false =>
          rw [hbit] at hba
          simp (disch := omega) only [go_sem, ↓reduceIte, Nat.reduceEqDiff]
          refine NextK_of (k + 1) (sub_cons rfl rfl (sub_cons rfl rfl (sub_cons rfl rfl (sub_cons rfl (int_eq ?_) (sub_cons rfl (int_eq (by omega)) (sub_nil _)))))) ⟨by omega, rfl⟩ (by omega)
          rw [hbs, hba]; simp
      · simp (disch := omega) only [go_sem, hadd, ↓reduceIte, Nat.reduceEqDiff]
        have hba : bAt L (8 * j + k) = 0 := bAt_out (by omega)
        refine NextK_of (k + 1) (sub_cons rfl rfl (sub_cons rfl rfl (sub_cons rfl rfl (sub_cons rfl (int_eq ?_) (sub_cons rfl (int_eq (by omega)) (sub_nil _)))))) ⟨by omega, rfl⟩ (by omega)
        rw [hbs, hba]; simp
    · obtain rfl : k = 8 := by omega
      have h8 := bTo_eight L j
      have hv8 : Value.int .u8 ((byteV L j : Nat) : Int) = u8v (UInt8.ofNat (byteV L j)) := by
        unfold u8v; rw [UInt8.toNat_ofNat', Nat.mod_eq_of_lt (byteV_lt _ _)]
      have hlt := byteV_lt L j
      rw [h8]
      simp (disch := omega) only [go_sem, hv8, ↓reduceIte, Nat.reduceEqDiff]
      refine apd_24_24 (n := j) (m := 1) (cs := (packedTo L j).map u8v) (xs := [u8v (UInt8.ofNat (byteV L j))]) (ho.ext' ((Ext.refl [] w2).alloc _)) (Row.of_blk (Blk.new _ _ _) (fun i hi => by rw [Nat.zero_add]; exact List.getElem?_eq_getElem hi)) (by simp) (u8v_one [_]) (by omega) ?_
      intro v' w' hv he' hf'
      have E3 : Ext [] w w' := (he.alloc _).trans he' (fun b hb => .inr (hF b hb))
      simp (disch := omega) only [go_sem, ↓reduceIte, Nat.reduceEqDiff]
      refine NextK_of (j + 1, v') (sub_cons rfl rfl (sub_cons rfl rfl (sub_cons rfl (int_eq (by simp only; omega)) (sub_nil _)))) ⟨by simp only; omega, ?_, E3, fun q hq => ?_⟩ (by simp only; omega)
      · simp only
        rw [packedTo_succ, List.map_append]
        exact hv
      · have := he.size
        rcases hf' q hq with h1 | h1
        · exact hF q h1
        · simp only [World.size_alloc] at h1; omega
  · simp (disch := omega) only [go_sem, ↓reduceIte, Nat.reduceEqDiff]
    obtain rfl : j = (L.length + 7) / 8 := by omega
    exact ⟨ho, he, hF⟩
end Go.Proofs.Ythbcfjlalmhabaa
