import Derived.Test.YtflpdbhabknekaaCrcF
/-! Seal and Open. -/
namespace Go.Proofs.Ytflpdbhabknekaa
open Go.Eng
set_option linter.unusedSimpArgs false
set_option linter.unusedVariables false

def sealed (l : List UInt8) : List UInt8 := l ++ be4 (crcSum l)
theorem sealed_len (l : List UInt8) : (sealed l).length = l.length + 4 := by simp [sealed, be4]
def be4at (S j : Nat) : UInt8 := match j with | 0 => UInt8.ofNat (S / 16777216) | 1 => UInt8.ofNat (S / 65536) | 2 => UInt8.ofNat (S / 256) | _ => UInt8.ofNat S

set_option maxRecDepth 100000 in
theorem seal_rets {w : World} {a : Option Addr} {cap n : Nat} {l : List UInt8} (h : Row w a (l.map u8v)) (hn : l.length = n) (hm : n < 4294967296) :
    Rets Try.prog 13 [.slice a n cap] w fun v w' => OwnC w' v (n + 4) 1 ((sealed l).map u8v) ∧ Ext [] w w' ∧ ∀ b ∈ fpv v, w.heap.size ≤ b := by
  subst hn
  refine rets_den Try.func13 rfl (by kernel_rfl) (by kernel_rfl) [.tmp 2] (by kernel_rfl) ?_
  simp (disch := omega) only [go_sem, ↓reduceIte, Nat.reduceEqDiff]
  refine cllK_of Try.call17 (clone_rets h (by omega)) ?_
  rintro v w1 ⟨hv1, he1, hf1⟩
  simp (disch := omega) only [go_sem, ↓reduceIte, Nat.reduceEqDiff]
  refine cllK_of Try.call9 (sum_rets (h.ext' he1) hm) ?_
  rintro v2 w2 ⟨rfl, he2⟩
  have hS := crcSum_lt l
  unfold sealed
  generalize crcSum l = S at *
  have E2 := he1.trans' he2
  have hv2 := hv1.ext' he2
  simp (disch := omega) only [go_sem, ↓reduceIte, Nat.reduceEqDiff]
  refine LoopK_of (X := Nat × Int × Value) (st := fun x => [(0, .slice a l.length cap), (3, x.2.2), (4, .int .i64 x.2.1), (5, .int .u32 (S : Int))])
    (inv := fun x w' => x.1 ≤ 4 ∧ x.2.1 = 3 - (x.1 : Int) ∧ Ext [] w w' ∧ OwnC w' x.2.2 (l.length + x.1) 1 ((l ++ (be4 S).take x.1).map u8v) ∧ ∀ b ∈ fpv x.2.2, w.heap.size ≤ b) (m := fun x => 4 - x.1) (0, 3, v)
    (sub_cons rfl rfl (sub_cons rfl rfl (sub_cons rfl rfl (sub_cons rfl rfl (sub_nil _))))) ⟨Nat.zero_le _, rfl, E2, by simpa using hv2, hf1⟩ ?_
  rintro ⟨j, q, d⟩ w3 ⟨hj, hq, he, ho, hf⟩
  simp only at hj hq he ho hf ⊢
  have step : ∀ (x : UInt8) (w' : World) (d' : Value), OwnC w' d' (l.length + j + 1) 1 ((l ++ (be4 S).take j).map u8v ++ [u8v x]) → (be4 S).take (j + 1) = (be4 S).take j ++ [x] → OwnC w' d' (l.length + (j + 1)) 1 ((l ++ (be4 S).take (j + 1)).map u8v) := by
    intro x w' d' h1 h2
    rw [h2, ← List.append_assoc, List.map_append]
    exact h1
  by_cases hj4 : j = 4
  · subst hj4
    obtain rfl : q = -1 := by omega
    simp (disch := omega) only [go_sem, ↓reduceIte, Nat.reduceEqDiff]
    exact ⟨ho, he, hf⟩
  · have hx : (be4 S).take (j + 1) = (be4 S).take j ++ [UInt8.ofNat (S / 2 ^ (8 * (3 - j)))] := by
      rcases (by omega : j = 0 ∨ j = 1 ∨ j = 2 ∨ j = 3) with rfl | rfl | rfl | rfl <;> simp [be4]
    have hy : Value.int .u8 (IntKind.u8.wrap ((S : Int) / 2 ^ (8 * q).toNat)) = u8v (UInt8.ofNat (S / 2 ^ (8 * (3 - j)))) := by
      rw [← u8w, show (8 * q).toNat = 8 * (3 - j) by omega]
      norm_cast
    simp (disch := omega) only [go_sem, hy, ↓reduceIte, Nat.reduceEqDiff]
    refine apd_22_22 (n := l.length + j) (m := 1) (cs := (l ++ (be4 S).take j).map u8v) (xs := [u8v (UInt8.ofNat (S / 2 ^ (8 * (3 - j))))]) (ho.ext' ((Ext.refl [] w3).alloc _))
      (Row.of_blk (Blk.new _ _ _) (fun i hi => by rw [Nat.zero_add]; exact List.getElem?_eq_getElem hi)) (by simp) (u8v_one [_]) (by omega) ?_
    intro v' w' hv he' hf'
    have E3 : Ext [] w w' := (he.alloc _).trans he' (fun b hb => .inr (hf b hb))
    simp (disch := omega) only [go_sem, ↓reduceIte, Nat.reduceEqDiff]
    refine NextK_of (j + 1, q - 1, v') (sub_cons rfl rfl (sub_cons rfl rfl (sub_cons rfl rfl (sub_cons rfl rfl (sub_nil _))))) ⟨by simp only; omega, by simp only; omega, E3, step _ _ _ hv hx, ?_⟩ (by simp only; omega)
    intro b hb
    rcases hf' b hb with h1 | h1
    · exact hf b h1
    · have := he.size
      simp only [World.size_alloc] at h1
      omega

set_option maxRecDepth 100000 in
theorem open_rets {w : World} {a : Option Addr} {cap n : Nat} {m : List UInt8} (h : Row w a (m.map u8v)) (hn : m.length = n) (hm : n < 4294967296) (hc : n ≤ cap) :
    Rets Try.prog 14 [.slice a n cap] w fun v w' => ∃ d e, v = .tuple #[d, .int .i64 e] ∧ Ext [] w w' ∧
      ((n < 4 ∧ e = 5) ∨ (4 ≤ n ∧ sealed (m.take (n - 4)) ≠ m ∧ e = 6) ∨ (4 ≤ n ∧ sealed (m.take (n - 4)) = m ∧ e = 0 ∧ OwnC w' d (n - 4) 1 ((m.take (n - 4)).map u8v))) := by
  subst hn
  refine rets_den Try.func14 rfl (by kernel_rfl) (by kernel_rfl) [.tmp 2, .tmp 3] (by kernel_rfl) ?_
  by_cases h4 : m.length < 4
  · simp (disch := omega) only [go_sem, ↓reduceIte, Nat.reduceEqDiff]
    exact ⟨_, _, rfl, Ext.refl _ _, .inl ⟨h4, rfl⟩⟩
  · have hk : ((m.length : Int) - 4).toNat = m.length - 4 := by omega
    have ht := h.takeM (m.length - 4)
    have htl : (m.take (m.length - 4)).length = m.length - 4 := by simp
    generalize hT : m.take (m.length - 4) = T at *
    simp (disch := omega) only [go_sem, hk, ↓reduceIte, Nat.reduceEqDiff]
    refine cllK_of Try.call13 (seal_rets ht htl (by omega)) ?_
    rintro v w1 ⟨hv1, he1, hf1⟩
    obtain ⟨a4, c4, rfl, hc4, R4, -⟩ := hv1.row
    have hsl := sealed_len T
    rw [htl] at hsl
    simp (disch := omega) only [go_sem, ↓reduceIte, Nat.reduceEqDiff]
    rw [← hsl]
    refine cllK_of Try.call18 (equal_rets R4 (h.ext' he1) (by omega)) ?_
    rintro v w2 ⟨rfl, he2⟩
    have hE2 := he1.trans' he2
    by_cases hs : sealed T = m
    · have hd : decide (sealed T = m) = true := decide_eq_true hs
      rw [hd]
      simp (disch := omega) only [go_sem, hk, Bool.not_true, ↓reduceIte, Nat.reduceEqDiff]
      rw [← htl]
      refine cllK_of Try.call17 (clone_rets (ht.ext' hE2) (by omega)) ?_
      rintro v w3 ⟨hv3, he3, hf3⟩
      simp (disch := omega) only [go_sem, ↓reduceIte, Nat.reduceEqDiff]
      exact ⟨_, _, rfl, hE2.trans' he3, .inr (.inr ⟨by omega, hs, rfl, hv3⟩)⟩
    · have hd : decide (sealed T = m) = false := decide_eq_false hs
      rw [hd]
      simp (disch := omega) only [go_sem, Bool.not_false, ↓reduceIte, Nat.reduceEqDiff]
      exact ⟨_, _, rfl, hE2, .inr (.inl ⟨by omega, hs, rfl⟩)⟩
end Go.Proofs.Ytflpdbhabknekaa
