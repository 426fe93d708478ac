import Derived.Test.YtflpdbhabknekaaCrcC
import Derived.Test.YtflpdbhabknekaaGlue
/-! The statements of package crc: what they come to. -/
namespace Go.Proofs.Ytflpdbhabknekaa
open Go.Eng
set_option linter.unusedSimpArgs false
set_option linter.unusedVariables false

def nine : List UInt8 := [49, 50, 51, 52, 53, 54, 55, 56, 57]
theorem nine_sum : crcSum nine = 3421780262 := by decide +kernel
theorem awake_rets (w : World) : Rets Try.prog 7 [] w fun v w' => v = .bool true ∧ Ext [] w w' := by
  refine rets_den Try.func7 rfl (by kernel_rfl) (by kernel_rfl) [.tmp 0] (by kernel_rfl) ?_
  simp (disch := omega) only [go_sem, ↓reduceIte, Nat.reduceEqDiff]
  refine cllK_of Try.call9 (sum_rets (l := nine) (Row.of_blk (Blk.new _ _ _) (fun i hi => ?_)) (by decide)) ?_
  · rw [Nat.zero_add]; exact List.getElem?_eq_getElem hi
  rintro v w0 ⟨rfl, he⟩
  simp (disch := omega) only [go_sem, nine_sum, ↓reduceIte, Nat.reduceEqDiff]
  exact ⟨by simp, ((Ext.refl [] w).alloc _).trans' he⟩

theorem crcSums_true {w : World} {a b : Option Addr} {n m ca cb : Nat} {l k : List UInt8} (h : Row w a (l.map u8v)) (hk : Row w b (k.map u8v)) (hl : l.length = n) (hm : k.length = m) (hn : n ≤ ca) (hmb : m ≤ cb) (hca : ca ≤ maxLen) (hcb : cb ≤ maxLen)
    (law1 : crcSum (l.take 300) = refSum (l.take 300)) (law2 : more (crcSum (l.take 300)) (k.take 300) = refSum (l.take 300 ++ k.take 300)) :
    Rets Try.prog 3 [.slice a n ca, .slice b m cb] w fun v w' => v = .bool true ∧ Ext [] w w' := by
  refine rets_den Try.func3 rfl (by kernel_rfl) (by kernel_rfl) [.tmp 4] (by kernel_rfl) ?_
  simp (disch := omega) only [go_sem, ↓reduceIte, Nat.reduceEqDiff]
  refine cllK_of Try.call7 (awake_rets w) ?_
  rintro v w1 ⟨rfl, he1⟩
  simp (disch := omega) only [go_sem, Bool.not_true, ↓reduceIte, Nat.reduceEqDiff]
  refine cllK_of Try.call8 (short_rets hn) ?_
  rintro v w2 ⟨rfl, hw2⟩
  subst w2
  simp (disch := omega) only [go_sem, Bool.not_true, ↓reduceIte, Nat.reduceEqDiff]
  refine cllK_of Try.call8 (short_rets hmb) ?_
  rintro v w3 ⟨rfl, hw3⟩
  subst w3
  simp (disch := omega) only [go_sem, Bool.not_true, ↓reduceIte, Nat.reduceEqDiff]
  subst hl hm
  have hla : (l.take 300).length = min l.length 300 := by rw [List.length_take, Nat.min_comm]
  have hka : (k.take 300).length = min k.length 300 := by rw [List.length_take, Nat.min_comm]
  have rl := (h.ext' he1).takeM 300
  have rk := (hk.ext' he1).takeM 300
  generalize l.take 300 = L at *
  generalize k.take 300 = K at *
  rw [← hla, ← hka]
  have hL : L.length ≤ 300 := by omega
  have hK : K.length ≤ 300 := by omega
  refine apd_22_22 (n := 0) (m := L.length) (cs := []) (xs := L.map u8v) ?_ (rl.alloc _) (by simp) (u8v_one L) (by omega) ?_
  · exact ⟨rfl, .inr ⟨_, _, 0, rfl, Blk.new _ _ _, by simp, by simp, by simp⟩⟩
  intro v3 w3 hv3 he3 hf3
  simp (disch := omega) only [go_sem, ↓reduceIte, Nat.reduceEqDiff]
  have E3 : Ext [] w1 w3 := ((Ext.refl [] w1).alloc _).trans he3 (fun b hb => .inr (by simp [fpv] at hb; omega))
  have F3 : ∀ b ∈ fpv v3, w1.heap.size ≤ b := fun b hb => by
    rcases hf3 b hb with h1 | h1
    · simp [fpv] at h1; omega
    · simp at h1; omega
  refine apd_22_22 (n := L.length) (m := K.length) (cs := L.map u8v) (xs := K.map u8v) (by simpa using hv3) (rk.ext' E3) (by simp) (u8v_one K) (by omega) ?_
  intro v4 w4 hv4 he4 hf4
  have E4 : Ext [] w1 w4 := E3.trans he4 (fun b hb => .inr (F3 b hb))
  obtain ⟨a4, c4, rfl, hc4, R4, -⟩ := hv4.row
  rw [← List.map_append] at R4
  have RL := rl.ext' E4
  have RK := rk.ext' E4
  simp (disch := omega) only [go_sem, ↓reduceIte, Nat.reduceEqDiff]
  refine cllK_of Try.call9 (sum_rets RL (by omega)) ?_
  rintro v w5 ⟨hv, he5⟩
  rw [law1] at hv
  subst hv
  simp (disch := omega) only [go_sem, ↓reduceIte, Nat.reduceEqDiff]
  refine cllK_of Try.call10 (refSum_rets (RL.ext' he5) (by omega)) ?_
  rintro v w6 ⟨hv, hw6⟩
  subst w6
  have hv' : v = .int .u32 (refSum L : Int) := hv
  subst hv'
  clear hv
  simp (disch := omega) only [go_sem, decide_true, ↓reduceIte, Nat.reduceEqDiff]
  refine cllK_of Try.call9 (sum_rets (RL.ext' he5) (by omega)) ?_
  rintro v w7 ⟨hv, he7⟩
  rw [law1] at hv
  subst hv
  simp (disch := omega) only [go_sem, decide_true, ↓reduceIte, Nat.reduceEqDiff]
  refine cllK_of Try.call11 (more_rets ((RK.ext' he5).ext' he7) (by omega) (by unfold refSum; omega)) ?_
  rintro v w8 ⟨hv, he8⟩
  rw [← law1, law2] at hv
  subst hv
  simp (disch := omega) only [go_sem, decide_true, ↓reduceIte, Nat.reduceEqDiff]
  rw [← List.length_append]
  refine cllK_of Try.call10 (refSum_rets (((R4.ext' he5).ext' he7).ext' he8) (by rw [List.length_append]; omega)) ?_
  rintro v w9 ⟨hv, hw9⟩
  subst w9
  have hv' : v = .int .u32 (refSum (L ++ K) : Int) := hv
  subst hv'
  clear hv
  simp (disch := omega) only [go_sem, decide_true, ↓reduceIte, Nat.reduceEqDiff]
  exact ⟨trivial, ((((he1.trans' E4).trans' he5).trans' he7).trans' he8)⟩
end Go.Proofs.Ytflpdbhabknekaa
