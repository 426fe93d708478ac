import Derived.Test.YtflpdbhabknekaaTab
/-! More, Sum; copies and comparisons of bytes. -/
namespace Go.Proofs.Ytflpdbhabknekaa
open Go.Eng
set_option linter.unusedSimpArgs false
set_option linter.unusedVariables false

def moreStep (c : Nat) (b : UInt8) : Nat := entry ((c % 256) ^^^ b.toNat) ^^^ (c / 256)
def crcT (c : Nat) (l : List UInt8) : Nat := l.foldl moreStep c
theorem xor_lt_256 {a b : Nat} (ha : a < 256) (hb : b < 256) : a ^^^ b < 256 := Nat.xor_lt_two_pow (n := 8) ha hb
theorem moreStep_lt {c : Nat} (b : UInt8) (h : c < 4294967296) : moreStep c b < 4294967296 :=
  Nat.xor_lt_two_pow (n := 32) (entry_lt (xor_lt_256 (by omega) b.toNat_lt)) (by omega)
theorem crcT_lt (l : List UInt8) : ∀ {c : Nat}, c < 4294967296 → crcT c l < 4294967296 := by
  induction l with
  | nil => intro c h; exact h
  | cons b l ih => intro c h; exact ih (moreStep_lt b h)
theorem crcT_snoc (c : Nat) (l : List UInt8) (b : UInt8) : crcT c (l ++ [b]) = moreStep (crcT c l) b := by simp [crcT]
def more (s : Nat) (l : List UInt8) : Nat := 4294967295 - crcT (4294967295 - s) l
def crcSum (l : List UInt8) : Nat := more 0 l
theorem not_u32 {c : Nat} (h : c < 4294967296) : bitK .xor .u32 (if IntKind.u32.signed then -1 else IntKind.u32.max) (c : Int) = ((4294967295 - c : Nat) : Int) := by
  have e : (if IntKind.u32.signed then (-1 : Int) else IntKind.u32.max) = ((4294967295 : Nat) : Int) := by decide
  rw [e, xor_u32 (by omega) h]
  congr 1
  have h1 := BitVec.toNat_not (x := BitVec.ofNat 32 c)
  rw [BitVec.not_def, BitVec.toNat_xor, BitVec.toNat_allOnes, BitVec.toNat_ofNat, Nat.mod_eq_of_lt (by omega)] at h1
  exact h1

theorem more_rets {w : World} {a : Option Addr} {cap s : Nat} {l : List UInt8} (h : Row w a (l.map u8v)) (hm : l.length < 4294967296) (hs : s < 4294967296) :
    Rets Try.prog 11 [.int .u32 (s : Int), .slice a l.length cap] w fun v w' => v = .int .u32 (more s l : Int) ∧ Ext [] w w' := by
  refine rets_den Try.func11 rfl (by kernel_rfl) (by kernel_rfl) [.tmp 4] (by kernel_rfl) ?_
  simp (disch := omega) only [go_sem, ↓reduceIte, Nat.reduceEqDiff]
  refine cllK_of Try.call12 (table_rets w) ?_
  rintro v w0 ⟨rfl, he0⟩
  have hlen := tabTo_len (i := 256) (by omega)
  have hz := tabTo_zero
  simp (disch := omega) only [go_sem, ↓reduceIte, Nat.reduceEqDiff]
  rw [← hz, stsK_all rfl (by have := tabTo_len (i := 0) (by omega); omega) tab_one]
  simp (disch := omega) only [go_sem, not_u32 hs, ↓reduceIte, Nat.reduceEqDiff]
  have hr0 := h.ext' he0
  generalize hw1 : w0.alloc (.cells (tabTo 256).toArray 30) = w1
  have he1 : Ext [] w w1 := by rw [← hw1]; exact he0.alloc _
  have hr1 : Row w1 a (l.map u8v) := h.ext' he1
  have hb : Blk w1 w0.heap.size (tabTo 256) := by rw [← hw1]; exact Blk.new _ _ _
  have hs' : 4294967295 - s < 4294967296 := by omega
  generalize hS : 4294967295 - s = S at *
  have hix : ∀ (m : Nat) (i : IntKind) (k : Kv) (w' : World), m < l.length → idxK Try.prog 22 (.slice a l.length cap) (.int i (m : Int)) w' k = k true (.pointer (some ⟨ab a, ao a + m, none⟩)) w' := fun m i k w' hm => ixr_22 h (by simp) hm w'
  refine LoopK_of (X := Nat) (st := fun i => [(5, .pointer (some ⟨w0.heap.size, 0, none⟩)), (6, .int .u32 (crcT S (l.take i) : Int)), (12, .slice a l.length cap), (13, .int .i64 l.length), (14, .int .i64 i)]) (inv := fun i w' => i ≤ l.length ∧ w' = w1) (m := fun i => l.length - i) 0
    (sub_cons rfl rfl (sub_cons rfl rfl (sub_cons rfl rfl (sub_cons rfl rfl (sub_cons rfl rfl (sub_nil _)))))) ⟨by omega, rfl⟩ ?_
  rintro i w2 ⟨hi, rfl⟩
  have hlt := crcT_lt (l.take i) hs'
  by_cases hil : i < l.length
  · have hc : ∀ (F : Bool → Value → Prop), cellK w2 ⟨ab a, ao a + i, none⟩ F = F true (u8v (l.getD i default)) := fun F => hr1.get hil F
    have hsnoc : crcT S (l.take (i + 1)) = moreStep (crcT S (l.take i)) (l.getD i default) := by
      rw [take_succ_getD l i hil, crcT_snoc]
    have hbt := (l.getD i default).toNat_lt
    unfold u8v at hc
    unfold moreStep at hsnoc
    generalize crcT S (l.take i) = C at *
    generalize (l.getD i default).toNat = B at *
    have hidx := xor_lt_256 (a := C % 256) (b := B) (by omega) (by omega)
    have hent := entry_lt hidx
    simp (disch := omega) only [go_sem, hix, hc, ↓reduceIte, Nat.reduceEqDiff]
    have e1 : bitK .xor .u8 (IntKind.u8.wrap (C : Int)) (B : Int) = ((C % 256 ^^^ B : Nat) : Int) := by
      rw [← xor_u8 (by omega) (by omega), IntKind.wrap_u8]; rfl
    rw [e1]
    generalize hJ : (C % 256 ^^^ B) = J at *
    have hcell : ∀ F, cellK w2 ⟨w0.heap.size, 0 + J, none⟩ F = F true (enV J) := fun F => cellK_of (hb.cell (by rw [Nat.zero_add]; exact tabTo_get hidx))
    unfold enV at hcell
    simp (disch := omega) only [go_sem, hcell, ↓reduceIte, Nat.reduceEqDiff]
    refine NextK_of (i + 1) (sub_cons rfl rfl (sub_cons rfl (int_eq ?_) (sub_cons rfl rfl (sub_cons rfl rfl (sub_cons rfl (int_eq (by omega)) (sub_nil _)))))) ⟨by omega, rfl⟩ (by omega)
    rw [hsnoc, ← xor_u32 (by omega) (by omega)]
    congr 1
  · simp (disch := omega) only [go_sem, ↓reduceIte, Nat.reduceEqDiff]
    obtain rfl : i = l.length := by omega
    rw [List.take_of_length_le (by omega)] at hlt ⊢
    rw [not_u32 hlt]
    exact ⟨by rw [more, hS], he1⟩

theorem sum_rets {w : World} {a : Option Addr} {cap : Nat} {l : List UInt8} (h : Row w a (l.map u8v)) (hm : l.length < 4294967296) :
    Rets Try.prog 9 [.slice a l.length cap] w fun v w' => v = .int .u32 (crcSum l : Int) ∧ Ext [] w w' := by
  refine rets_den Try.func9 rfl (by kernel_rfl) (by kernel_rfl) [.tmp 2] (by kernel_rfl) ?_
  simp (disch := omega) only [go_sem, ↓reduceIte, Nat.reduceEqDiff]
  refine cllK_of Try.call11 (more_rets (s := 0) h hm (by omega)) ?_
  rintro v w0 ⟨rfl, he0⟩
  simp (disch := omega) only [go_sem, ↓reduceIte, Nat.reduceEqDiff]
  exact ⟨rfl, he0⟩

theorem short_rets {w : World} {a : Option Addr} {len cap : Nat} (hc : len ≤ cap) :
    Rets Try.prog 8 [.slice a len cap] w fun v w' => v = .slice a (min len 300) cap ∧ w' = w := by
  refine rets_den Try.func8 rfl (by kernel_rfl) (by kernel_rfl) [.tmp 2] (by kernel_rfl) ?_
  by_cases h : 300 < len
  · simp (disch := omega) only [go_sem, ↓reduceIte, Nat.reduceEqDiff]
    exact ⟨by rw [Nat.min_eq_right (by omega)]; rfl, trivial⟩
  · simp (disch := omega) only [go_sem, ↓reduceIte, Nat.reduceEqDiff]
    exact ⟨by rw [Nat.min_eq_left (by omega)], trivial⟩

theorem clone_rets {w : World} {a : Option Addr} {cap : Nat} {l : List UInt8} (h : Row w a (l.map u8v)) (hm : l.length ≤ 70368744177664) :
    Rets Try.prog 17 [.slice a l.length cap] w fun v w' => OwnC w' v l.length 1 (l.map u8v) ∧ Ext [] w w' ∧ ∀ b ∈ fpv v, w.heap.size ≤ b := by
  refine rets_den Try.func17 rfl (by kernel_rfl) (by kernel_rfl) [.tmp 2] (by kernel_rfl) ?_
  simp (disch := omega) only [go_sem, ↓reduceIte, Nat.reduceEqDiff]
  cases a with
  | none =>
    simp (disch := omega) only [go_sem, Option.isNone_none, ↓reduceIte, Nat.reduceEqDiff]
    have hl : l = [] := by
      cases l with
      | nil => rfl
      | cons b l => have := h.1 (by simp); cases this
    subst hl
    exact ⟨OwnC.nil _ _, Ext.refl _ _, fun b hb => by simp [fpv] at hb⟩
  | some x =>
    simp (disch := omega) only [go_sem, Option.isNone_some, ↓reduceIte, Nat.reduceEqDiff]
    refine apd_22_22 (n := 0) (m := l.length) (cs := []) (xs := l.map u8v) ?_ (h.alloc _) (by simp) (u8v_one l) (by omega) ?_
    · exact ⟨rfl, .inr ⟨_, _, 0, rfl, Blk.new _ _ _, by simp, by simp, by simp⟩⟩
    · intro v' w' hv he hf
      simp (disch := omega) only [go_sem, ↓reduceIte, Nat.reduceEqDiff]
      refine ⟨by simpa using hv, ((Ext.refl [] w).alloc _).trans he (fun b hb => ?_), fun b hb => ?_⟩
      · simp [fpv] at hb; exact .inr (by omega)
      · rcases hf b hb with h1 | h1
        · simp [fpv] at h1; omega
        · simp at h1; omega
end Go.Proofs.Ytflpdbhabknekaa
