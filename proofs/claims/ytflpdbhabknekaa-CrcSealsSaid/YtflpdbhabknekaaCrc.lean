import Derived.Test.YtflpdbhabknekaaLib
/-! What the functions of package crc, and those that its statements call, come to. -/
namespace Go.Proofs.Ytflpdbhabknekaa
open Go.Eng
set_option linter.unusedSimpArgs false
set_option linter.unusedVariables false


/-! ### bit by bit -/
def step1 (c bit : Nat) : Nat := if c % 2 = bit then c / 2 else (c / 2) ^^^ 3988292384
def steps (c b : Nat) : Nat → Nat
  | 0 => c
  | k + 1 => step1 (steps c b k) (b / 2 ^ k % 2)
def crcR (l : List UInt8) : Nat := l.foldl (fun c b => steps c b.toNat 8) 4294967295
theorem step1_lt {c bit : Nat} (h : c < 4294967296) : step1 c bit < 4294967296 := by
  unfold step1
  split
  · omega
  · exact Nat.xor_lt_two_pow (n := 32) (by omega) (by omega)
theorem steps_lt {c b : Nat} (h : c < 4294967296) : ∀ k, steps c b k < 4294967296
  | 0 => h
  | k + 1 => step1_lt (steps_lt h k)
theorem crcR_snoc (l : List UInt8) (b : UInt8) : crcR (l ++ [b]) = steps (crcR l) b.toNat 8 := by simp [crcR]
theorem crcR_lt (l : List UInt8) : crcR l < 4294967296 := by
  suffices h : ∀ (l : List UInt8) (c : Nat), c < 4294967296 → l.foldl (fun c b => steps c b.toNat 8) c < 4294967296 from h l _ (by omega)
  intro l
  induction l with
  | nil => intro c h; exact h
  | cons b l ih => intro c h; exact ih _ (steps_lt h 8)

theorem refSum_rets {w : World} {a : Option Addr} {cap : Nat} {l : List UInt8} (h : Row w a (l.map u8v)) (hm : l.length < 4294967296) :
    Rets Try.prog 10 [.slice a l.length cap] w fun v w' => v = .int .u32 ((4294967295 - crcR l : Nat) : Int) ∧ w' = w := by
  have hix : ∀ (m : Nat) (i : IntKind) (k : Kv) (w' : World), m < l.length → idxK Try.prog 22 (.slice a l.length cap) (.int i (m : Int)) w' k = k true (.pointer (some ⟨ab a, ao a + m, none⟩)) w' := fun m i k w' hm => ixr_22 h (by simp) hm w'
  have hc : ∀ (m : Nat) (F : Bool → Value → Prop), m < l.length → cellK w ⟨ab a, ao a + m, none⟩ F = F true (u8v (l.getD m default)) := fun m F hm => h.get hm F
  refine rets_den Try.func10 rfl (by kernel_rfl) (by kernel_rfl) [.tmp 2] (by kernel_rfl) ?_
  simp (disch := omega) only [go_sem, ↓reduceIte, Nat.reduceEqDiff]
  refine LoopK_of (X := Nat) (st := fun i => [(0, .slice a l.length cap), (3, .int .u32 (crcR (l.take i) : Int)), (4, .int .i64 i)]) (inv := fun i w' => i ≤ l.length ∧ w' = w) (m := fun i => l.length - i) 0
    (sub_cons rfl rfl (sub_cons rfl rfl (sub_cons rfl rfl (sub_nil _)))) ⟨by omega, rfl⟩ ?_
  rintro i w1 ⟨hi, rfl⟩
  have hlt := crcR_lt (l.take i)
  by_cases hil : i < l.length
  · simp (disch := omega) only [go_sem, ↓reduceIte, Nat.reduceEqDiff]
    have hsnoc : crcR (l.take (i + 1)) = steps (crcR (l.take i)) (l.getD i default).toNat 8 := by
      rw [take_succ_getD l i hil, crcR_snoc]
    have hbt := (l.getD i default).toNat_lt
    have hc' := fun F => hc i F hil
    unfold u8v at hc'
    generalize hC : crcR (l.take i) = C at *
    generalize hB : (l.getD i default).toNat = B at *
    refine LoopK_of (X := Nat) (st := fun j => [(0, .slice a l.length cap), (3, .int .u32 (steps C B j : Int)), (4, .int .i64 i), (5, .int .i64 j)]) (inv := fun j w' => j ≤ 8 ∧ w' = w1) (m := fun j => 8 - j) 0
      (sub_cons rfl rfl (sub_cons rfl rfl (sub_cons rfl rfl (sub_cons rfl rfl (sub_nil _))))) ⟨by omega, rfl⟩ ?_
    rintro j w2 ⟨hj, rfl⟩
    have hlt' := steps_lt (b := B) hlt j
    have hst : steps C B (j + 1) = step1 (steps C B j) (B / 2 ^ j % 2) := rfl
    generalize hS : steps C B j = S at *
    by_cases hj8 : j < 8
    · simp (disch := omega) only [go_sem, hix, hc', ↓reduceIte, Nat.reduceEqDiff]
      have e1 : ((B : Int) / 2 ^ j).tmod 2 = ((B / 2 ^ j % 2 : Nat) : Int) := by
        rw [Int.tmod_eq_emod_of_nonneg (Int.ediv_nonneg (by omega) (Int.le_of_lt (Int.pow_pos (by decide))))]
        simp
      simp only [e1]
      generalize hD : B / 2 ^ j % 2 = D at *
      refine cdK_nsplit (fun h => ?_) (fun h => ?_)
      · simp (disch := omega) only [go_sem, ↓reduceIte, Nat.reduceEqDiff]
        refine NextK_of (j + 1) (sub_cons rfl rfl (sub_cons rfl (int_eq ?_) (sub_cons rfl rfl (sub_cons rfl (int_eq (by omega)) (sub_nil _))))) ⟨by omega, rfl⟩ (by omega)
        rw [hst, step1, if_neg (by omega), ← xor_u32 (by omega) (by omega)]
        congr 1
      · simp (disch := omega) only [go_sem, ↓reduceIte, Nat.reduceEqDiff]
        refine NextK_of (j + 1) (sub_cons rfl rfl (sub_cons rfl (int_eq ?_) (sub_cons rfl rfl (sub_cons rfl (int_eq (by omega)) (sub_nil _))))) ⟨by omega, rfl⟩ (by omega)
        rw [hst, step1, if_pos (by omega)]
        omega
    · simp (disch := omega) only [go_sem, ↓reduceIte, Nat.reduceEqDiff]
      obtain rfl : j = 8 := by omega
      refine NextK_of (i + 1) (sub_cons rfl rfl (sub_cons rfl (int_eq (by omega)) (sub_cons rfl (int_eq (by omega)) (sub_nil _)))) ⟨by omega, rfl⟩ (by omega)
  · simp (disch := omega) only [go_sem, ↓reduceIte, Nat.reduceEqDiff]
    obtain rfl : i = l.length := by omega
    rw [List.take_of_length_le (by omega)] at hlt ⊢
    exact ⟨int_eq (by omega), trivial⟩

end Go.Proofs.Ytflpdbhabknekaa
