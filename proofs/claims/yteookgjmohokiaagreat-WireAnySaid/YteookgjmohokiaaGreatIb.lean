import Derived.Test.YteookgjmohokiaaGreatIa
import Derived.Test.YteookgjmohokiaaGreatWe
import Derived.Test.YteookgjmohokiaaGreatAb
namespace Go.Proofs.YteookgjmohokiaaGreat
open Go.Eng Go.Vx
set_option linter.unusedSimpArgs false
set_option linter.unusedVariables false
set_option maxRecDepth 100000
instance wellN_dec {k a b : Nat} {s : Nat × Nat × Bool} : Decidable (wellN k a b s) := by unfold wellN; exact inferInstance
theorem tWellB_fn {a b : Nat} {s : Nat × Nat × Bool} (h1 : 1 ≤ a) (h2 : a ≤ 1023) (h3 : b ≤ 20) (h : ¬ (s.1 ≤ a ∧ s.2.1 ≤ b ∧ (s.2.2 = true → s.2.1 = b))) : Fn1 Tryz.prog 90 [.agg [.lit (.int .i64 (a : Int)), .lit (.int .i64 (b : Int))], sR s] [] (.lit (.bool false)) [] := by
  have c := tCheck_fn h1 h2 h3
  obtain ⟨K, T, F⟩ := s
  dsimp only at h
  refine fn1N_of pl90 (by kernel_rfl) Tryz.call90 Tryz.func90 rfl (by kernel_rfl) rfl [.tmp 4] (by kernel_rfl) fun Q hQ => ?_
  by_cases w1 : K ≤ a
  · by_cases w2 : T ≤ b
    · have w3 : F = true ∧ T ≠ b := by
        cases F with
        | true => exact ⟨rfl, fun e => h ⟨w1, w2, fun _ => e⟩⟩
        | false => exact absurd ⟨w1, w2, fun e => by cases e⟩ h
      obtain ⟨rfl, w3⟩ := w3
      refine runW ?_
      refine callV0 (c) rfl rfl ?_
      refine runW ?_
      exact endW [] hQ
    · refine runW ?_
      refine callV0 (c) rfl rfl ?_
      refine runW ?_
      exact endW [] hQ
  · refine runW ?_
    refine callV0 (c) rfl rfl ?_
    refine runW ?_
    exact endW [] hQ
set_option maxHeartbeats 1000000 in
theorem rWellB_fn {k a b : Nat} {s : Nat × Nat × Bool} (h : goodN k a b) (w : ¬ wellN k a b s) : Fn1 Tryz.prog 74 [pR k a b, sR s] [] (.lit (.bool false)) [] := by
  have rc := rCheck_fn h
  refine fn1N_of pl74 (by kernel_rfl) Tryz.call74 Tryz.func74 rfl (by kernel_rfl) rfl [.tmp 4] (by kernel_rfl) fun Q hQ => ?_
  by_cases h4 : k = 4
  · obtain ⟨h1, h2, h3⟩ : 1 ≤ a ∧ a ≤ 1023 ∧ b ≤ 20 := by rcases h with h | h | h | h <;> omega
    unfold wellN at w
    rw [if_pos h4] at w
    have tw := tWellB_fn h1 h2 h3 w
    have t := rthin_fn (k := (k : Int)) (a := (a : Int)) (b := (b : Int))
    have tt := rthinned_fn (K := (s.1 : Int)) (T := (s.2.1 : Int)) (F := s.2.2)
    refine runW ?_
    refine callV0 (rc) rfl rfl ?_
    refine runW ?_
    repeat (first | (refine callV0 (t) rfl rfl ?_) | (refine callV0 (tt) rfl rfl ?_) | (refine callV0 (tw) rfl rfl ?_) | (refine runW ?_))
    exact endW [] hQ
  · have ct := cTop_fn h h4
    have t := rchain_fn (k := (k : Int)) (a := (a : Int)) (b := (b : Int))
    unfold wellN at w
    rw [if_neg h4] at w
    obtain ⟨K, T, F⟩ := s
    dsimp only at w
    generalize 2 ^ b - 1 = m at *
    refine runW ?_
    refine callV0 (rc) rfl rfl ?_
    refine runW ?_
    refine callV0 (t) rfl rfl ?_
    refine runW ?_
    refine callV0 (ct) rfl rfl ?_
    by_cases w1 : T = 0
    · subst w1
      by_cases w2 : K ≤ m
      · have w3 : F = true ∧ K ≠ m := by
          cases F with
          | true => exact ⟨rfl, fun e => w ⟨rfl, w2, fun _ => e⟩⟩
          | false => exact absurd ⟨rfl, w2, fun e => by cases e⟩ w
        obtain ⟨rfl, w3⟩ := w3
        refine runW ?_
        exact endW [] hQ
      · refine runW ?_
        exact endW [] hQ
    · refine runW ?_
      exact endW [] hQ
theorem rWellX_fn {k a b : Nat} {s : Nat × Nat × Bool} (h : goodN k a b) : Fn1 Tryz.prog 74 [pR k a b, sR s] [] (.lit (.bool (decide (wellN k a b s)))) [] := by
  by_cases w : wellN k a b s
  · rw [decide_eq_true w]; exact rWell_fn h w
  · rw [decide_eq_false w]; exact rWellB_fn h w
def stAt (L : List Bool) (k a b p : Nat) : Nat × Nat × Bool := (numOf ((L.drop p).take (w1 k a b)), numOf ((L.drop (p + w1 k a b)).take (w2 k a b)), L.getD (p + w1 k a b + w2 k a b) false)
def rrX (L : List Bool) (k a b p : Nat) : Option (Nat × Nat × Bool) × Nat × Int :=
  if p + wd k a b ≤ L.length then (if wellN k a b (stAt L k a b p) then (some (stAt L k a b p), p + wd k a b, 0) else (none, p + wd k a b, 4)) else (none, p, 5)
def stV : Option (Nat × Nat × Bool) → V
  | some s => sR s
  | none => .agg [.lit (.int .i64 0), .lit (.int .i64 0), .lit (.bool false)]
@[go_sem] theorem stV_some {s : Nat × Nat × Bool} : stV (some s) = sR s := (rfl)
@[go_sem] theorem stV_none : stV none = .agg [.lit (.int .i64 0), .lit (.int .i64 0), .lit (.bool false)] := (rfl)
def rdQ (B : List Int) (p : Nat) : V := .rref 2 [[.row 1 (B.map (ie .u8)), .lit (.int .i64 (p : Int))]] 0 0
attribute [go_sem] rdQ
theorem leftU_fn {B : List Int} {p : Nat} (hB : B.length ≤ 1099511627776) (hp : p ≤ 8 * B.length) : Fn1 Tryz.prog 65 [rdQ B p] [] (.lit (.int .i64 ((8 * B.length - p : Nat) : Int))) [] := by
  refine fn1N_of pl65 (by kernel_rfl) Tryz.call65 Tryz.func65 rfl (by kernel_rfl) rfl [.tmp 2] (by kernel_rfl) fun Q hQ => ?_
  refine runW ?_
  rw [show ((8 : Int) * (B.length : Int) - (p : Int)) = ((8 * B.length - p : Nat) : Int) by omega]
  exact endW [] hQ
set_option maxHeartbeats 2000000 in
theorem rRead_fn {k a b p : Nat} {B : List Int} (h : goodN k a b) (hI : IsB B) (hB : B.length ≤ 1099511627776) (hp : p ≤ 8 * B.length) :
    Fn1 Tryz.prog 68 [pR k a b, .ref 0 0 0 0] [some (rdC B p)] (.tup [stV (rrX (bitsOf B) k a b p).1, .lit (.int .i64 (rrX (bitsOf B) k a b p).2.2)]) [some (rdC B (rrX (bitsOf B) k a b p).2.1)] := by
  have hbl := bitsOf_len B
  have rc := rCheck_fn h
  have rb := rBits_fn h
  have ws := rWidths_fn h
  have hw := w_le h
  have lf := leftU_fn hB hp
  have hwd := wd_ok h
  unfold wd at hwd
  unfold rrX wd
  refine fn1N_of pl68 (by kernel_rfl) Tryz.call68 Tryz.func68 rfl (by kernel_rfl) rfl [.cell 4 45, .tmp 5] (by kernel_rfl) fun Q hQ => ?_
  by_cases h1 : p + (w1 k a b + w2 k a b + 1) ≤ (bitsOf B).length
  · rw [if_pos h1] at hQ
    have n1 := brnum_fn (B := B) (p := p) (w := w1 k a b) hI hB (by omega) (by omega)
    have n2 := brnum_fn (B := B) (p := p + w1 k a b) (w := w2 k a b) hI hB (by omega) (by omega)
    have b1 := rbitX_fn (B := B) (p := p + w1 k a b + w2 k a b) hI hB (by omega)
    rw [rX_one (by omega)] at b1
    dsimp only at b1
    rw [show decide (((bitsOf B).getD (p + w1 k a b + w2 k a b) false).toNat = 1) = (bitsOf B).getD (p + w1 k a b + w2 k a b) false by cases (bitsOf B).getD (p + w1 k a b + w2 k a b) false <;> rfl] at b1
    have hk := numOf_take_lt ((bitsOf B).drop p) (w1 k a b)
    have ht := numOf_take_lt ((bitsOf B).drop (p + w1 k a b)) (w2 k a b)
    have hpx : 2 ^ w1 k a b ≤ 2 ^ 10 := Nat.pow_le_pow_right (by decide) hw.1
    have hpy : 2 ^ w2 k a b ≤ 2 ^ 5 := Nat.pow_le_pow_right (by decide) hw.2
    have wl := rWellX_fn (s := stAt (bitsOf B) k a b p) h
    unfold stAt at hQ wl
    generalize numOf (((bitsOf B).drop p).take (w1 k a b)) = K at *
    generalize numOf (((bitsOf B).drop (p + w1 k a b)).take (w2 k a b)) = T at *
    generalize (bitsOf B).getD (p + w1 k a b + w2 k a b) false = F at *
    by_cases hwl : wellN k a b (K, T, F)
    · rw [if_pos hwl] at hQ
      rw [decide_eq_true hwl] at wl
      refine runW ?_
      refine callV0 (rc) rfl rfl ?_
      refine runW ?_
      refine callT (lf) ?_
      refine runW ?_
      refine callV0 (rb) rfl rfl ?_
      refine runW ?_
      refine callV0 (ws) rfl rfl ?_
      refine runW ?_
      refine callW [some 0] [] (n1) ?_
      refine runW ?_
      refine callW [some 0] [] (n2) ?_
      refine runW ?_
      refine callW [some 0] [] (b1) ?_
      refine runW ?_
      refine callV0 (wl) rfl rfl ?_
      refine runW ?_
      exact endW [some 0] hQ
    · rw [if_neg hwl] at hQ
      rw [decide_eq_false hwl] at wl
      refine runW ?_
      refine callV0 (rc) rfl rfl ?_
      refine runW ?_
      refine callT (lf) ?_
      refine runW ?_
      refine callV0 (rb) rfl rfl ?_
      refine runW ?_
      refine callV0 (ws) rfl rfl ?_
      refine runW ?_
      refine callW [some 0] [] (n1) ?_
      refine runW ?_
      refine callW [some 0] [] (n2) ?_
      refine runW ?_
      refine callW [some 0] [] (b1) ?_
      refine runW ?_
      refine callV0 (wl) rfl rfl ?_
      refine runW ?_
      exact endW [some 0] hQ
  · rw [if_neg h1] at hQ
    refine runW ?_
    refine callV0 (rc) rfl rfl ?_
    refine runW ?_
    refine callT (lf) ?_
    refine runW ?_
    refine callV0 (rb) rfl rfl ?_
    refine runW ?_
    exact endW [some 0] hQ
end Go.Proofs.YteookgjmohokiaaGreat
