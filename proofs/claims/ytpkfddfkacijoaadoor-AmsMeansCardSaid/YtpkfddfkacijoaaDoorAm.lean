import Derived.Test.YtpkfddfkacijoaaDoorAl
namespace Go.Proofs.YtpkfddfkacijoaaDoor
open Go.Eng Go.Vx
set_option linter.unusedSimpArgs false
set_option linter.unusedVariables false
set_option maxRecDepth 100000
theorem ksA_lt {W : List Nat} {n : Nat} : ∀ x ∈ ksA W n, x < 3 := by
  intro x hx
  unfold ksA at hx
  obtain ⟨y, -, rfl⟩ := List.mem_map.1 hx
  exact Nat.mod_lt _ (by decide)
theorem ksA_len {W : List Nat} {n : Nat} (h : n ≤ W.length) : (ksA W n).length = n := by
  unfold ksA
  rw [List.length_map, List.length_take]
  omega
theorem meansA {K : Int} {P n : Nat} {W : List Nat} (h : ownA K P) (hn : n ≤ 4) (hnW : n ≤ W.length) :
    sumQr (trA K P n W) 12 ≤ (gE K P ((ksA W n).count 0) + gE K P ((ksA W n).count 1) + gE K P ((ksA W n).count 2)) * vn 4096 ∧
    (gE K P ((ksA W n).count 0) + gE K P ((ksA W n).count 1) + gE K P ((ksA W n).count 2)) * vn 4096 ≤ sumQr (trA K P n W) 12 + estV K P (max n 1) (0, max n 1) * vn (opQr (trA K P n W) 12) := by
  have hl := ksA_len hnW
  have hb := ksA_lt (W := W) (n := n)
  have h0 := gE_zero h
  unfold trA
  generalize ksA W n = ks at *
  cases ks with
  | nil =>
    obtain rfl : n = 0 := by simpa using hl.symm
    show estV K P 0 (0, 0) * vn (2 ^ 12) ≤ _ ∧ _ ≤ estV K P 0 (0, 0) * vn (2 ^ 12) + _ * vn 0
    have e : estV K P 0 (0, 0) = 0 := by
      unfold estV
      rw [show (((0 : Nat) : Int) : Rat) = 0 from rfl]
      grind
    rw [e, List.count_nil, List.count_nil, List.count_nil, h0, vn_zero]
    constructor <;> grind
  | cons k ks =>
    rw [List.length_cons] at hl
    have hm := means (m := 3) (f := 12) (k := k) (ks := ks) (s := (0, 0)) (G := gE K P) (B := vn n * dGe K P n) hb rfl (fun r hr => by
      rw [hl]
      exact est_in h (by omega) (by omega) (by omega))
    try dsimp only at hm
    have e : (fun x : Nat × Nat => estV K P n x) = fun s : Nat × Nat => vn (ks.length + 1) * (gE K P s.2 - gE K P (s.2 - 1)) := by
      funext s
      rw [gE_diff, hl]
      rfl
    have es : ∀ φ : Nat → Rat, sumN 3 φ = φ 0 + φ 1 + φ 2 := fun φ => by
      show 0 + φ 0 + φ 1 + φ 2 = _
      grind
    have e3 : max n 1 = n := by omega
    rw [es] at hm
    try dsimp only at hm
    rw [h0] at hm
    rw [e3, e]
    have e4 : estV K P n (0, n) = vn n * dGe K P n := rfl
    rw [e4]
    have e5 : vn (2 ^ 12) = vn 4096 := rfl
    rw [e5] at hm
    have e6 : ∀ a : Rat, a - 0 = a := fun a => by grind
    rw [e6, e6, e6] at hm
    exact hm
theorem opA_zero {fin : Nat × Nat → Rat} {ks : List Nat} (h : ks.length ≤ 2) : opQr (playQ fin ks 0 (0, 0)) 12 = 0 := by
  have e1 : bl 0 = 0 := by decide
  have e2 : bl 1 = 1 := by decide
  match ks, h with
  | [], _ => rfl
  | [a], _ =>
    show opQr (belQ 1 (bl 0) 40 fun x => DT.ret (fin (stp a x (0, 0)))) 12 = 0
    rw [e1]
    rfl
  | [a, b], _ =>
    show opQr (belQ 1 (bl 0) 40 fun x => belQ 2 (bl 1) 40 fun y => DT.ret (fin (stp b y (stp a x (0, 0))))) 12 = 0
    rw [e1, e2]
    rfl
end Go.Proofs.YtpkfddfkacijoaaDoor
