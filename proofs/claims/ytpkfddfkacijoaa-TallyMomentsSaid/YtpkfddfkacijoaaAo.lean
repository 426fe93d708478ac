import Derived.Test.YtpkfddfkacijoaaAp
namespace Go.Proofs.Ytpkfddfkacijoaa
open Go.Eng Go.Vx
set_option linter.unusedSimpArgs false
set_option linter.unusedVariables false
set_option maxRecDepth 100000
def ksB (W : List Nat) (n : Nat) : List Nat := (W.take n).map (· % 2)
theorem ksB_lt {W : List Nat} {n : Nat} : ∀ x ∈ ksB W n, x < 2 := by
  intro x hx
  unfold ksB at hx
  obtain ⟨y, -, rfl⟩ := List.mem_map.1 hx
  exact Nat.mod_lt _ (by decide)
theorem ksB_len {W : List Nat} {n : Nat} (h : n ≤ W.length) : (ksB W n).length = n := by
  unfold ksB
  rw [List.length_map, List.length_take]
  omega
theorem count01 : ∀ {l : List Nat}, (∀ x ∈ l, x < 2) → l.count 0 + l.count 1 = l.length
  | [], _ => rfl
  | x :: l, h => by
    have ih := count01 (l := l) (fun y hy => h y (by simp [hy]))
    have hx := h x (by simp)
    rw [List.count_cons, List.count_cons, List.length_cons]
    have : x = 0 ∨ x = 1 := by omega
    rcases this with rfl | rfl <;> simp <;> omega
def trB (P n : Nat) (W : List Nat) : DT Rat := playQ (fun x => estV 1 P n x) (ksB W n) 0 (0, 0)
theorem gE1 {P r : Nat} : gE 1 P r = vn (r ^ P) := by
  unfold gE gN
  rw [if_neg (by decide), if_neg (by decide)]
  rfl
theorem est_inB {P n r : Nat} (hP : 1 ≤ P ∧ P ≤ 4) (hn : 1 ≤ n) (h15 : n ≤ 15) (hr : r ≤ n) : inB (vn (n ^ (P + 1))) (vn n * (gE 1 P r - gE 1 P (r - 1))) := by
  obtain ⟨a, b⟩ := est_in (K := 1) (P := P) (n := n) (r := r) (.inr ⟨rfl, hP⟩) hn h15 hr
  refine ⟨a, Rat.le_trans b ?_⟩
  rw [← gE_diff, gE1, gE1, Nat.pow_succ, Nat.mul_comm, vn_mul]
  have h1 := vn_nonneg n
  have h2 := vn_nonneg ((n - 1) ^ P)
  refine Rat.mul_le_mul_of_nonneg_left ?_ h1
  grind
theorem meansB {P n : Nat} {W : List Nat} (hP : 1 ≤ P ∧ P ≤ 4) (hn : n ≤ 3) (hnW : n ≤ W.length) :
    sumQr (trB P n W) 12 ≤ (vn ((ksB W n).count 1 ^ P) + vn ((n - (ksB W n).count 1) ^ P)) * vn 4096 ∧
    (vn ((ksB W n).count 1 ^ P) + vn ((n - (ksB W n).count 1) ^ P)) * vn 4096 ≤ sumQr (trB P n W) 12 + vn (max n 1 ^ (P + 1)) * vn (opQr (trB P n W) 12) := by
  have hl := ksB_len hnW
  have hb := ksB_lt (W := W) (n := n)
  have hc := count01 hb
  rw [hl] at hc
  rw [show n - (ksB W n).count 1 = (ksB W n).count 0 by omega]
  have h0 : gE 1 P 0 = 0 := gE_zero (.inr ⟨rfl, hP⟩)
  unfold trB
  generalize ksB W n = ks at *
  cases ks with
  | nil =>
    obtain rfl : n = 0 := by simpa using hl.symm
    show estV 1 P 0 (0, 0) * vn (2 ^ 12) ≤ _ ∧ _ ≤ estV 1 P 0 (0, 0) * vn (2 ^ 12) + _ * vn 0
    have e : estV 1 P 0 (0, 0) = 0 := by
      unfold estV
      rw [show (((0 : Nat) : Int) : Rat) = 0 from rfl]
      grind
    have e0 : vn (0 ^ P) = 0 := by rw [Nat.zero_pow (by omega)]; rfl
    rw [e, List.count_nil, List.count_nil, e0, vn_zero]
    constructor <;> grind
  | cons k ks =>
    rw [List.length_cons] at hl
    have hm := means (m := 2) (f := 12) (k := k) (ks := ks) (s := (0, 0)) (G := gE 1 P) (B := vn (n ^ (P + 1))) hb rfl (fun r hr => by
      rw [hl]
      exact est_inB hP (by omega) (by omega) (by omega))
    try dsimp only at hm
    have e : (fun x : Nat × Nat => estV 1 P n x) = fun s : Nat × Nat => vn (ks.length + 1) * (gE 1 P s.2 - gE 1 P (s.2 - 1)) := by
      funext s
      rw [gE_diff, hl]
      rfl
    have es : ∀ φ : Nat → Rat, sumN 2 φ = φ 1 + φ 0 := fun φ => by
      show 0 + φ 0 + φ 1 = _
      grind
    have e3 : max n 1 = n := by omega
    rw [es] at hm
    try dsimp only at hm
    rw [h0] at hm
    rw [e3, e]
    have e5 : vn (2 ^ 12) = vn 4096 := rfl
    rw [e5] at hm
    have e6 : ∀ a : Rat, a - 0 = a := fun a => by grind
    rw [e6, e6, gE1, gE1] at hm
    exact hm
theorem opB_lt {fin : Nat × Nat → Rat} {ks : List Nat} (h : ks.length ≤ 3) : opQr (playQ fin ks 0 (0, 0)) 12 < 4096 := by
  have e1 : bl 0 = 0 := by decide
  have e2 : bl 1 = 1 := by decide
  have e3 : bl 2 = 2 := by decide
  match ks, h with
  | [], _ => exact Nat.zero_lt_succ _
  | [a], _ =>
    show opQr (belQ 1 (bl 0) 40 fun x => DT.ret (fin (stp a x (0, 0)))) 12 < 4096
    rw [e1]
    exact Nat.zero_lt_succ _
  | [a, b], _ =>
    show opQr (belQ 1 (bl 0) 40 fun x => belQ 2 (bl 1) 40 fun y => DT.ret (fin (stp b y (stp a x (0, 0))))) 12 < 4096
    rw [e1, e2]
    exact Nat.zero_lt_succ _
  | [a, b, c], _ =>
    show opQr (belQ 1 (bl 0) 40 fun x => belQ 2 (bl 1) 40 fun y => belQ 3 (bl 2) 40 fun z => DT.ret (fin (stp c z (stp b y (stp a x (0, 0)))))) 12 < 4096
    rw [e1, e2, e3]
    have e : opQr (belQ 1 0 40 fun x => belQ 2 1 40 fun y => belQ 3 2 40 fun z => DT.ret (fin (stp c z (stp b y (stp a x (0, 0)))))) 12 = 4 := rfl
    rw [e]
    decide
end Go.Proofs.Ytpkfddfkacijoaa
