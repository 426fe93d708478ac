import Derived.Test.YtpkfddfkacijoaaSa
namespace Go.Proofs.Ytpkfddfkacijoaa
set_option linter.unusedVariables false
theorem ratR_run {L : List Bool} {k : Nat} : ∀ {f r p F : Nat}, f ≤ k → r ≠ 0 → r < 2 ^ k → 2 ^ (k - f) ∣ r → p ≤ L.length → L.length + 1 - p ≤ F →
    ratR L (2 ^ k) F r p = match (ratD (2 ^ k) f r).run L p with | some (b, q) => (b, 0, q, false) | none => (false, 8, L.length, true) := by
  intro f
  induction f with
  | zero =>
    intro r p F _ h0 h1 h2
    exact absurd (Nat.eq_zero_of_dvd_of_lt h2 (by simpa using h1)) h0
  | succ f ih =>
    intro r p F hk h0 h1 h2 hp hF
    obtain ⟨F, rfl⟩ : ∃ G, F = G + 1 := ⟨F - 1, by omega⟩
    have h3 := half_lt hk h2
    have hdk : 2 ^ (k - f) ∣ 2 ^ k := Nat.pow_dvd_pow 2 (by omega)
    rw [ratR_succ]
    unfold ratD
    generalize hD : 2 ^ k = D at *
    by_cases hge : D ≤ r + r
    · rw [if_pos hge, if_pos hge, run_ask]
      simp only [decide_eq_true hge]
      by_cases hpl : p < L.length
      · rw [if_pos hpl, if_pos hpl]
        cases hb : L.getD p false with
        | true =>
          by_cases hz : r + r - D = 0
          · rw [if_neg (by simp [hz]), if_pos rfl, if_pos hz]
            rfl
          · rw [if_pos ⟨rfl, hz⟩, if_pos rfl, if_neg hz]
            exact ih (by omega) hz (by omega) (Nat.dvd_sub h3 hdk) (by omega) (by omega)
        | false =>
          rw [if_neg (by simp), if_neg (by simp)]
          rfl
      · rw [if_neg hpl, if_neg hpl]
    · rw [if_neg hge, if_neg hge, run_ask]
      simp only [decide_eq_false hge]
      have hz : r + r ≠ 0 := by omega
      by_cases hpl : p < L.length
      · rw [if_pos hpl, if_pos hpl]
        cases hb : L.getD p false with
        | true =>
          rw [if_neg (by simp), if_pos rfl]
          rfl
        | false =>
          rw [if_pos ⟨rfl, hz⟩, if_neg (by simp), if_neg hz]
          exact ih (by omega) hz (by omega) h3 (by omega) (by omega)
      · rw [if_neg hpl, if_neg hpl]
theorem rndX_run {L : List Bool} {n k p : Nat} (hp : p ≤ L.length) : rndX L n (2 ^ k) p = match (rndD n k).run L p with | some (a, q) => ((a : Int), 0, q, false) | none => (0, 8, L.length, true) := by
  have hpos : 0 < 2 ^ k := Nat.pow_pos (by decide)
  have hlt := Nat.mod_lt n hpos
  unfold rndX rndD ratX
  rw [if_neg (by omega)]
  by_cases hz : n % 2 ^ k = 0
  · rw [if_pos hz, if_pos hz]
    simp [DT.run]
  · rw [if_neg hz, if_neg hz, if_neg (by omega)]
    have h := ratR_run (L := L) (k := k) (f := k) (r := n % 2 ^ k) (p := p) (F := L.length + 1 - p) (Nat.le_refl k) hz hlt (by rw [Nat.sub_self]; exact Nat.one_dvd _) hp (Nat.le_refl _)
    rw [h, run_bind]
    cases hr : (ratD (2 ^ k) k (n % 2 ^ k)).run L p with
    | none => simp
    | some x =>
      obtain ⟨b, q⟩ := x
      cases b <;> simp [bit, DT.run]
theorem ratD_end {L : List Bool} {D k r : Nat} : (ratD D (k + 1) r).run L L.length = none := by
  unfold ratD
  split
  · rw [run_ask, if_neg (Nat.lt_irrefl _)]
  · rw [run_ask, if_neg (Nat.lt_irrefl _)]
theorem rndD_end {L : List Bool} {n k : Nat} : (rndD n k).run L L.length = if n % 2 ^ k = 0 then some (n / 2 ^ k, L.length) else none := by
  unfold rndD
  have hpos : 0 < 2 ^ k := Nat.pow_pos (by decide)
  have hlt := Nat.mod_lt n hpos
  by_cases hz : n % 2 ^ k = 0
  · rw [if_pos hz, if_pos hz]
    rfl
  · rw [if_neg hz, if_neg hz, run_bind]
    cases k with
    | zero => omega
    | succ k => rw [ratD_end]
end Go.Proofs.Ytpkfddfkacijoaa
