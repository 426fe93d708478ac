import Derived.Test.YtpkfddfkacijoaaSp
namespace Go.Proofs.Ytpkfddfkacijoaa
set_option linter.unusedSimpArgs false
set_option linter.unusedVariables false
theorem lvD_all {P : SP} (hP : PB P) : ∀ (k : Nat) (st : SS), SOk P st → st.2.1 + k ≤ P.s → (lvD P k st).all (fun r => SOk P r ∧ r.1.length = st.1.length ∧ r.2.1 = st.2.1 + k ∧ r.2.2 = st.2.2) := by
  intro k
  induction k with
  | zero => intro st h _; exact ⟨h, rfl, rfl, rfl⟩
  | succ k ih =>
    intro st h hk
    unfold lvD
    rw [all_bind]
    refine all_mono (fun r hr => ?_) (all_and (rsD_all hP h.s1 (-1 : Int) st.1 0 (0, 0) h.c (fun h => absurd h (by decide))) (mean_rs P st.2.1 (-1 : Int) st.1 0 (0, 0)).2.2.2)
    obtain ⟨⟨h1, -⟩, h2⟩ := hr
    have h3 := h.s1
    refine all_mono (fun q hq => ?_) (ih (r.1, st.2.1 + 1, st.2.2) ⟨h1, by dsimp only; omega, by dsimp only; omega, fun hf => by have := h.f hf; omega⟩ (by dsimp only; omega))
    obtain ⟨q1, q2, q3, q4⟩ := hq
    dsimp only at q2 q3 q4
    exact ⟨q1, by omega, by omega, q4⟩
theorem togD_all {P : SP} (hP : PW P) {x y : SS} {i : Nat} (hx : SOk P x) (hy : SOk P y) : (togD x y i).all (fun c => c.1 ≤ 16777216 ∧ c.2 ≤ P.d) := by
  have h1 := getD_ok hx.c i
  have h2 := getD_ok hy.c i
  have hd := hP.d3
  have hm := hP.m255
  have hs := hP.s4
  have hxs := hx.s2
  unfold togD
  generalize x.1.getD i (0, 0) = c1 at *
  generalize y.1.getD i (0, 0) = c2 at *
  obtain ⟨a1, a2, -⟩ := h1
  obtain ⟨b1, b2, -⟩ := h2
  have w1 := wth_le (c := c1) (s := x.2.1) (A := 255) (by omega) (by omega) (by omega)
  have w2 := wth_le (c := c2) (s := x.2.1) (A := 255) (by omega) (by omega) (by omega)
  have le := fun (n k : Nat) => Nat.div_le_self n (2 ^ k)
  rw [all_bind]
  refine all_mono (fun a ha => ?_) (rndD_all _ _)
  rw [all_bind]
  refine all_mono (fun b hb => ?_) (rndD_all _ _)
  have l1 := le (wth c1 x.2.1) (x.2.1 * max c1.2 c2.2)
  have l2 := le (wth c2 x.2.1) (x.2.1 * max c1.2 c2.2)
  have ha1 := ha.1
  have hb1 := hb.1
  generalize wth c1 x.2.1 / 2 ^ (x.2.1 * max c1.2 c2.2) = u1 at *
  generalize wth c2 x.2.1 / 2 ^ (x.2.1 * max c1.2 c2.2) = u2 at *
  exact ⟨show a + b ≤ _ by omega, show max c1.2 c2.2 ≤ _ by omega⟩
theorem mg_run {P : SP} {L : List Bool} {k i p : Nat} {x y : SS} : (mgD P (k + 1) i x y).run L p = match (lvD P (x.2.1 - y.2.1) y).run L p with
    | some (y1, q) => (match (togD x y1 i).run L q with
      | some (c, q2) => (match (fitD P i (fuelF P x.2.1 c.2) x c).run L q2 with | some (x1, q3) => (mgD P k (i + 1) x1 y1).run L q3 | none => none)
      | none => none)
    | none => none := by
  rw [mgD.eq_2, run_bind]
  cases (lvD P (x.2.1 - y.2.1) y).run L p with
  | none => rfl
  | some r =>
    dsimp only
    rw [run_bind]
    cases (togD x r.1 i).run L r.2 with
    | none => rfl
    | some s =>
      dsimp only
      rw [run_bind]
      cases (fitD P i (fuelF P x.2.1 s.1.2) x s.1).run L s.2 with
      | none => rfl
      | some t => rfl
theorem merge_run {P : SP} {L : List Bool} {p : Nat} {x y : SS} : (mergeD P x y).run L p = match (lvD P (y.2.1 - x.2.1) x).run L p with | some (x1, q) => (mgD P x.1.length 0 x1 y).run L q | none => none := by
  unfold mergeD
  rw [run_bind]
  cases (lvD P (y.2.1 - x.2.1) x).run L p with
  | none => rfl
  | some r => rfl
def mergeR (M D S : Nat) (L : List Bool) (d : Bool) (x y : SS) (p : Nat) : SS × Int × Nat × Bool := outG x L d ((mergeD (SPof M D S) x y).run L p)
end Go.Proofs.Ytpkfddfkacijoaa
