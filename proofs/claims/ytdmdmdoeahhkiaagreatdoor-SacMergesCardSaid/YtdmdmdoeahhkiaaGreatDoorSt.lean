import Derived.Test.YtdmdmdoeahhkiaaGreatDoorSr
namespace Go.Proofs.YtdmdmdoeahhkiaaGreatDoor
set_option linter.unusedSimpArgs false
set_option linter.unusedVariables false
def lvR (P : SP) (L : List Bool) : Nat → SS → Nat → Int → SS × Nat × Int
  | 0, st, p, e => (st, p, e)
  | k + 1, st, p, e => if e = 0 then lvR P L k ((rsR P L st.2.1 (-1) st.1 0 (0, 0) p e).1.1, st.2.1 + 1, st.2.2) (rsR P L st.2.1 (-1) st.1 0 (0, 0) p e).2.1 (rsR P L st.2.1 (-1) st.1 0 (0, 0) p e).2.2 else (st, p, e)
theorem lvR_err {P : SP} {L : List Bool} : ∀ {k : Nat} {st : SS} {p : Nat} {e : Int}, e ≠ 0 → lvR P L k st p e = (st, p, e)
  | 0, st, p, e, h => rfl
  | k + 1, st, p, e, h => by rw [lvR.eq_2, if_neg h]
theorem Lk_lv {P : SP} {L : List Bool} : ∀ {k : Nat} {st : SS} {p : Nat}, Lk L ((lvD P k st).run L p) (lvR P L k st p 0) := by
  intro k
  induction k with
  | zero => intro st p; rfl
  | succ k ih =>
    intro st p
    rw [lvR.eq_2, if_pos rfl]
    unfold lvD
    exact Lk_bind (f := fun r q e => lvR P L k (r.1, st.2.1 + 1, st.2.2) q e) (all_true fun _ => trivial) Lk_rs (fun r q _ => ih) (fun r q e h => by rw [lvR_err h])
theorem lvR_g {P : SP} (hP : PW P) {L : List Bool} : ∀ {k : Nat} {st : SS} {p : Nat} {e : Int}, GOk P st e → st.2.1 + k ≤ P.s → GOk P (lvR P L k st p e).1 (lvR P L k st p e).2.2 ∧ (lvR P L k st p e).1.1.length = st.1.length ∧ (e ≠ 0 → (lvR P L k st p e).2.2 ≠ 0) := by
  intro k
  induction k with
  | zero => intro st p e h _; exact ⟨h, rfl, fun h => h⟩
  | succ k ih =>
    intro st p e h hk
    by_cases he : e = 0
    · subst he
      rw [lvR.eq_2, if_pos rfl]
      have hso := h.k rfl
      obtain ⟨a1, a2, a3⟩ := rsR_ok hP (L := L) (w := st.2.1) (i := (-1 : Int)) (cs := st.1) (k := 0) (own := (0, 0)) (p := p) (e := 0) h.s1 h.l (fun _ => hso.c) ⟨Nat.zero_le _, Nat.zero_le _⟩ (fun _ h => absurd h (by decide))
      have hlk := Lk_ok (Lk_rs (P := P) (L := L) (w := st.2.1) (i := (-1 : Int)) (cs := st.1) (k := 0) (own := (0, 0)) (p := p))
      have hall := rsD_all hP.toPB hso.s1 (-1 : Int) st.1 0 (0, 0) hso.c (fun h => absurd h (by decide))
      generalize rsR P L st.2.1 (-1) st.1 0 (0, 0) p 0 = r at *
      have h1 := h.s1
      have hk2 : r.2.2 = 0 → SOk P (r.1.1, st.2.1 + 1, st.2.2) := by
        intro h0
        rcases hlk with h4 | h4
        · have h5 := all_run hall h4.2
          exact ⟨h5.1, by dsimp only; omega, by dsimp only; omega, fun h6 => by have := hso.f h6; omega⟩
        · omega
      obtain ⟨b1, b2, b3⟩ := ih (st := (r.1.1, st.2.1 + 1, st.2.2)) (p := r.2.1) (e := r.2.2) ⟨a1, by dsimp only; omega, by dsimp only; omega, hk2⟩ (by dsimp only; omega)
      exact ⟨b1, b2.trans a2, fun h => absurd rfl h⟩
    · rw [lvR_err he]
      exact ⟨h, rfl, fun h => h⟩
def tgA (L : List Bool) (x y : SS) (i p : Nat) (e : Int) : Nat × Nat × Int := rnR L (wth (x.1.getD i (0, 0)) x.2.1) (x.2.1 * max (x.1.getD i (0, 0)).2 (y.1.getD i (0, 0)).2) p e
def tgB (L : List Bool) (x y : SS) (i p : Nat) (e : Int) : Nat × Nat × Int := rnR L (wth (y.1.getD i (0, 0)) x.2.1) (x.2.1 * max (x.1.getD i (0, 0)).2 (y.1.getD i (0, 0)).2) (tgA L x y i p e).2.1 (tgA L x y i p e).2.2
def tgR (L : List Bool) (x y : SS) (i p : Nat) (e : Int) : Cell × Nat × Int := (((tgA L x y i p e).1 + (tgB L x y i p e).1, max (x.1.getD i (0, 0)).2 (y.1.getD i (0, 0)).2), (tgB L x y i p e).2)
theorem tgR_err {L : List Bool} {x y : SS} {i p : Nat} {e : Int} (h : e ≠ 0) : tgR L x y i p e = ((0, max (x.1.getD i (0, 0)).2 (y.1.getD i (0, 0)).2), p, e) := by
  unfold tgR tgB tgA
  rw [rnR_err h, rnR_err h]
  rfl
theorem Lk_tg {L : List Bool} {x y : SS} {i p : Nat} : Lk L ((togD x y i).run L p) (tgR L x y i p 0) := by
  unfold togD tgR tgB tgA
  refine Lk_bind (f := fun a q e => ((a + (rnR L (wth (y.1.getD i (0, 0)) x.2.1) (x.2.1 * max (x.1.getD i (0, 0)).2 (y.1.getD i (0, 0)).2) q e).1, max (x.1.getD i (0, 0)).2 (y.1.getD i (0, 0)).2), (rnR L (wth (y.1.getD i (0, 0)) x.2.1) (x.2.1 * max (x.1.getD i (0, 0)).2 (y.1.getD i (0, 0)).2) q e).2)) (all_true fun _ => trivial) Lk_rnd (fun a q _ => ?_) (fun a q e h => by dsimp only; rw [rnR_err h])
  exact Lk_bind (f := fun b q e => ((a + b, max (x.1.getD i (0, 0)).2 (y.1.getD i (0, 0)).2), q, e)) (all_true fun _ => trivial) Lk_rnd (fun b q _ => rfl) (fun b q e _ => rfl)
def mgR (P : SP) (L : List Bool) : Nat → Nat → SS → SS → Nat → Int → SS × Nat × Int
  | 0, _, x, y, p, e => ((x.1, x.2.1, x.2.2 || y.2.2), p, e)
  | k + 1, i, x, y, p, e => mgR P L k (i + 1) (mgS P L i x y p e).2.1 (mgS P L i x y p e).1 (mgS P L i x y p e).2.2.1 (mgS P L i x y p e).2.2.2
where
  mgS (P : SP) (L : List Bool) (i : Nat) (x y : SS) (p : Nat) (e : Int) : SS × SS × Nat × Int :=
    ((lvR P L (x.2.1 - y.2.1) y p e).1,
      ftR P L i (fuelF P x.2.1 (tgR L x (lvR P L (x.2.1 - y.2.1) y p e).1 i (lvR P L (x.2.1 - y.2.1) y p e).2.1 (lvR P L (x.2.1 - y.2.1) y p e).2.2).1.2 + 1) x (tgR L x (lvR P L (x.2.1 - y.2.1) y p e).1 i (lvR P L (x.2.1 - y.2.1) y p e).2.1 (lvR P L (x.2.1 - y.2.1) y p e).2.2).1
        (tgR L x (lvR P L (x.2.1 - y.2.1) y p e).1 i (lvR P L (x.2.1 - y.2.1) y p e).2.1 (lvR P L (x.2.1 - y.2.1) y p e).2.2).2.1 (tgR L x (lvR P L (x.2.1 - y.2.1) y p e).1 i (lvR P L (x.2.1 - y.2.1) y p e).2.1 (lvR P L (x.2.1 - y.2.1) y p e).2.2).2.2)
def meR (P : SP) (L : List Bool) (x y : SS) (p : Nat) : SS × Nat × Int := mgR P L x.1.length 0 (lvR P L (y.2.1 - x.2.1) x p 0).1 y (lvR P L (y.2.1 - x.2.1) x p 0).2.1 (lvR P L (y.2.1 - x.2.1) x p 0).2.2
theorem mgR_err {P : SP} {L : List Bool} : ∀ {k i : Nat} {x y : SS} {p : Nat} {e : Int}, e ≠ 0 → (mgR P L k i x y p e).2 = (p, e) := by
  intro k
  induction k with
  | zero => intro i x y p e h; rfl
  | succ k ih =>
    intro i x y p e h
    unfold mgR mgR.mgS
    dsimp only
    rw [lvR_err h]
    dsimp only
    rw [tgR_err h]
    dsimp only
    rw [ft_done h]
    exact ih h
theorem Lk_mg {P : SP} (hP : PW P) {L : List Bool} : ∀ {k i : Nat} {x y : SS} {p : Nat}, SOk P x → SOk P y → Lk L ((mgD P k i x y).run L p) (mgR P L k i x y p 0) := by
  intro k
  induction k with
  | zero => intro i x y p _ _; rfl
  | succ k ih =>
    intro i x y p hx hy
    unfold mgD mgR mgR.mgS
    have e1 := hx.s2
    have e2 := hy.s2
    refine Lk_bind (f := fun y1 q e => mgR P L k (i + 1) (ftR P L i (fuelF P x.2.1 (tgR L x y1 i q e).1.2 + 1) x (tgR L x y1 i q e).1 (tgR L x y1 i q e).2.1 (tgR L x y1 i q e).2.2).1 y1 (ftR P L i (fuelF P x.2.1 (tgR L x y1 i q e).1.2 + 1) x (tgR L x y1 i q e).1 (tgR L x y1 i q e).2.1 (tgR L x y1 i q e).2.2).2.1 (ftR P L i (fuelF P x.2.1 (tgR L x y1 i q e).1.2 + 1) x (tgR L x y1 i q e).1 (tgR L x y1 i q e).2.1 (tgR L x y1 i q e).2.2).2.2) (lvD_all hP.toPB (x.2.1 - y.2.1) y hy (by omega)) Lk_lv (fun y1 q h1 => ?_) (fun y1 q e h => by rw [tgR_err h]; dsimp only; rw [ft_done h]; exact mgR_err h)
    refine Lk_bind (f := fun c q e => mgR P L k (i + 1) (ftR P L i (fuelF P x.2.1 c.2 + 1) x c q e).1 y1 (ftR P L i (fuelF P x.2.1 c.2 + 1) x c q e).2.1 (ftR P L i (fuelF P x.2.1 c.2 + 1) x c q e).2.2) (togD_all hP hx h1.1) Lk_tg (fun c q hc => ?_) (fun c q e h => by rw [ft_done h]; exact mgR_err h)
    exact Lk_bind (f := fun x1 q e => mgR P L k (i + 1) x1 y1 q e) (fitD_all hP.toPB i _ x c hx hc.2 (need_le _ _ _)) (Lk_ft hP hx hc.2 (need_le _ _ _)) (fun x1 q h2 => ih h2.1 h1.1) (fun x1 q e h => mgR_err h)
theorem Lk_me {P : SP} (hP : PW P) {L : List Bool} {x y : SS} {p : Nat} (hx : SOk P x) (hy : SOk P y) : Lk L ((mergeD P x y).run L p) (meR P L x y p) := by
  have e1 := hx.s2
  have e2 := hy.s2
  unfold mergeD meR
  refine Lk_bind (f := fun x1 q e => mgR P L x.1.length 0 x1 y q e) (lvD_all hP.toPB (y.2.1 - x.2.1) x hx (by omega)) Lk_lv (fun x1 q h => ?_) (fun x1 q e h => mgR_err h)
  exact Lk_mg hP h.1 hy
end Go.Proofs.YtdmdmdoeahhkiaaGreatDoor
