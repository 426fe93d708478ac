import Derived.Test.YtdmdmdoeahhkiaaGreatDoorSc
namespace Go.Proofs.YtdmdmdoeahhkiaaGreatDoor
set_option linter.unusedVariables false
theorem all_false {α : Type} : ∀ {t : DT α}, ¬ t.all (fun _ => False)
  | .ret a, h => h
  | .ask f g, h => all_false h.1
def nf (r : SS) : Prop := r.2.2 = false
theorem wl_set {l : List Cell} {i : Nat} {c : Cell} {s j : Nat} (hi : i < l.length) : wl (l.set i c) s j = if j = i then wvS c s else wl l s j := by
  unfold wl
  by_cases h : j = i
  · subst h
    rw [if_pos rfl]
    simp [List.getD_eq_getElem?_getD, hi]
  · rw [if_neg h]
    simp only [List.getD_eq_getElem?_getD]
    rw [List.getElem?_set_ne (fun e => h e.symm)]
theorem mean_fit (P : SP) (i : Nat) : ∀ (f : Nat) (st : SS) (c : Cell), i < st.1.length → (fitD P i f st c).all nf → ∀ j, (fitD P i f st c).mean (fun r => wl r.1 r.2.1 j) = if j = i then wvS c st.2.1 else wl st.1 st.2.1 j := by
  intro f
  induction f with
  | zero => intro st c _ h; exact absurd (show true = false from h) (by decide)
  | succ f ih =>
    intro st c hi h j
    unfold fitD at h ⊢
    by_cases h1 : c.1 ≤ P.m
    · rw [if_pos h1] at h ⊢
      show wl (st.1.set i (putS c)) st.2.1 j = _
      rw [wl_set hi, wvS_put]
    · rw [if_neg h1] at h ⊢
      by_cases h2 : c.2 < P.d
      · rw [if_pos h2] at h ⊢
        rw [all_bind] at h
        rw [mean_bind, mean_congr (all_mono (fun c1 hc => ih st c1 hi hc j) h)]
        by_cases hj : j = i
        · simp only [if_pos hj]
          exact mean_up _ _
        · simp only [if_neg hj]
          exact mean_const
      · rw [if_neg h2] at h ⊢
        by_cases h3 : st.2.1 < P.s
        · rw [if_pos h3] at h ⊢
          rw [all_bind] at h
          obtain ⟨m1, m2, -, m3⟩ := mean_rs P st.2.1 i st.1 0 c
          rw [mean_bind, mean_congr (all_mono (fun r hr => ih (r.1, st.2.1 + 1, st.2.2) r.2 (by show i < r.1.length; rw [hr.2]; exact hi) hr.1 j) (all_and h m3))]
          by_cases hj : j = i
          · simp only [if_pos hj]
            exact m2 ⟨i, hi, by omega⟩
          · simp only [if_neg hj]
            exact m1 j (by omega)
        · rw [if_neg h3] at h
          exact absurd (show true = false from h) (by decide)
theorem len_fit (P : SP) (i : Nat) : ∀ (f : Nat) (st : SS) (c : Cell), (fitD P i f st c).all (fun r => r.1.length = st.1.length ∧ (st.2.2 = true → r.2.2 = true)) := by
  intro f
  induction f with
  | zero => intro st c; exact ⟨rfl, fun _ => rfl⟩
  | succ f ih =>
    intro st c
    unfold fitD
    split
    · exact ⟨List.length_set, fun h => h⟩
    · split
      · rw [all_bind]; exact all_true fun c1 => ih st c1
      · split
        · rw [all_bind]
          refine all_mono (fun r hr => all_mono (fun q hq => ⟨hq.1.trans hr, hq.2⟩) (ih (r.1, st.2.1 + 1, st.2.2) r.2)) (mean_rs P st.2.1 i st.1 0 c).2.2.2
        · exact ⟨List.length_set, fun _ => rfl⟩
theorem len_add (P : SP) (st : SS) (i n : Nat) : (addD P st i n).all (fun r => r.1.length = st.1.length ∧ (st.2.2 = true → r.2.2 = true)) := by
  unfold addD
  rw [all_bind]
  exact all_true fun a => len_fit P i _ st _
theorem wvS_add (a b k s : Nat) : wvS (a + b, k) s = wvS (a, k) s + vn b * vn (2 ^ (s * k)) := by
  unfold wvS wth
  rw [Nat.add_mul, vn_add, ← vn_mul]
theorem mean_addD (P : SP) (st : SS) (i n : Nat) (hi : i < st.1.length) (h : (addD P st i n).all nf) (j : Nat) : (addD P st i n).mean (fun r => wl r.1 r.2.1 j) = wl st.1 st.2.1 j + if j = i then vn n else 0 := by
  unfold addD at h ⊢
  rw [all_bind] at h
  rw [mean_bind, mean_congr (all_mono (fun a ha => mean_fit P i _ st _ hi ha j) h)]
  by_cases hj : j = i
  · subst hj
    simp only [if_true]
    have hw : wl st.1 st.2.1 j = wvS (st.1.getD j (0, 0)) st.2.1 := rfl
    rw [hw]
    generalize st.1.getD j (0, 0) = c0
    have e := mean_rndD n (st.2.1 * c0.2)
    have h2 : ∀ a : Nat, wvS (c0.1 + a, c0.2) st.2.1 = wvS c0 st.2.1 + vn a * vn (2 ^ (st.2.1 * c0.2)) := fun a => wvS_add _ _ _ _
    rw [mean_congr (all_true h2), mean_add, mean_const, mean_mul, e]
  · simp only [if_neg hj]
    rw [mean_const]
    grind
def lvD (P : SP) : Nat → SS → DT SS
  | 0, st => .ret st
  | k + 1, st => (rsD P st.2.1 (-1) st.1 0 (0, 0)).bind fun r => lvD P k (r.1, st.2.1 + 1, st.2.2)
def togD (x y : SS) (i : Nat) : DT Cell :=
  (rndD (wth (x.1.getD i (0, 0)) x.2.1) (x.2.1 * max (x.1.getD i (0, 0)).2 (y.1.getD i (0, 0)).2)).bind fun n =>
  (rndD (wth (y.1.getD i (0, 0)) x.2.1) (x.2.1 * max (x.1.getD i (0, 0)).2 (y.1.getD i (0, 0)).2)).bind fun m => .ret (n + m, max (x.1.getD i (0, 0)).2 (y.1.getD i (0, 0)).2)
def mgD (P : SP) : Nat → Nat → SS → SS → DT SS
  | 0, _, x, y => .ret (x.1, x.2.1, x.2.2 || y.2.2)
  | k + 1, i, x, y => (lvD P (x.2.1 - y.2.1) y).bind fun y1 => (togD x y1 i).bind fun c => (fitD P i (fuelF P x.2.1 c.2) x c).bind fun x1 => mgD P k (i + 1) x1 y1
def mergeD (P : SP) (x y : SS) : DT SS := (lvD P (y.2.1 - x.2.1) x).bind fun x1 => mgD P x.1.length 0 x1 y
theorem mean_lv (P : SP) (j : Nat) : ∀ (k : Nat) (st : SS), (lvD P k st).mean (fun r => wl r.1 r.2.1 j) = wl st.1 st.2.1 j ∧ (lvD P k st).all (fun r => r.1.length = st.1.length ∧ r.2.1 = st.2.1 + k ∧ r.2.2 = st.2.2) := by
  intro k
  induction k with
  | zero => intro st; exact ⟨rfl, rfl, rfl, rfl⟩
  | succ k ih =>
    intro st
    obtain ⟨m1, -, -, m3⟩ := mean_rs P st.2.1 (-1) st.1 0 (0, 0)
    unfold lvD
    constructor
    · have h2 : ∀ r : List Cell × Cell, (lvD P k (r.1, st.2.1 + 1, st.2.2)).mean (fun r => wl r.1 r.2.1 j) = wl r.1 (st.2.1 + 1) j := fun r => (ih (r.1, st.2.1 + 1, st.2.2)).1
      rw [mean_bind, mean_congr (all_true h2)]
      exact m1 j (by omega)
    · rw [all_bind]
      refine all_mono (fun r hr => all_mono (fun q hq => ⟨hq.1.trans hr, ?_, hq.2.2⟩) (ih (r.1, st.2.1 + 1, st.2.2)).2) m3
      have := hq.2.1
      simp only [] at this
      omega
theorem mean_tog (x y : SS) (i : Nat) : (togD x y i).mean (fun c => wvS c x.2.1) = wl x.1 x.2.1 i + wl y.1 x.2.1 i := by
  unfold togD
  generalize hm : max (x.1.getD i (0, 0)).2 (y.1.getD i (0, 0)).2 = m
  have e1 := mean_rndD (wth (x.1.getD i (0, 0)) x.2.1) (x.2.1 * m)
  have e2 := mean_rndD (wth (y.1.getD i (0, 0)) x.2.1) (x.2.1 * m)
  rw [mean_bind]
  have h : ∀ n : Nat, ((rndD (wth (y.1.getD i (0, 0)) x.2.1) (x.2.1 * m)).bind fun k => DT.ret ((n + k, m) : Cell)).mean (fun c => wvS c x.2.1) = vn n * vn (2 ^ (x.2.1 * m)) + wl y.1 x.2.1 i := fun n => by
    rw [mean_bind]
    have h2 : ∀ k : Nat, (DT.ret ((n + k, m) : Cell)).mean (fun c => wvS c x.2.1) = vn n * vn (2 ^ (x.2.1 * m)) + vn k * vn (2 ^ (x.2.1 * m)) := fun k => by
      show wvS (n + k, m) x.2.1 = _
      rw [wvS_add]
      unfold wvS wth
      rw [vn_mul]
    rw [mean_congr (all_true h2), mean_add, mean_const, mean_mul, e2]
    rfl
  rw [mean_congr (all_true h), mean_add, mean_mul, mean_const, e1]
  rfl
theorem sticky_mg (P : SP) : ∀ (k i : Nat) (x y : SS), x.2.2 = true → (mgD P k i x y).all (fun r => r.2.2 = true) := by
  intro k
  induction k with
  | zero => intro i x y h; show (x.2.2 || y.2.2) = true; rw [h]; rfl
  | succ k ih =>
    intro i x y h
    unfold mgD
    rw [all_bind]
    refine all_true fun y1 => ?_
    rw [all_bind]
    refine all_true fun c => ?_
    rw [all_bind]
    exact all_mono (fun x1 h1 => ih (i + 1) x1 y1 (h1.2 h)) (len_fit P i _ x c)
theorem nf_mg {P : SP} {k i : Nat} {x y : SS} (h : (mgD P k i x y).all nf) : nf x := by
  cases e : x.2.2 with
  | false => exact e
  | true =>
    have h2 := all_and h (sticky_mg P k i x y e)
    exact absurd (all_mono (fun r hr => by
      have h3 : r.2.2 = false := hr.1
      rw [hr.2] at h3
      exact absurd h3 (by decide)) h2) all_false
theorem mean_mg (P : SP) : ∀ (k i : Nat) (x y : SS), i + k ≤ x.1.length → y.1.length = x.1.length → y.2.1 ≤ x.2.1 → (mgD P k i x y).all nf → ∀ j, (mgD P k i x y).mean (fun r => wl r.1 r.2.1 j) = wl x.1 x.2.1 j + if i ≤ j ∧ j < i + k then wl y.1 y.2.1 j else 0 := by
  intro k
  induction k with
  | zero =>
    intro i x y _ _ _ _ j
    rw [if_neg (by omega)]
    show wl x.1 x.2.1 j = _
    grind
  | succ k ih =>
    intro i x y hi hy hs h j
    unfold mgD at h ⊢
    rw [all_bind] at h
    rw [mean_bind]
    have hl := (mean_lv P j (x.2.1 - y.2.1) y).2
    have key : (lvD P (x.2.1 - y.2.1) y).all fun y1 => ((togD x y1 i).bind fun c => (fitD P i (fuelF P x.2.1 c.2) x c).bind fun x1 => mgD P k (i + 1) x1 y1).mean (fun r => wl r.1 r.2.1 j) = wl x.1 x.2.1 j + if i ≤ j ∧ j < i + (k + 1) then wl y1.1 y1.2.1 j else 0 := by
      refine all_mono (fun y1 hh => ?_) (all_and h hl)
      obtain ⟨h, hl1, hl2, hl3⟩ := hh
      have hsx : y1.2.1 = x.2.1 := by omega
      rw [all_bind] at h
      rw [mean_bind]
      have key2 : (togD x y1 i).all fun c => ((fitD P i (fuelF P x.2.1 c.2) x c).bind fun x1 => mgD P k (i + 1) x1 y1).mean (fun r => wl r.1 r.2.1 j) = (if j = i then wvS c x.2.1 else wl x.1 x.2.1 j) + if i + 1 ≤ j ∧ j < i + 1 + k then wl y1.1 y1.2.1 j else 0 := by
        refine all_mono (fun c h => ?_) h
        rw [all_bind] at h
        rw [mean_bind]
        have hfit : (fitD P i (fuelF P x.2.1 c.2) x c).all nf := all_mono (fun x1 h1 => nf_mg h1) h
        have hsc : (fitD P i (fuelF P x.2.1 c.2) x c).all (fun x1 => x.2.1 ≤ x1.2.1) := by
          have gen : ∀ (f : Nat) (st : SS) (c : Cell), (fitD P i f st c).all (fun r => st.2.1 ≤ r.2.1) := by
            intro f
            induction f with
            | zero => intro st c; exact Nat.le_refl _
            | succ f ih =>
              intro st c
              unfold fitD
              split
              · exact Nat.le_refl _
              · split
                · rw [all_bind]; exact all_true fun c1 => ih st c1
                · split
                  · rw [all_bind]
                    refine all_true fun (r : List Cell × Cell) => all_mono (fun (q : SS) hq => ?_) (ih (r.1, st.2.1 + 1, st.2.2) r.2)
                    simp only [] at hq
                    omega
                  · exact Nat.le_refl _
          exact gen _ _ _
        have hm := all_mono (fun x1 hh => ih (i + 1) x1 y1 (by rw [hh.2.1.1]; omega) (by rw [hl1, hh.2.1.1]; exact hy) (by rw [hsx]; exact hh.2.2) hh.1 j) (all_and h (all_and (len_fit P i (fuelF P x.2.1 c.2) x c) hsc))
        rw [mean_congr hm, mean_add, mean_const, mean_fit P i _ x c (by omega) hfit j]
      rw [mean_congr key2, mean_add, mean_const]
      by_cases hj : j = i
      · subst hj
        simp only [if_true]
        rw [mean_tog, if_neg (by omega), if_pos (by omega), hsx]
        grind
      · simp only [if_neg hj]
        rw [mean_const]
        by_cases h1 : i + 1 ≤ j ∧ j < i + 1 + k
        · rw [if_pos h1, if_pos (by omega)]
        · rw [if_neg h1, if_neg (by omega)]
    rw [mean_congr key]
    have hml := (mean_lv P j (x.2.1 - y.2.1) y).1
    by_cases h1 : i ≤ j ∧ j < i + (k + 1)
    · simp only [if_pos h1]
      rw [mean_add, mean_const, hml]
    · simp only [if_neg h1]
      rw [mean_const]
theorem mean_merge (P : SP) (x y : SS) (hy : y.1.length = x.1.length) (hs : y.2.1 = x.2.1) (h : (mergeD P x y).all nf) {j : Nat} (hj : j < x.1.length) : (mergeD P x y).mean (fun r => wl r.1 r.2.1 j) = wl x.1 x.2.1 j + wl y.1 y.2.1 j := by
  unfold mergeD at *
  have e : y.2.1 - x.2.1 = 0 := by omega
  rw [e] at h ⊢
  have h2 := mean_mg P x.1.length 0 x y (by omega) hy (by omega) h j
  rw [if_pos ⟨by omega, by omega⟩] at h2
  exact h2
end Go.Proofs.YtdmdmdoeahhkiaaGreatDoor
