import Derived.Test.YtdmdmdoeahhkiaaGreatDoorSn
namespace Go.Proofs.YtdmdmdoeahhkiaaGreatDoor
set_option linter.unusedSimpArgs false
set_option linter.unusedVariables false
theorem all_sub {α : Type} {q : α → Prop} : ∀ {L : List Bool} {t : DT α}, t.all q → (t.sub L).all q := by
  intro L
  induction L with
  | nil => intro t h; exact h
  | cons b L ih =>
    intro t h
    cases t with
    | ret a => exact h
    | ask f g =>
      cases b with
      | false => exact ih h.1
      | true => exact ih h.2
def acD (P : SP) (x y z : Nat) : Nat → DT SS
  | 0 => .ret ([(0, 0), (0, 0)], 1, false)
  | 1 => addD P ([(0, 0), (0, 0)], 1, false) 0 x
  | 2 => (addD P ([(0, 0), (0, 0)], 1, false) 0 x).bind fun a => addD P a 1 y
  | _ => ((addD P ([(0, 0), (0, 0)], 1, false) 0 x).bind fun a => addD P a 1 y).bind fun b => addD P b 0 z
theorem acD_next {P : SP} {x y z p q : Nat} {L : List Bool} {st : SS} {i : Nat} (hi : i < 3) (h : (acD P x y z i).run L p = some (st, q)) : (acD P x y z (i + 1)).run L p = (addD P st (if i = 1 then 1 else 0) (if i = 0 then x else if i = 1 then y else z)).run L q := by
  match i, hi with
  | 0, _ =>
    obtain ⟨rfl, rfl⟩ : ([(0, 0), (0, 0)], 1, false) = st ∧ p = q := by
      have h : some ((([(0, 0), (0, 0)], 1, false) : SS), p) = some (st, q) := h
      simpa using h
    rfl
  | 1, _ =>
    show ((addD P ([(0, 0), (0, 0)], 1, false) 0 x).bind fun a => addD P a 1 y).run L p = _
    rw [run_bind, show (addD P ([(0, 0), (0, 0)], 1, false) 0 x).run L p = some (st, q) from h]
    rfl
  | 2, _ =>
    show (((addD P ([(0, 0), (0, 0)], 1, false) 0 x).bind fun a => addD P a 1 y).bind fun b => addD P b 0 z).run L p = _
    rw [run_bind, show ((addD P ([(0, 0), (0, 0)], 1, false) 0 x).bind fun a => addD P a 1 y).run L p = some (st, q) from h]
    rfl
theorem acD_last {P : SP} {x y z p : Nat} {L : List Bool} : (actsD P x y z).run L p = match (acD P x y z 3).run L p with | some (c, q) => (mergeD P c c).run L q | none => none := by
  show ((addD P ([(0, 0), (0, 0)], 1, false) 0 x).bind fun a => (addD P a 1 y).bind fun b => (addD P b 0 z).bind fun c => mergeD P c c).run L p = match (((addD P ([(0, 0), (0, 0)], 1, false) 0 x).bind fun a => addD P a 1 y).bind fun b => addD P b 0 z).run L p with | some (c, q) => (mergeD P c c).run L q | none => none
  rw [run_bind, run_bind, run_bind]
  cases (addD P ([(0, 0), (0, 0)], 1, false) 0 x).run L p with
  | none => rfl
  | some r =>
    dsimp only
    rw [run_bind]
    cases (addD P r.1 1 y).run L r.2 with
    | none => rfl
    | some r =>
      dsimp only
      rw [run_bind]
      cases (addD P r.1 0 z).run L r.2 with
      | none => rfl
      | some r => rfl
theorem acD_none {P : SP} {x y z p : Nat} {L : List Bool} {i : Nat} (hi : i ≤ 3) (h : (acD P x y z i).run L p = none) : (actsD P x y z).run L p = none := by
  have step : ∀ i, i < 3 → (acD P x y z i).run L p = none → (acD P x y z (i + 1)).run L p = none := by
    intro i hi h
    match i, hi with
    | 0, _ => exact absurd h (by show ¬ (some _ = none); simp)
    | 1, _ =>
      show ((addD P ([(0, 0), (0, 0)], 1, false) 0 x).bind fun a => addD P a 1 y).run L p = _
      rw [run_bind, show (addD P ([(0, 0), (0, 0)], 1, false) 0 x).run L p = none from h]
    | 2, _ =>
      show (((addD P ([(0, 0), (0, 0)], 1, false) 0 x).bind fun a => addD P a 1 y).bind fun b => addD P b 0 z).run L p = _
      rw [run_bind, show ((addD P ([(0, 0), (0, 0)], 1, false) 0 x).bind fun a => addD P a 1 y).run L p = none from h]
  have h3 : (acD P x y z 3).run L p = none := by
    match i, hi with
    | 0, _ => exact step 2 (by decide) (step 1 (by decide) (step 0 (by decide) h))
    | 1, _ => exact step 2 (by decide) (step 1 (by decide) h)
    | 2, _ => exact step 2 (by decide) h
    | 3, _ => exact h
  rw [acD_last, h3]
theorem ok00 {P : SP} (h : PB P) : SOk P ([(0, 0), (0, 0)], 1, false) := ⟨fun c hc => by
  simp only [List.mem_cons, List.not_mem_nil, or_false, or_self] at hc
  rw [hc]
  exact ⟨Nat.zero_le _, Nat.zero_le _, fun _ => rfl⟩, Nat.le_refl _, h.s1, fun h => by cases h⟩
theorem acD_all {P : SP} (hP : PB P) {x y z : Nat} : ∀ i, i ≤ 3 → (acD P x y z i).all (fun r => SOk P r ∧ r.1.length = 2) := by
  have s0 := ok00 hP
  have ad : ∀ (st : SS) (i n : Nat), SOk P st ∧ st.1.length = 2 → (addD P st i n).all (fun r => SOk P r ∧ r.1.length = 2) := fun st i n h => all_mono (fun r hr => ⟨hr.1.1, hr.2.1.trans h.2⟩) (all_and (addD_all hP st i n h.1) (len_add P st i n))
  intro i hi
  match i, hi with
  | 0, _ => exact ⟨s0, rfl⟩
  | 1, _ => exact ad _ 0 x ⟨s0, rfl⟩
  | 2, _ =>
    show ((addD P ([(0, 0), (0, 0)], 1, false) 0 x).bind fun a => addD P a 1 y).all _
    rw [all_bind]
    exact all_mono (fun r hr => ad r 1 y hr) (ad _ 0 x ⟨s0, rfl⟩)
  | 3, _ =>
    show (((addD P ([(0, 0), (0, 0)], 1, false) 0 x).bind fun a => addD P a 1 y).bind fun b => addD P b 0 z).all _
    rw [all_bind, all_bind]
    exact all_mono (fun r hr => all_mono (fun q hq => ad q 0 z hq) (ad r 1 y hr)) (ad _ 0 x ⟨s0, rfl⟩)
def valS (j : Nat) (r : SS) : Nat := wth (r.1.getD j (0, 0)) r.2.1
theorem actsD_all {P : SP} (hP : PW P) {x y z : Nat} : (actsD P x y z).all (fun r => r.1.length = 2 ∧ (∀ c ∈ r.1, COk P c) ∧ 1 ≤ r.2.1 ∧ r.2.1 ≤ P.s) := by
  have h := acD_all hP.toPB (x := x) (y := y) (z := z) 3 (Nat.le_refl _)
  have e : (actsD P x y z).all (fun r => r.1.length = 2 ∧ (∀ c ∈ r.1, COk P c) ∧ 1 ≤ r.2.1 ∧ r.2.1 ≤ P.s) ↔ (acD P x y z 3).all (fun c => (mergeD P c c).all (fun r => r.1.length = 2 ∧ (∀ c ∈ r.1, COk P c) ∧ 1 ≤ r.2.1 ∧ r.2.1 ≤ P.s)) := by
    show ((addD P ([(0, 0), (0, 0)], 1, false) 0 x).bind fun a => (addD P a 1 y).bind fun b => (addD P b 0 z).bind fun c => mergeD P c c).all _ ↔ (((addD P ([(0, 0), (0, 0)], 1, false) 0 x).bind fun a => addD P a 1 y).bind fun b => addD P b 0 z).all _
    simp only [all_bind]
  rw [e]
  refine all_mono (fun c hc => ?_) h
  unfold mergeD
  rw [all_bind]
  have hs2 := hc.1.s2
  refine all_mono (fun x1 h1 => ?_) (lvD_all hP.toPB (c.2.1 - c.2.1) c hc.1 (by omega))
  refine all_mono (fun r hr => ⟨?_, hr.2⟩) (mgD_all hP c.1.length 0 x1 c h1.1 hc.1)
  rw [hr.1, h1.2.1, hc.2]
def mTr (t : DT SS) (f : Nat) (s : Bool × Bool × Nat × Nat) : Bool × Bool × Nat × Nat := (s.1 || wkO t f, s.2.1 || wkA (fun r => r.2.2) t f, s.2.2.1 + wkS (valS 0) t f, s.2.2.2 + wkS (valS 1) t f)
theorem mTr_ask0 {g h : DT SS} {s : Bool × Bool × Nat × Nat} : mTr (.ask g h) 0 s = (true, s.2) := by
  unfold mTr wkO wkA wkS
  simp
theorem mTr_ask {g h : DT SS} {f : Nat} {s : Bool × Bool × Nat × Nat} : mTr (.ask g h) (f + 1) s = mTr h f (mTr g f s) := by
  unfold mTr
  simp only [wkO, wkA, wkS, Bool.or_assoc, Nat.add_assoc]
theorem mTr_ret {a : SS} {f : Nat} {s : Bool × Bool × Nat × Nat} : mTr (.ret a) f s = (s.1, s.2.1 || a.2.2, s.2.2.1 + valS 0 a * 2 ^ f, s.2.2.2 + valS 1 a * 2 ^ f) := by
  unfold mTr wkO wkA wkS
  simp
theorem mTr_le {t : DT SS} {f B C : Nat} {s : Bool × Bool × Nat × Nat} (h : t.all (fun r => valS 0 r ≤ B ∧ valS 1 r ≤ B)) (h1 : s.2.2.1 ≤ C) (h2 : s.2.2.2 ≤ C) : (mTr t f s).2.2.1 ≤ C + B * 2 ^ f ∧ (mTr t f s).2.2.2 ≤ C + B * 2 ^ f := by
  have a1 := wkS_le (val := valS 0) (B := B) (f := f) (all_mono (fun r hr => hr.1) h)
  have a2 := wkS_le (val := valS 1) (B := B) (f := f) (all_mono (fun r hr => hr.2) h)
  unfold mTr
  dsimp only
  generalize B * 2 ^ f = u at *
  omega
theorem vn_inj {a b : Nat} (h : vn a = vn b) : a = b := by
  have h1 : ((a : Int) : Rat) = ((b : Int) : Rat) := h
  have := Rat.intCast_inj.1 h1
  omega
theorem means_end {P : SP} {x y z : Nat} (h1 : (mTr (actsD P x y z) 11 (false, false, 0, 0)).1 = false) (h2 : (mTr (actsD P x y z) 11 (false, false, 0, 0)).2.1 = false) :
    (mTr (actsD P x y z) 11 (false, false, 0, 0)).2.2.1 = 2 * (x + z) * 2048 ∧ (mTr (actsD P x y z) 11 (false, false, 0, 0)).2.2.2 = 2 * y * 2048 := by
  unfold mTr at h1 h2 ⊢
  simp only [Bool.false_or, Nat.zero_add] at h1 h2 ⊢
  have hnf : (actsD P x y z).all nf := wk_all h1 h2
  obtain ⟨m1, m2⟩ := mean_acts P x y z hnf
  have k1 := wk_mean (val := valS 0) h1
  have k2 := wk_mean (val := valS 1) h1
  have e1 : (actsD P x y z).mean (fun a => vn (valS 0 a)) = 2 * (vn x + vn z) := m1
  have e2 : (actsD P x y z).mean (fun a => vn (valS 1 a)) = 2 * vn y := m2
  rw [e1] at k1
  rw [e2] at k2
  have v2 : vn 2 = 2 := rfl
  constructor
  · apply vn_inj
    rw [k1, vn_mul, vn_mul, vn_add, v2]
  · apply vn_inj
    rw [k2, vn_mul, vn_mul, v2]
end Go.Proofs.YtdmdmdoeahhkiaaGreatDoor
