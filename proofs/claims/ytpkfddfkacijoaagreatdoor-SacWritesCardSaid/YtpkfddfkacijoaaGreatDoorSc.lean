import Derived.Test.YtpkfddfkacijoaaGreatDoorSa
namespace Go.Proofs.YtpkfddfkacijoaaGreatDoor
set_option linter.unusedVariables false
structure SP where
 m : Nat
 d : Nat
 s : Nat
abbrev Cell := Nat × Nat
abbrev SS := List Cell × Nat × Bool
def wth (c : Cell) (s : Nat) : Nat := c.1 * 2 ^ (s * c.2)
def putS (c : Cell) : Cell := if c.1 = 0 then (c.1, 0) else c
def upD (c : Cell) (s : Nat) : DT Cell := (rndD c.1 s).bind fun n => .ret (n, c.2 + 1)
def modeOf (P : SP) (v s : Nat) : Nat → Nat → Nat
 | 0, m => m
 | f + 1, m => if m < P.d ∧ P.m < v / 2 ^ (s * m) then modeOf P v s f (m + 1) else m
def scD (P : SP) (v s : Nat) : DT Cell := (rndD v (s * modeOf P v s P.d 0)).bind fun n => .ret (n, modeOf P v s P.d 0)
def reD (P : SP) (was : Nat) (c : Cell) : DT Cell := (scD P (wth c was) (was + 1)).bind fun c1 => if P.m < c1.1 then upD c1 (was + 1) else .ret c1
def rsD (P : SP) (was : Nat) (i : Int) : List Cell → Nat → Cell → DT (List Cell × Cell)
 | [], _, own => .ret ([], own)
 | c :: cs, k, own => if (k : Int) = i then (scD P (wth own was) (was + 1)).bind fun o => (rsD P was i cs (k + 1) o).bind fun r => .ret (c :: r.1, r.2)
   else (reD P was c).bind fun c1 => (rsD P was i cs (k + 1) own).bind fun r => .ret (putS c1 :: r.1, r.2)
def fitD (P : SP) (i : Nat) : Nat → SS → Cell → DT SS
 | 0, st, c => .ret (st.1, st.2.1, true)
 | f + 1, st, c => if c.1 ≤ P.m then .ret (st.1.set i (putS c), st.2) else
   if c.2 < P.d then (upD c st.2.1).bind fun c1 => fitD P i f st c1 else
   if st.2.1 < P.s then (rsD P st.2.1 i st.1 0 c).bind fun r => fitD P i f (r.1, st.2.1 + 1, st.2.2) r.2 else
   .ret (st.1.set i (putS (P.m, c.2)), st.2.1, true)
def fuelF (P : SP) (s m : Nat) : Nat := (P.s - s) * (P.d + 2) + (P.d - m) + 2
def addD (P : SP) (st : SS) (i n : Nat) : DT SS :=
 (rndD n (st.2.1 * (st.1.getD i (0, 0)).2)).bind fun by' => fitD P i (fuelF P st.2.1 (st.1.getD i (0, 0)).2) st ((st.1.getD i (0, 0)).1 + by', (st.1.getD i (0, 0)).2)
def wvS (c : Cell) (s : Nat) : Rat := vn (wth c s)
theorem wvS_put (c : Cell) (s : Nat) : wvS (putS c) s = wvS c s := by
 unfold wvS putS wth
 split
 ·
  rename_i h; rw [h, Nat.zero_mul, Nat.zero_mul]
 ·
  rfl
theorem mean_map {α : Type} {v : α → Rat} {t : DT α} {c : Rat} {w : α → Rat} (h : ∀ a, v a = w a * c) : t.mean v = t.mean w * c := by
 rw [mean_congr (w := fun a => w a * c) (all_true h), mean_mul]
theorem mean_up (c : Cell) (s : Nat) : (upD c s).mean (fun x => wvS x s) = wvS c s := by
 unfold upD
 rw [mean_bind]
 have h : ∀ n, (DT.ret ((n, c.2 + 1) : Cell)).mean (fun x => wvS x s) = vn n * vn (2 ^ (s * (c.2 + 1))) := fun n => vn_mul _ _
 rw [mean_map h]
 have := mean_rndD c.1 s
 rw [Nat.mul_succ, Nat.pow_add, vn_mul]
 unfold wvS wth
 rw [vn_mul]
 generalize (rndD c.1 s).mean vn = a at *
 grind
theorem mean_sc (P : SP) (v s : Nat) : (scD P v s).mean (fun x => wvS x s) = vn v := by
 unfold scD
 rw [mean_bind]
 generalize modeOf P v s P.d 0 = m
 have h : ∀ n, (DT.ret ((n, m) : Cell)).mean (fun x => wvS x s) = vn n * vn (2 ^ (s * m)) := fun n => vn_mul _ _
 rw [mean_map h]
 exact mean_rndD v (s * m)
theorem mean_re (P : SP) (was : Nat) (c : Cell) : (reD P was c).mean (fun x => wvS x (was + 1)) = wvS c was := by
 unfold reD
 rw [mean_bind]
 have h : ∀ c1 : Cell, (if P.m < c1.1 then upD c1 (was + 1) else .ret c1).mean (fun x => wvS x (was + 1)) = wvS c1 (was + 1) := fun c1 => by
  split
  ·
   exact mean_up _ _
  ·
   rfl
 rw [mean_congr (all_true h)]
 exact mean_sc _ _ _
def wl (l : List Cell) (s j : Nat) : Rat := wvS (l.getD j (0, 0)) s
theorem mean_rs (P : SP) (was : Nat) (i : Int) : ∀ (cs : List Cell) (k : Nat) (own : Cell),
  (∀ j, ((k + j : Nat) : Int) ≠ i → (rsD P was i cs k own).mean (fun r => wl r.1 (was + 1) j) = wl cs was j) ∧
  ((∃ j, j < cs.length ∧ ((k + j : Nat) : Int) = i) → (rsD P was i cs k own).mean (fun r => wvS r.2 (was + 1)) = wvS own was) ∧
  ((∀ j, j < cs.length → ((k + j : Nat) : Int) ≠ i) → (rsD P was i cs k own).all (fun r => r.2 = own)) ∧
  (rsD P was i cs k own).all (fun r => r.1.length = cs.length) := by
 intro cs
 induction cs with
 | nil =>
  intro k own
  refine ⟨fun j _ => ?_, fun ⟨j, hj, _⟩ => absurd hj (by simp), fun _ => rfl, rfl⟩
  unfold rsD DT.mean wl wvS wth
  simp
 | cons c cs ih =>
  intro k own
  unfold rsD
  by_cases hk : (k : Int) = i
  ·
   rw [if_pos hk]
   have hne : ∀ j, j < cs.length → ((k + 1 + j : Nat) : Int) ≠ i := fun j _ => by omega
   have hown : ∀ o, (rsD P was i cs (k + 1) o).all (fun r => r.2 = o) := fun o => (ih (k + 1) o).2.2.1 hne
   refine ⟨fun j hj => ?_, fun _ => ?_, fun h => absurd hk (h 0 (by simp)), ?_⟩
   ·
    cases j with
    | zero => exact absurd hk (by simpa using hj)
    | succ j =>
     rw [mean_bind]
     have h : ∀ o, ((rsD P was i cs (k + 1) o).bind fun r => DT.ret ((c :: r.1, r.2) : List Cell × Cell)).mean (fun r => wl r.1 (was + 1) (j + 1)) = wl cs was j := fun o => by
      rw [mean_bind]
      exact (ih (k + 1) o).1 j (by omega)
     rw [mean_congr (all_true h), mean_const]
     rfl
   ·
    rw [mean_bind]
    have h : ∀ o, ((rsD P was i cs (k + 1) o).bind fun r => DT.ret ((c :: r.1, r.2) : List Cell × Cell)).mean (fun r => wvS r.2 (was + 1)) = wvS o (was + 1) := fun o => by
     rw [mean_bind]
     have h2 : (rsD P was i cs (k + 1) o).all (fun r => (DT.ret ((c :: r.1, r.2) : List Cell × Cell)).mean (fun r => wvS r.2 (was + 1)) = wvS o (was + 1)) := all_mono (fun r e => by
      show wvS r.2 (was + 1) = _
      rw [e]) (hown o)
     rw [mean_congr h2, mean_const]
    rw [mean_congr (all_true h)]
    exact mean_sc _ _ _
   ·
    rw [all_bind]
    refine all_true fun o => ?_
    rw [all_bind]
    refine all_mono (fun r e => ?_) (ih (k + 1) o).2.2.2
    show (c :: r.1).length = _
    simp [e]
  ·
   rw [if_neg hk]
   refine ⟨fun j hj => ?_, fun ⟨j, hj, e⟩ => ?_, fun h => ?_, ?_⟩
   ·
    cases j with
    | zero =>
     rw [mean_bind]
     have h : ∀ c1, ((rsD P was i cs (k + 1) own).bind fun r => DT.ret ((putS c1 :: r.1, r.2) : List Cell × Cell)).mean (fun r => wl r.1 (was + 1) 0) = wvS c1 (was + 1) := fun c1 => by
      rw [mean_bind]
      have h2 : ∀ r : List Cell × Cell, (DT.ret ((putS c1 :: r.1, r.2) : List Cell × Cell)).mean (fun r => wl r.1 (was + 1) 0) = wvS c1 (was + 1) := fun r => wvS_put _ _
      rw [mean_congr (all_true h2), mean_const]
     rw [mean_congr (all_true h)]
     exact mean_re _ _ _
    | succ j =>
     rw [mean_bind]
     have h : ∀ c1, ((rsD P was i cs (k + 1) own).bind fun r => DT.ret ((putS c1 :: r.1, r.2) : List Cell × Cell)).mean (fun r => wl r.1 (was + 1) (j + 1)) = wl cs was j := fun c1 => by
      rw [mean_bind]
      exact (ih (k + 1) own).1 j (by omega)
     rw [mean_congr (all_true h), mean_const]
     rfl
   ·
    cases j with
    | zero => exact absurd (by simpa using e) hk
    | succ j =>
     rw [mean_bind]
     have h : ∀ c1, ((rsD P was i cs (k + 1) own).bind fun r => DT.ret ((putS c1 :: r.1, r.2) : List Cell × Cell)).mean (fun r => wvS r.2 (was + 1)) = wvS own was := fun c1 => by
      rw [mean_bind]
      exact (ih (k + 1) own).2.1 ⟨j, by simpa using hj, by omega⟩
     rw [mean_congr (all_true h), mean_const]
   ·
    rw [all_bind]
    refine all_true fun c1 => ?_
    rw [all_bind]
    refine all_mono (fun r e => e) ((ih (k + 1) own).2.2.1 fun j hj => ?_)
    have := h (j + 1) (by simpa using hj)
    omega
   ·
    rw [all_bind]
    refine all_true fun o => ?_
    rw [all_bind]
    refine all_mono (fun r e => ?_) (ih (k + 1) own).2.2.2
    show (putS o :: r.1).length = _
    simp [e]
end Go.Proofs.YtpkfddfkacijoaaGreatDoor
