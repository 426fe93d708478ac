import Derived.Test.YtpkfddfkacijoaaGreatDoorSn
namespace Go.Proofs.YtpkfddfkacijoaaGreatDoor
set_option linter.unusedSimpArgs false
set_option linter.unusedVariables false
variable {α β : Type}
def Lk (L : List Bool) (o : Option (α × Nat)) (r : α × Nat × Int) : Prop := match o with | some (a, q) => r = (a, q, 0) | none => r.2 = (L.length, 8)
theorem Lk_bind {L : List Bool} {t : DT α} {k : α → DT β} {Q : α → Prop} {f : α → Nat → Int → β × Nat × Int} {r : α × Nat × Int} {p : Nat} (hQ : t.all Q) (h : Lk L (t.run L p) r)
  (h2 : ∀ a q, Q a → Lk L ((k a).run L q) (f a q 0)) (h3 : ∀ a q e, e ≠ 0 → (f a q e).2 = (q, e)) : Lk L ((t.bind k).run L p) (f r.1 r.2.1 r.2.2) := by
 rw [run_bind]
 cases h4 : t.run L p with
 | none =>
  rw [h4] at h
  have h : r.2 = (L.length, 8) := h
  show (f r.1 r.2.1 r.2.2).2 = _
  rw [h]
  exact h3 _ _ _ (by show (8 : Int) ≠ 0; decide)
 | some x =>
  obtain ⟨a, q⟩ := x
  rw [h4] at h
  have h : r = (a, q, 0) := h
  subst h
  exact h2 a q (all_run hQ h4)
theorem Lk_ok {L : List Bool} {o : Option (α × Nat)} {r : α × Nat × Int} (h : Lk L o r) : r.2.2 = 0 ∧ o = some (r.1, r.2.1) ∨ r.2.2 = 8 ∧ r.2.1 = L.length ∧ o = none := by
 cases o with
 | none =>
  have h : r.2 = (L.length, 8) := h
  exact .inr ⟨by rw [h], by rw [h], rfl⟩
 | some x =>
  obtain ⟨a, q⟩ := x
  have h : r = (a, q, 0) := h
  subst h
  exact .inl ⟨rfl, rfl⟩
def rnR (L : List Bool) (n k p : Nat) (e : Int) : Nat × Nat × Int := if e = 0 then (match (rndD n k).run L p with | some (a, q) => (a, q, 0) | none => (0, L.length, 8)) else (0, p, e)
theorem rnR_err {L : List Bool} {n k p : Nat} {e : Int} (h : e ≠ 0) : rnR L n k p e = (0, p, e) := if_neg h
theorem Lk_rnd {L : List Bool} {n k p : Nat} : Lk L ((rndD n k).run L p) (rnR L n k p 0) := by
 unfold rnR
 rw [if_pos rfl]
 cases (rndD n k).run L p with
 | none => rfl
 | some x => rfl
theorem rnR_le {L : List Bool} {n k p : Nat} {e : Int} : (rnR L n k p e).1 ≤ n / 2 ^ k + 1 ∧ (rnR L n k p e).1 ≤ n + 1 := by
 by_cases h : e = 0
 ·
  subst h
  rcases Lk_ok (Lk_rnd (L := L) (n := n) (k := k) (p := p)) with h | h
  ·
   exact rnd_le h.2
  ·
   unfold rnR
   rw [if_pos rfl, h.2.2]
   exact ⟨Nat.zero_le _, Nat.zero_le _⟩
 ·
  rw [rnR_err h]
  exact ⟨Nat.zero_le _, Nat.zero_le _⟩
theorem rnR_q {L : List Bool} {n k p : Nat} {e : Int} (hp : p ≤ L.length) : (rnR L n k p e).2.1 ≤ L.length ∧ p ≤ (rnR L n k p e).2.1 ∧ ((rnR L n k p e).2.2 ≠ 0 → (rnR L n k p e).1 = 0) ∧ (e ≠ 0 → (rnR L n k p e).2.2 ≠ 0) := by
 by_cases h : e = 0
 ·
  subst h
  unfold rnR
  rw [if_pos rfl]
  cases h4 : (rndD n k).run L p with
  | none => exact ⟨Nat.le_refl _, hp, fun _ => rfl, fun h => absurd rfl h⟩
  | some x => have := run_le hp h4; exact ⟨this.2, this.1, fun h => absurd rfl h, fun h => absurd rfl h⟩
 ·
  rw [rnR_err h]
  exact ⟨hp, Nat.le_refl _, fun _ => rfl, fun _ => h⟩
theorem rnR_q' {L : List Bool} {n k p : Nat} {e : Int} (h : (rnR L n k p e).2.2 = 8) : (rnR L n k p e).1 = 0 ∧ True := by
 refine ⟨?_, trivial⟩
 unfold rnR at h ⊢
 split
 ·
  rename_i h1
  rw [if_pos h1] at h
  cases h4 : (rndD n k).run L p with
  | none => rfl
  | some x => rw [h4] at h; exact absurd (show (0 : Int) = 8 from h) (by decide)
 ·
  rfl
def scR (P : SP) (L : List Bool) (v s p : Nat) (e : Int) : Cell × Nat × Int := (((rnR L v (s * modeOf P v s P.d 0) p e).1, modeOf P v s P.d 0), (rnR L v (s * modeOf P v s P.d 0) p e).2)
def upR (L : List Bool) (c : Cell) (s p : Nat) (e : Int) : Cell × Nat × Int := (((rnR L c.1 s p e).1, c.2 + 1), (rnR L c.1 s p e).2)
def reR (P : SP) (L : List Bool) (w : Nat) (c : Cell) (p : Nat) (e : Int) : Cell × Nat × Int :=
 if P.m < (scR P L (wth c w) (w + 1) p e).1.1 then upR L (scR P L (wth c w) (w + 1) p e).1 (w + 1) (scR P L (wth c w) (w + 1) p e).2.1 (scR P L (wth c w) (w + 1) p e).2.2 else scR P L (wth c w) (w + 1) p e
def stR (P : SP) (L : List Bool) (w : Nat) (i : Int) (k : Nat) (c own : Cell) (p : Nat) (e : Int) : (Cell × Cell) × Nat × Int :=
 if (k : Int) = i then ((c, (scR P L (wth own w) (w + 1) p e).1), (scR P L (wth own w) (w + 1) p e).2) else ((putS (reR P L w c p e).1, own), (reR P L w c p e).2)
def rsR (P : SP) (L : List Bool) (w : Nat) (i : Int) : List Cell → Nat → Cell → Nat → Int → (List Cell × Cell) × Nat × Int
 | [], _, own, p, e => (([], own), p, e)
 | c :: cs, k, own, p, e => ((((stR P L w i k c own p e).1.1 :: (rsR P L w i cs (k + 1) (stR P L w i k c own p e).1.2 (stR P L w i k c own p e).2.1 (stR P L w i k c own p e).2.2).1.1),
   (rsR P L w i cs (k + 1) (stR P L w i k c own p e).1.2 (stR P L w i k c own p e).2.1 (stR P L w i k c own p e).2.2).1.2), (rsR P L w i cs (k + 1) (stR P L w i k c own p e).1.2 (stR P L w i k c own p e).2.1 (stR P L w i k c own p e).2.2).2)
theorem scR_err {P : SP} {L : List Bool} {v s p : Nat} {e : Int} (h : e ≠ 0) : scR P L v s p e = ((0, modeOf P v s P.d 0), p, e) := by unfold scR; rw [rnR_err h]
theorem upR_err {L : List Bool} {c : Cell} {s p : Nat} {e : Int} (h : e ≠ 0) : upR L c s p e = ((0, c.2 + 1), p, e) := by unfold upR; rw [rnR_err h]
theorem reR_err {P : SP} {L : List Bool} {w : Nat} {c : Cell} {p : Nat} {e : Int} (h : e ≠ 0) : reR P L w c p e = ((0, modeOf P (wth c w) (w + 1) P.d 0), p, e) := by unfold reR; rw [scR_err h, if_neg (Nat.not_lt_zero _)]
theorem stR_err {P : SP} {L : List Bool} {w : Nat} {i : Int} {k : Nat} {c own : Cell} {p : Nat} {e : Int} (h : e ≠ 0) : (stR P L w i k c own p e).2 = (p, e) := by
 unfold stR
 split
 ·
  rw [scR_err h]
 ·
  rw [reR_err h]
theorem rsR_err {P : SP} {L : List Bool} {w : Nat} {i : Int} : ∀ {cs : List Cell} {k : Nat} {own : Cell} {p : Nat} {e : Int}, e ≠ 0 → (rsR P L w i cs k own p e).2 = (p, e) := by
 intro cs
 induction cs with
 | nil => intro k own p e h; rfl
 | cons c cs ih =>
  intro k own p e h
  unfold rsR
  have h2 := stR_err (P := P) (L := L) (w := w) (i := i) (k := k) (c := c) (own := own) (p := p) h
  dsimp only
  rw [h2]
  exact ih h
theorem Lk_sc {P : SP} {L : List Bool} {v s p : Nat} : Lk L ((scD P v s).run L p) (scR P L v s p 0) :=
 Lk_bind (f := fun a q e => ((a, modeOf P v s P.d 0), q, e)) (all_true fun _ => trivial) Lk_rnd (fun a q _ => rfl) (fun a q e _ => rfl)
theorem Lk_up {L : List Bool} {c : Cell} {s p : Nat} : Lk L ((upD c s).run L p) (upR L c s p 0) :=
 Lk_bind (f := fun a q e => ((a, c.2 + 1), q, e)) (all_true fun _ => trivial) Lk_rnd (fun a q _ => rfl) (fun a q e _ => rfl)
theorem Lk_re {P : SP} {L : List Bool} {w : Nat} {c : Cell} {p : Nat} : Lk L ((reD P w c).run L p) (reR P L w c p 0) := by
 refine Lk_bind (f := fun x q e => if P.m < x.1 then upR L x (w + 1) q e else (x, q, e)) (all_true fun _ => trivial) Lk_sc (fun a q _ => ?_) (fun a q e h => ?_)
 ·
  by_cases h : P.m < a.1
  ·
   rw [if_pos h]; simp only [if_pos h]; exact Lk_up
  ·
   rw [if_neg h]; simp only [if_neg h]; rfl
 ·
  split
  ·
   rw [upR_err h]
  ·
   rfl
theorem Lk_rs {P : SP} {L : List Bool} {w : Nat} {i : Int} : ∀ {cs : List Cell} {k : Nat} {own : Cell} {p : Nat}, Lk L ((rsD P w i cs k own).run L p) (rsR P L w i cs k own p 0) := by
 intro cs
 induction cs with
 | nil => intro k own p; rfl
 | cons c cs ih =>
  intro k own p
  unfold rsD rsR stR
  by_cases h : (k : Int) = i
  ·
   simp only [if_pos h]
   refine Lk_bind (f := fun o q e => ((c :: (rsR P L w i cs (k + 1) o q e).1.1, (rsR P L w i cs (k + 1) o q e).1.2), (rsR P L w i cs (k + 1) o q e).2)) (all_true fun _ => trivial) Lk_sc (fun a q _ => ?_) (fun a q e h => rsR_err h)
   refine Lk_bind (f := fun r q e => ((c :: r.1, r.2), q, e)) (all_true fun _ => trivial) ih ?_ ?_
   ·
    intro a q _; rfl
   ·
    intro a q e _; rfl
  ·
   simp only [if_neg h]
   refine Lk_bind (f := fun o q e => ((putS o :: (rsR P L w i cs (k + 1) own q e).1.1, (rsR P L w i cs (k + 1) own q e).1.2), (rsR P L w i cs (k + 1) own q e).2)) (all_true fun _ => trivial) Lk_re (fun a q _ => ?_) (fun a q e h => rsR_err h)
   refine Lk_bind (f := fun r q e => ((putS a :: r.1, r.2), q, e)) (all_true fun _ => trivial) ih ?_ ?_
   ·
    intro a q _; rfl
   ·
    intro a q e _; rfl
def LOk (P : SP) (c : Cell) : Prop := c.1 ≤ 16777216 ∧ c.2 ≤ P.d
theorem COk.l {P : SP} (hP : PW P) {c : Cell} (h : COk P c) : LOk P c := ⟨by have := h.1; have := hP.m255; omega, h.2.1⟩
theorem put0 {P : SP} {m : Nat} : LOk P (putS (0, m)) := ⟨Nat.zero_le _, Nat.zero_le _⟩
theorem stR_ok {P : SP} (hP : PW P) {L : List Bool} {w : Nat} {i : Int} {k : Nat} {c own : Cell} {p : Nat} {e : Int} (hw : 1 ≤ w) (hc : LOk P c) (hc2 : e = 0 → COk P c) (ho : LOk P own) (ho2 : e = 0 → (k : Int) = i → P.m < own.1) :
  LOk P (stR P L w i k c own p e).1.1 ∧ LOk P (stR P L w i k c own p e).1.2 := by
 by_cases he : e = 0
 ·
  subst he
  unfold stR
  by_cases h : (k : Int) = i
  ·
   rw [if_pos h]
   refine ⟨hc, ?_⟩
   have h3 := sc_own hP.toPB (w := w) ho.2 (ho2 rfl h)
   rcases Lk_ok (Lk_sc (P := P) (L := L) (v := wth own w) (s := w + 1) (p := p)) with h4 | h4
   ·
    have := all_run h3 h4.2
    exact ⟨Nat.le_trans this.2 ho.1, this.1⟩
   ·
    have hz : (scR P L (wth own w) (w + 1) p 0).1.1 = 0 := by
     have h6 := h4.1
     unfold scR at h6 ⊢
     exact (rnR_q' h6).1
    refine ⟨by rw [hz]; exact Nat.zero_le _, ?_⟩
    show modeOf P (wth own w) (w + 1) P.d 0 ≤ _
    exact mode_le
  ·
   rw [if_neg h]
   refine ⟨?_, ho⟩
   rcases Lk_ok (Lk_re (P := P) (L := L) (w := w) (c := c) (p := p)) with h4 | h4
   ·
    have := all_run (reD_all hP.toPB hw (hc2 rfl)) h4.2
    exact (putS_ok this.1 this.2).l hP
   ·
    have hz : (reR P L w c p 0).1.1 = 0 := by
     have h6 := h4.1
     unfold reR at h6 ⊢
     split at h6
     ·
      rename_i h7
      rw [if_pos h7]
      unfold upR at h6 ⊢
      dsimp only at h6 ⊢
      exact (rnR_q' h6).1
     ·
      rename_i h7
      rw [if_neg h7]
      unfold scR at h6 ⊢
      dsimp only at h6 ⊢
      exact (rnR_q' h6).1
    have e : putS (reR P L w c p 0).1 = (0, 0) := by unfold putS; rw [if_pos hz, hz]
    rw [e]
    exact ⟨Nat.zero_le _, Nat.zero_le _⟩
 ·
  unfold stR
  by_cases h : (k : Int) = i
  ·
   rw [if_pos h, scR_err he]
   exact ⟨hc, Nat.zero_le _, mode_le⟩
  ·
   rw [if_neg h, reR_err he]
   exact ⟨put0, ho⟩
theorem rsR_ok {P : SP} (hP : PW P) {L : List Bool} {w : Nat} {i : Int} (hw : 1 ≤ w) : ∀ {cs : List Cell} {k : Nat} {own : Cell} {p : Nat} {e : Int}, (∀ c ∈ cs, LOk P c) → (e = 0 → ∀ c ∈ cs, COk P c) → LOk P own → (e = 0 → (k : Int) ≤ i → P.m < own.1) →
  (∀ c ∈ (rsR P L w i cs k own p e).1.1, LOk P c) ∧ (rsR P L w i cs k own p e).1.1.length = cs.length ∧ LOk P (rsR P L w i cs k own p e).1.2 := by
 intro cs
 induction cs with
 | nil => intro k own p e h1 h2 h3 _; exact ⟨by simp [rsR], rfl, h3⟩
 | cons c cs ih =>
  intro k own p e h1 h2 h3 h4
  unfold rsR
  obtain ⟨a, b⟩ := stR_ok hP (L := L) (w := w) (i := i) (k := k) (c := c) (own := own) (p := p) (e := e) hw (h1 c (by simp)) (fun h => h2 h c (by simp)) h3 (fun h hk => h4 h (by omega))
  have hz : (stR P L w i k c own p e).2.2 = 0 → e = 0 := by
   intro hz
   by_cases he : e = 0
   ·
    exact he
   ·
    rw [stR_err he] at hz; exact absurd hz he
  have hown : ¬ (k : Int) = i → (stR P L w i k c own p e).1.2 = own := by
   intro h
   unfold stR
   rw [if_neg h]
  generalize stR P L w i k c own p e = x at *
  obtain ⟨a1, a2, a3⟩ := ih (k := k + 1) (own := x.1.2) (p := x.2.1) (e := x.2.2) (fun y hy => h1 y (by simp [hy])) (fun h y hy => h2 (hz h) y (by simp [hy])) b (fun h hk => by rw [hown (by omega)]; exact h4 (hz h) (by omega))
  refine ⟨fun y hy => ?_, by simp [a2], a3⟩
  rcases List.mem_cons.1 hy with h | h
  ·
   rw [h]; exact a
  ·
   exact a1 y h
def ftR (P : SP) (L : List Bool) (i : Nat) : Nat → SS → Cell → Nat → Int → SS × Nat × Int
 | 0, st, c, p, e => ((st.1, st.2.1, true), p, e)
 | f + 1, st, c, p, e => if P.m < c.1 ∧ e = 0 then (if c.2 < P.d then ftR P L i f st (upR L c st.2.1 p e).1 (upR L c st.2.1 p e).2.1 (upR L c st.2.1 p e).2.2 else
   if st.2.1 < P.s then ftR P L i f ((rsR P L st.2.1 i st.1 0 c p e).1.1, st.2.1 + 1, st.2.2) (rsR P L st.2.1 i st.1 0 c p e).1.2 (rsR P L st.2.1 i st.1 0 c p e).2.1 (rsR P L st.2.1 i st.1 0 c p e).2.2
   else ftR P L i f (st.1, st.2.1, true) (P.m, c.2) p e) else ((st.1.set i (putS c), st.2), p, e)
theorem ftR_err {P : SP} {L : List Bool} {i : Nat} : ∀ {f : Nat} {st : SS} {c : Cell} {p : Nat} {e : Int}, e ≠ 0 → (ftR P L i f st c p e).2 = (p, e)
 | 0, st, c, p, e, h => rfl
 | f + 1, st, c, p, e, h => by
  unfold ftR
  rw [if_neg (fun h2 => h h2.2)]
theorem Lk_ft {P : SP} (hP : PW P) {L : List Bool} {i : Nat} : ∀ {f : Nat} {st : SS} {c : Cell} {p : Nat}, SOk P st → c.2 ≤ P.d → need P st.2.1 c.2 ≤ f → Lk L ((fitD P i f st c).run L p) (ftR P L i (f + 1) st c p 0) := by
 intro f
 induction f with
 | zero => intro st c p _ _ h; unfold need at h; omega
 | succ f ih =>
  intro st c p hs hc hf
  unfold need at hf
  rw [ftR.eq_2]
  unfold fitD
  by_cases h1 : c.1 ≤ P.m
  ·
   rw [if_pos h1, if_neg (by omega)]
   rfl
  ·
   rw [if_neg h1, if_pos (show P.m < c.1 ∧ (0 : Int) = 0 from ⟨by omega, rfl⟩)]
   by_cases h2 : c.2 < P.d
   ·
    rw [if_pos h2, if_pos h2]
    refine Lk_bind (f := fun x q e => ftR P L i (f + 1) st x q e) (upD_all c st.2.1) Lk_up (fun a q ha => ih hs (by omega) (by unfold need; omega)) (fun a q e h => ftR_err h)
   ·
    rw [if_neg h2, if_neg h2]
    by_cases h3 : st.2.1 < P.s
    ·
     rw [if_pos h3, if_pos h3]
     refine Lk_bind (f := fun x q e => ftR P L i (f + 1) (x.1, st.2.1 + 1, st.2.2) x.2 q e) (rsD_all hP.toPB hs.s1 i st.1 0 c hs.c (fun _ => ⟨hc, by omega⟩)) Lk_rs (fun r q hr => ?_) (fun a q e h => ftR_err h)
     have hr2 := hr.2 (by omega)
     have hn : need P (st.2.1 + 1) r.2.2 ≤ f := by
      unfold need
      have : (P.s - st.2.1) * (P.d + 2) = (P.s - (st.2.1 + 1)) * (P.d + 2) + (P.d + 2) := by
       rw [show P.s - st.2.1 = P.s - (st.2.1 + 1) + 1 by omega, Nat.add_mul, Nat.one_mul]
      omega
     refine ih (st := (r.1, st.2.1 + 1, st.2.2)) ⟨hr.1, Nat.le_succ_of_le hs.s1, h3, fun h => ?_⟩ hr2.1 hn
     have := hs.f h
     omega
    ·
     rw [if_neg h3, if_neg h3, ftR.eq_2, if_neg (fun h => absurd h.1 (Nat.lt_irrefl _))]
     rfl
structure GOk (P : SP) (st : SS) (e : Int) : Prop where
 l : ∀ c ∈ st.1, LOk P c
 s1 : 1 ≤ st.2.1
 s2 : st.2.1 ≤ P.s
 k : e = 0 → SOk P st
theorem SOk.g {P : SP} (hP : PW P) {st : SS} {e : Int} (h : SOk P st) : GOk P st e := ⟨fun c hc => (h.c c hc).l hP, h.s1, h.s2, fun _ => h⟩
def adR (P : SP) (L : List Bool) (st : SS) (i n p : Nat) : SS × Nat × Int :=
 ftR P L i (fuelF P st.2.1 (st.1.getD i (0, 0)).2 + 1) st ((st.1.getD i (0, 0)).1 + (rnR L n (st.2.1 * (st.1.getD i (0, 0)).2) p 0).1, (st.1.getD i (0, 0)).2) (rnR L n (st.2.1 * (st.1.getD i (0, 0)).2) p 0).2.1 (rnR L n (st.2.1 * (st.1.getD i (0, 0)).2) p 0).2.2
theorem Lk_ad {P : SP} (hP : PW P) {L : List Bool} {st : SS} {i n p : Nat} (hs : SOk P st) : Lk L ((addD P st i n).run L p) (adR P L st i n p) :=
 Lk_bind (f := fun a q e => ftR P L i (fuelF P st.2.1 (st.1.getD i (0, 0)).2 + 1) st ((st.1.getD i (0, 0)).1 + a, (st.1.getD i (0, 0)).2) q e) (all_true fun _ => trivial) Lk_rnd
  (fun a q _ => Lk_ft hP hs (getD_ok hs.c i).2.1 (need_le _ _ _)) (fun a q e h => ftR_err h)
end Go.Proofs.YtpkfddfkacijoaaGreatDoor
