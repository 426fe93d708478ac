import Derived.Test.YtpkfddfkacijoaaGreatDoorRb
namespace Go.Proofs.YtpkfddfkacijoaaGreatDoor
set_option linter.unusedSimpArgs false
set_option linter.unusedVariables false
structure PB (P : SP) : Prop where
 m1 : 1 ≤ P.m
 m2 : P.m ≤ 65535
 d1 : 1 ≤ P.d
 d2 : P.d ≤ 15
 s1 : 1 ≤ P.s
 s2 : P.s ≤ 8
def COk (P : SP) (c : Cell) : Prop := c.1 ≤ P.m ∧ c.2 ≤ P.d ∧ (c.1 = 0 → c.2 = 0)
structure SOk (P : SP) (st : SS) : Prop where
 c : ∀ c ∈ st.1, COk P c
 s1 : 1 ≤ st.2.1
 s2 : st.2.1 ≤ P.s
 f : st.2.2 = true → st.2.1 = P.s
theorem bit_le (b : Bool) : bit b ≤ 1 := by cases b <;> decide
theorem rndD_all (n k : Nat) : (rndD n k).all (fun a => a ≤ n / 2 ^ k + 1 ∧ (n % 2 ^ k = 0 → a = n / 2 ^ k) ∧ n / 2 ^ k ≤ a) := by
 unfold rndD
 by_cases h : n % 2 ^ k = 0
 ·
  rw [if_pos h]
  exact ⟨Nat.le_succ _, fun _ => rfl, Nat.le_refl _⟩
 ·
  rw [if_neg h, all_bind]
  refine all_true fun b => ⟨?_, fun e => absurd e h, ?_⟩
  ·
   have := bit_le b
   show n / 2 ^ k + bit b ≤ _
   omega
  ·
   exact Nat.le_add_right _ _
theorem modeOf_spec {P : SP} {v s : Nat} : ∀ {f m : Nat}, f + m = P.d → modeOf P v s f m ≤ P.d ∧ m ≤ modeOf P v s f m ∧ (modeOf P v s f m < P.d → v / 2 ^ (s * modeOf P v s f m) ≤ P.m) ∧ (∀ j, m ≤ j → v / 2 ^ (s * j) ≤ P.m → modeOf P v s f m ≤ j) := by
 intro f
 induction f with
 | zero =>
  intro m h
  unfold modeOf
  exact ⟨by omega, Nat.le_refl _, fun h2 => by omega, fun j hj _ => hj⟩
 | succ f ih =>
  intro m h
  unfold modeOf
  by_cases hc : m < P.d ∧ P.m < v / 2 ^ (s * m)
  ·
   rw [if_pos hc]
   obtain ⟨a, b, c, d⟩ := ih (m := m + 1) (by omega)
   refine ⟨a, by omega, c, fun j hj hv => d j ?_ hv⟩
   by_cases e : j = m
   ·
    subst e; omega
   ·
    omega
  ·
   rw [if_neg hc]
   refine ⟨by omega, Nat.le_refl _, fun h2 => ?_, fun j hj _ => hj⟩
   by_cases h3 : P.m < v / 2 ^ (s * m)
   ·
    exact absurd ⟨h2, h3⟩ hc
   ·
    omega
theorem wth_div (c : Cell) (w : Nat) : wth c w / 2 ^ ((w + 1) * c.2) = c.1 / 2 ^ c.2 := by
 unfold wth
 rw [Nat.add_mul, Nat.one_mul, Nat.pow_add, ← Nat.div_div_eq_div_mul, Nat.mul_div_cancel _ (Nat.pow_pos (by decide))]
theorem wth_div_ge (c : Cell) {w m : Nat} (h : c.2 ≤ m) : wth c w / 2 ^ ((w + 1) * m) ≤ c.1 / 2 ^ m := by
 unfold wth
 rw [show (w + 1) * m = w * c.2 + (w * (m - c.2) + m) by rw [Nat.add_mul, Nat.one_mul, Nat.mul_sub]; have := Nat.mul_le_mul_left w h; omega]
 rw [Nat.pow_add, ← Nat.div_div_eq_div_mul, Nat.mul_div_cancel _ (Nat.pow_pos (by decide)), Nat.pow_add]
 have h1 : 0 < 2 ^ (w * (m - c.2)) := Nat.pow_pos (by decide)
 have h2 : 0 < 2 ^ m := Nat.pow_pos (by decide)
 rw [← Nat.div_div_eq_div_mul]
 exact Nat.div_le_div_right (Nat.div_le_self _ _)
theorem scD_all {P : SP} {v s : Nat} : (scD P v s).all (fun c => c.2 = modeOf P v s P.d 0 ∧ c.1 ≤ v / 2 ^ (s * modeOf P v s P.d 0) + 1 ∧ (v % 2 ^ (s * modeOf P v s P.d 0) = 0 → c.1 = v / 2 ^ (s * modeOf P v s P.d 0))) := by
 unfold scD
 rw [all_bind]
 exact all_mono (fun a h => ⟨rfl, h.1, h.2.1⟩) (rndD_all _ _)
theorem upD_all (c : Cell) (s : Nat) : (upD c s).all (fun x => x.2 = c.2 + 1 ∧ x.1 ≤ c.1 / 2 ^ s + 1) := by
 unfold upD
 rw [all_bind]
 exact all_mono (fun a h => ⟨rfl, h.1⟩) (rndD_all _ _)
theorem div_pow_le {a k : Nat} (hk : 1 ≤ k) : a / 2 ^ k ≤ a / 2 := by
 obtain ⟨j, rfl⟩ : ∃ j, k = j + 1 := ⟨k - 1, by omega⟩
 rw [Nat.pow_succ, Nat.mul_comm, ← Nat.div_div_eq_div_mul]
 exact Nat.div_le_self _ _
theorem div_pow_le4 {a k : Nat} (hk : 2 ≤ k) : a / 2 ^ k ≤ a / 4 := by
 obtain ⟨j, rfl⟩ : ∃ j, k = j + 2 := ⟨k - 2, by omega⟩
 rw [show 2 ^ (j + 2) = 4 * 2 ^ j by rw [Nat.pow_add]; omega, ← Nat.div_div_eq_div_mul]
 exact Nat.div_le_self _ _
theorem mode_fit {P : SP} {c : Cell} {w : Nat} (hc : c.1 ≤ P.m) (hd : c.2 ≤ P.d) : modeOf P (wth c w) (w + 1) P.d 0 ≤ c.2 ∧ wth c w / 2 ^ ((w + 1) * modeOf P (wth c w) (w + 1) P.d 0) ≤ P.m ∧
  (modeOf P (wth c w) (w + 1) P.d 0 = c.2 → wth c w / 2 ^ ((w + 1) * modeOf P (wth c w) (w + 1) P.d 0) = c.1 / 2 ^ c.2) := by
 obtain ⟨a, -, b, d⟩ := modeOf_spec (P := P) (v := wth c w) (s := w + 1) (f := P.d) (m := 0) (by omega)
 have e := wth_div c w
 have h1 : c.1 / 2 ^ c.2 ≤ P.m := Nat.le_trans (Nat.div_le_self _ _) hc
 have h2 := d c.2 (Nat.zero_le _) (by rw [e]; exact h1)
 generalize modeOf P (wth c w) (w + 1) P.d 0 = r at *
 refine ⟨h2, ?_, fun hr => by rw [hr]; exact e⟩
 by_cases hr : r < P.d
 ·
  exact b hr
 ·
  rw [show r = c.2 by omega, e]; exact h1
theorem reD_all {P : SP} (hP : PB P) {c : Cell} {w : Nat} (hw : 1 ≤ w) (hc : COk P c) : (reD P w c).all (fun x => x.1 ≤ P.m ∧ x.2 ≤ P.d) := by
 obtain ⟨h1, h2, -⟩ := hc
 obtain ⟨a, b, e⟩ := mode_fit (w := w) h1 h2
 have hm := hP.m1
 unfold reD
 rw [all_bind]
 refine all_mono (fun x hx => ?_) scD_all
 obtain ⟨x1, x2, x3⟩ := hx
 generalize modeOf P (wth c w) (w + 1) P.d 0 = r at *
 by_cases hx : P.m < x.1
 ·
  rw [if_pos hx]
  have hr : r < c.2 := by
   by_cases hr : r < c.2
   ·
    exact hr
   ·
    exfalso
    have hrc : r = c.2 := by omega
    have e2 := e hrc
    rw [e2] at x2 x3
    by_cases h0 : c.2 = 0
    ·
     rw [h0] at x3 hrc
     subst hrc
     rw [Nat.mul_zero, Nat.pow_zero, Nat.mod_one, Nat.div_one] at x3
     have := x3 rfl
     omega
    ·
     have := div_pow_le (a := c.1) (k := c.2) (by omega)
     omega
  refine all_mono (fun y hy => ?_) (upD_all x (w + 1))
  have := div_pow_le4 (a := x.1) (k := w + 1) (by omega)
  exact ⟨by omega, by omega⟩
 ·
  rw [if_neg hx]
  exact ⟨by omega, by omega⟩
theorem putS_ok {P : SP} {c : Cell} (h1 : c.1 ≤ P.m) (h2 : c.2 ≤ P.d) : COk P (putS c) := by
 unfold putS COk
 split
 ·
  exact ⟨h1, by simp, fun _ => rfl⟩
 ·
  rename_i h
  exact ⟨h1, h2, fun e => absurd e h⟩
theorem sc_own {P : SP} (hP : PB P) {own : Cell} {w : Nat} (hd : own.2 ≤ P.d) (hm : P.m < own.1) : (scD P (wth own w) (w + 1)).all (fun o => o.2 ≤ P.d ∧ o.1 ≤ own.1) := by
 obtain ⟨a, -, b, d⟩ := modeOf_spec (P := P) (v := wth own w) (s := w + 1) (f := P.d) (m := 0) (by omega)
 have hm1 := hP.m1
 have hd1 := hP.d1
 refine all_mono (fun x hx => ?_) scD_all
 obtain ⟨x1, x2, x3⟩ := hx
 generalize modeOf P (wth own w) (w + 1) P.d 0 = r at *
 refine ⟨by omega, ?_⟩
 by_cases hr : r < P.d
 ·
  have := b hr
  omega
 ·
  have h3 := wth_div_ge own (w := w) (m := r) (by omega)
  have h4 := div_pow_le (a := own.1) (k := r) (by omega)
  omega
theorem rsD_all {P : SP} (hP : PB P) {w : Nat} (hw : 1 ≤ w) (i : Int) : ∀ (cs : List Cell) (k : Nat) (own : Cell), (∀ c ∈ cs, COk P c) → (0 ≤ i → own.2 ≤ P.d ∧ P.m < own.1) →
  (rsD P w i cs k own).all (fun r => (∀ c ∈ r.1, COk P c) ∧ (0 ≤ i → r.2.2 ≤ P.d ∧ r.2.1 ≤ own.1)) := by
 intro cs
 induction cs with
 | nil => intro k own _ h; exact ⟨by simp, fun hi => ⟨(h hi).1, Nat.le_refl _⟩⟩
 | cons c cs ih =>
  intro k own hcs hown
  unfold rsD
  by_cases hk : (k : Int) = i
  ·
   rw [if_pos hk, all_bind]
   have hi : 0 ≤ i := by omega
   refine all_mono (fun o ho => ?_) (sc_own hP (w := w) (hown hi).1 (hown hi).2)
   rw [all_bind]
   have hc0 := hcs c (by simp)
   have hst := (mean_rs P w i cs (k + 1) o).2.2.1 (fun j hj => by omega)
   have hce : ∀ (cs : List Cell) (k : Nat) (own : Cell), (∀ c ∈ cs, COk P c) → ((i : Int) < k) → (rsD P w i cs k own).all (fun r => ∀ c ∈ r.1, COk P c) := by
    intro cs
    induction cs with
    | nil => intro k own _ _; exact by simp [rsD, DT.all]
    | cons c cs ih2 =>
     intro k own hcs hik
     unfold rsD
     rw [if_neg (by omega), all_bind]
     refine all_mono (fun c1 h1 => ?_) (reD_all hP hw (hcs c (by simp)))
     rw [all_bind]
     refine all_mono (fun r hr => ?_) (ih2 (k + 1) own (fun x hx => hcs x (by simp [hx])) (by omega))
     intro x hx
     rcases List.mem_cons.1 hx with e | e
     ·
      rw [e]; exact putS_ok h1.1 h1.2
     ·
      exact hr x e
   refine all_mono (fun r hr => ?_) (all_and hst (hce cs (k + 1) o (fun x hx => hcs x (by simp [hx])) (by omega)))
   refine ⟨fun x hx => ?_, fun _ => ?_⟩
   ·
    rcases List.mem_cons.1 hx with e | e
    ·
     rw [e]; exact hc0
    ·
     exact hr.2 x e
   ·
    show r.2.2 ≤ _ ∧ r.2.1 ≤ _
    rw [hr.1]
    exact ho
  ·
   rw [if_neg hk, all_bind]
   refine all_mono (fun c1 h1 => ?_) (reD_all hP hw (hcs c (by simp)))
   rw [all_bind]
   refine all_mono (fun r hr => ?_) (ih (k + 1) own (fun x hx => hcs x (by simp [hx])) hown)
   refine ⟨fun x hx => ?_, hr.2⟩
   rcases List.mem_cons.1 hx with e | e
   ·
    rw [e]; exact putS_ok h1.1 h1.2
   ·
    exact hr.1 x e
def need (P : SP) (s m : Nat) : Nat := (P.s - s) * (P.d + 2) + (P.d - m) + 1
theorem mem_set' {l : List Cell} {i : Nat} {c x : Cell} (h : x ∈ l.set i c) : x = c ∨ x ∈ l := by
 rcases List.mem_or_eq_of_mem_set h with h | h
 ·
  exact .inr h
 ·
  exact .inl h
theorem fitD_all {P : SP} (hP : PB P) (i : Nat) : ∀ (f : Nat) (st : SS) (c : Cell), SOk P st → c.2 ≤ P.d → need P st.2.1 c.2 ≤ f →
  (fitD P i f st c).all (fun r => SOk P r ∧ st.2.1 ≤ r.2.1 ∧ (st.2.2 = true → r.2.2 = true)) := by
 intro f
 induction f with
 | zero => intro st c _ _ h; unfold need at h; omega
 | succ f ih =>
  intro st c hs hc hf
  unfold need at hf
  unfold fitD
  by_cases h1 : c.1 ≤ P.m
  ·
   rw [if_pos h1]
   refine ⟨⟨fun x hx => ?_, hs.s1, hs.s2, hs.f⟩, Nat.le_refl _, fun h => h⟩
   rcases mem_set' hx with e | e
   ·
    rw [e]; exact putS_ok h1 hc
   ·
    exact hs.c x e
  ·
   rw [if_neg h1]
   by_cases h2 : c.2 < P.d
   ·
    rw [if_pos h2, all_bind]
    refine all_mono (fun c1 h => ih st c1 hs (by omega) ?_) (upD_all c st.2.1)
    unfold need
    omega
   ·
    rw [if_neg h2]
    by_cases h3 : st.2.1 < P.s
    ·
     rw [if_pos h3, all_bind]
     refine all_mono (fun r hr => ?_) (rsD_all hP hs.s1 i st.1 0 c hs.c (fun _ => ⟨hc, by omega⟩))
     have hr2 := hr.2 (by omega)
     have hn : need P (st.2.1 + 1) r.2.2 ≤ f := by
      unfold need
      have : (P.s - st.2.1) * (P.d + 2) = (P.s - (st.2.1 + 1)) * (P.d + 2) + (P.d + 2) := by
       rw [show P.s - st.2.1 = P.s - (st.2.1 + 1) + 1 by omega, Nat.add_mul, Nat.one_mul]
      omega
     refine all_mono (fun q hq => ⟨hq.1, ?_, hq.2.2⟩) (ih (r.1, st.2.1 + 1, st.2.2) r.2 ⟨hr.1, Nat.le_succ_of_le hs.s1, h3, fun h => ?_⟩ hr2.1 hn)
     ·
      have := hq.2.1
      simp only [] at this
      omega
     ·
      have := hs.f h
      omega
    ·
     rw [if_neg h3]
     refine ⟨⟨fun x hx => ?_, hs.s1, hs.s2, fun _ => by have := hs.s2; simp only [] at *; omega⟩, Nat.le_refl _, fun _ => rfl⟩
     rcases mem_set' hx with e | e
     ·
      rw [e]; exact putS_ok (Nat.le_refl _) hc
     ·
      exact hs.c x e
theorem need_le (P : SP) (s m : Nat) : need P s m ≤ fuelF P s m := by unfold need fuelF; omega
theorem getD_ok {P : SP} {l : List Cell} (h : ∀ c ∈ l, COk P c) (i : Nat) : COk P (l.getD i (0, 0)) := by
 rw [List.getD_eq_getElem?_getD]
 cases e : l[i]? with
 | none => exact ⟨Nat.zero_le _, Nat.zero_le _, fun _ => rfl⟩
 | some c => exact h c (List.mem_of_getElem? e)
theorem addD_all {P : SP} (hP : PB P) (st : SS) (i n : Nat) (hs : SOk P st) : (addD P st i n).all (fun r => SOk P r ∧ st.2.1 ≤ r.2.1 ∧ (st.2.2 = true → r.2.2 = true)) := by
 unfold addD
 rw [all_bind]
 have h2 := (getD_ok hs.c i).2.1
 generalize st.1.getD i (0, 0) = c0 at *
 exact all_true fun a => fitD_all hP i _ st (c0.1 + a, c0.2) hs h2 (need_le _ _ _)
end Go.Proofs.YtpkfddfkacijoaaGreatDoor
