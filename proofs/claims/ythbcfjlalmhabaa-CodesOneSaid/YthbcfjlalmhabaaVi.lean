import Derived.Test.YthbcfjlalmhabaaVh
/-! Matching: a state among others; what is dropped. -/
namespace Go.Vx
open Go.Eng
set_option linter.unusedSimpArgs false
set_option linter.unusedVariables false

/-! ### One state in another: objects by a list of numbers (none: a slice that is nil) -/
abbrev Pi := List (Option Nat)
def mRow (ob : Ob) (z off len : Nat) (l : List (List PV)) : Prop := match ob with
  | .row z'' l' => z = z'' ∧ off + len ≤ l'.length ∧ l = (l'.drop off).take len
  | _ => False
mutual
/-- The first is told of what the second is; a slice of the call's own may be told as one that nobody changes where 'ok' says so. -/
def mV (ok : Nat → Bool) (π : Pi) (σ : St) : V → V → Prop
  | .lit v, u => u = .lit v
  | .row z l, u => (match u with
    | .row z' l' => z = z' ∧ l = l'
    | .xrow z' l' => z = z' ∧ l = l'
    | .lit (.slice none 0 0) => l = []
    | .sl o z' off len => z = z' ∧ ok o = true ∧ obV σ o fun ob => mRow ob z off len l
    | _ => False)
  | .xrow z l, u => (match u with | .xrow z' l' => z = z' ∧ l = l' | _ => False)
  | .ref o z i off, u => (match u with | .ref o' z' i' off' => π[o]? = some (some o') ∧ z = z' ∧ i = i' ∧ off = off' | _ => False)
  | .sl o z off len, u => (match u with
    | .sl o' z' off' len' => π[o]? = some (some o') ∧ z = z' ∧ off = off' ∧ len = len'
    | .lit (.slice none 0 0) => π[o]? = some none ∧ off = 0 ∧ len = 0
    | _ => False)
  | .rref z l i off, u => (match u with | .rref z' l' i' off' => z = z' ∧ l = l' ∧ i = i' ∧ off = off' | _ => False)
  | .agg l, u => (match u with | .agg m => mVs ok π σ l m | _ => False)
  | .tup l, u => (match u with | .tup m => mVs ok π σ l m | _ => False)
  | .clo f l, u => (match u with | .clo g m => f = g ∧ mVs ok π σ l m | _ => False)
def mVs (ok : Nat → Bool) (π : Pi) (σ : St) : List V → List V → Prop
  | [], [] => True
  | u :: us, v :: vs => mV ok π σ u v ∧ mVs ok π σ us vs
  | _, _ => False
end
def mO (ok : Nat → Bool) (π : Pi) (σ : St) : Ob → Ob → Prop
  | .cells l, .cells m => mVs ok π σ l m
  | .row z l, .row z' m => z = z' ∧ l = m
  | _, _ => False
def mSt (ok : Nat → Bool) (π : Pi) (σ : St) : St → Pi → Prop
  | [], [] => True
  | none :: s, _ :: ps => mSt ok π σ s ps
  | some ob :: s, some o :: ps => (obV σ o fun ob' => mO ok π σ ob ob') ∧ mSt ok π σ s ps
  | some (.row _ l) :: s, none :: ps => l = [] ∧ mSt ok π σ s ps
  | _, _ => False
def mG (ok : Nat → Bool) (π : Pi) (σ : St) : Vg → Vg → Prop
  | [], _ => True
  | (t, u) :: r, ρ => (lkV ρ t fun v => mV ok π σ u v) ∧ mG ok π σ r ρ
/-- No number twice. -/
def ndp (π : Pi) : Bool := decide ((π.filterMap id).Nodup)
/-- The numbers of what is told as being there. -/
def lvp : Pi → St → List Nat
  | some o :: π, some _ :: s => o :: lvp π s
  | _ :: π, _ :: s => lvp π s
  | _, _ => []
def ndl (π : Pi) (s : St) : Bool := decide (lvp π s).Nodup
/-- The first k stay where they are. -/
def kfix (k : Nat) (π : Pi) : Bool := (List.range k).all fun i => π[i]? == some (some i)
def okN (π : Pi) (o : Nat) : Bool := !π.contains (some o)
def Emb (k : Nat) (π : Pi) (ρ₀ : Vg) (σ₀ : St) (ρ : Vg) (σ : St) : Prop := (ndl π σ₀ && kfix k π) = true ∧ mSt (okN π) π σ σ₀ π ∧ mG (okN π) π σ ρ₀ ρ
def EmbR (k : Nat) (π : Pi) (u₀ : V) (σ₀ : St) (u : V) (σ : St) : Prop := (ndl π σ₀ && kfix k π) = true ∧ mSt (okN π) π σ σ₀ π ∧ mV (okN π) π σ u₀ u

section
variable {w : World} {Im Im' : Nat → Prop} {μ : Mu} {σ : St} {π : Pi} {ok : Nat → Bool}

def muOf (μ : Mu) (π : Pi) : Mu := π.map fun p => match p with | some o => (μ[o]?).getD none | none => none
theorem muOf_some {j o : Nat} (h : π[j]? = some (some o)) : (muOf μ π)[j]? = some ((μ[o]?).getD none) := by simp [muOf, h]
theorem muOf_none {j : Nat} (h : π[j]? = some none) : (muOf μ π)[j]? = some none := by simp [muOf, h]
/-- What is told as unchanged is so. -/
structure Frz (μ : Mu) (Im : Nat → Prop) (σ : St) (ok : Nat → Bool) (Im' : Nat → Prop) : Prop where
  old : ∀ b, Im b → Im' b
  new : ∀ (o : Nat) b n ob, ok o = true → σ[o]? = some (some ob) → μ[o]? = some (some (b, n)) → Im' b

theorem RepP.im {p : PV} {v : Value} (h : RepP w Im p v) (hI : ∀ b, Im b → Im' b) : RepP w Im' p v :=
  h.mono (μ := []) (μ' := []) ⟨List.prefix_refl _, hI, fun _ _ => rfl⟩
theorem row_of_sl {o z off len cap : Nat} {a : Option Addr} {l : List (List PV)} (r : Rel μ Im σ w) (fz : Frz μ Im σ ok Im') (hok : ok o = true) (hob : σ[o]? = some (some (.row z l))) (hle : off + len ≤ l.length) (hs : SlOk μ[o]? z off len a cap) :
    RepP w Im' (.row z ((l.drop off).take len)) (.slice a len cap) := by
  have hrow : rowK (.sl o z off len) σ z (fun m => m = (l.drop off).take len) := by
    unfold rowK
    simp only [if_true]
    unfold obV atK rowO
    rw [hob]
    simp only [true_and]
    rw [if_pos hle]
    trivial
  obtain ⟨m, ad, cp, C, e, hR, hG⟩ := rowK_sound r (RepV.sl hs) hrow
  subst hG
  injection e with e1 e2 e3
  subst e1 e3
  refine .row (C := C) (by simp; omega) hs.1 hR.siz hR.row (fun hne => ?_) (by rw [hR.len, ← e2]) hR.one (fun i c p h1 h2 => (hR.rep i c p h1 h2).im fz.old)
  obtain ⟨loc, hloc, hz, hO⟩ := r.rep _ _ hob
  rw [hloc] at hs
  obtain ⟨hlc, hs⟩ := hs
  rcases hO with ⟨rfl, rfl⟩ | ⟨b, D, rfl, hB, hCl, hr⟩
  · obtain ⟨_, rfl, _⟩ := hs
    exact absurd (List.length_eq_zero_iff.1 (by rw [hR.len]; simp)) hne
  · have hlen : 0 < len := by
      rcases Nat.eq_zero_or_pos len with h | h
      · subst h
        exact absurd (List.length_eq_zero_iff.1 (by rw [hR.len]; simp)) hne
      · exact h
    rw [hs.1 (.inl hlen)]
    exact fz.new o b _ _ hok hob hloc

mutual
theorem mV_sound (r : Rel μ Im σ w) (fz : Frz μ Im σ ok Im') : ∀ {u₀ u : V} {v : Value}, mV ok π σ u₀ u → RepV w Im μ u v → RepV w Im' (muOf μ π) u₀ v
  | .lit x, u, v, h, hu => by
    unfold mV at h
    subst h
    cases hu with | lit h => exact .lit h
  | .row z l, u, v, h, hu => by
    unfold mV at h
    split at h
    · obtain ⟨rfl, rfl⟩ := h
      cases hu with | row h => exact .row (h.im fz.old)
    · obtain ⟨rfl, rfl⟩ := h
      cases hu with | xrow h => exact .row (h.im fz.old)
    · subst h
      cases hu
      exact .row (.row (C := []) rfl (Nat.le_refl _) (by simp) (Row.nil _ _) (fun h => absurd rfl h) (by simp) (by simp) (by simp))
    · obtain ⟨rfl, hok, h⟩ := h
      obtain ⟨ob, hob, h⟩ := obV_sound h
      unfold mRow at h
      split at h
      · obtain ⟨rfl, hle, rfl⟩ := h
        cases hu with | sl hs => exact .row (row_of_sl r fz hok hob hle hs)
      · exact h.elim
    · exact h.elim
  | .xrow z l, u, v, h, hu => by
    unfold mV at h
    split at h
    · obtain ⟨rfl, rfl⟩ := h
      cases hu with | xrow h => exact .xrow (h.im fz.old)
    · exact h.elim
  | .ref o z i off, u, v, h, hu => by
    unfold mV at h
    split at h
    · obtain ⟨hp, rfl, rfl, rfl⟩ := h
      cases hu with | ref hm => exact .ref (by rw [muOf_some hp, hm]; rfl)
    · exact h.elim
  | .sl o z off len, u, v, h, hu => by
    unfold mV at h
    split at h
    · obtain ⟨hp, rfl, rfl, rfl⟩ := h
      cases hu with
      | sl hs =>
        obtain ⟨x, hx⟩ := hs.some
        refine .sl ?_
        rw [muOf_some hp, hx]
        rw [hx] at hs
        exact hs
    · obtain ⟨hp, rfl, rfl⟩ := h
      cases hu
      exact .sl ⟨Nat.le_refl _, by rw [muOf_none hp]; exact ⟨rfl, rfl, rfl, rfl⟩⟩
    · exact h.elim
  | .rref z l i off, u, v, h, hu => by
    unfold mV at h
    split at h
    · obtain ⟨rfl, rfl, rfl, rfl⟩ := h
      cases hu with
      | rref q1 q2 q3 q4 q5 q6 => exact .rref q1 q2 (fun h => fz.old _ (q3 h)) q4 q5 (fun i c p h1 h2 => (q6 i c p h1 h2).im fz.old)
    · exact h.elim
  | .agg l, u, v, h, hu => by
    unfold mV at h
    split at h
    · cases hu with
      | agg hn ho hr =>
        have := mVs_sound r fz h ⟨hn, hr⟩
        exact .agg this.1 ho this.2
    · exact h.elim
  | .tup l, u, v, h, hu => by
    unfold mV at h
    split at h
    · cases hu with
      | tup hn hr =>
        have := mVs_sound r fz h ⟨hn, hr⟩
        exact .tup this.1 this.2
    · exact h.elim
  | .clo f l, u, v, h, hu => by
    unfold mV at h
    split at h
    · obtain ⟨rfl, h⟩ := h
      cases hu with
      | clo hn hr =>
        have := mVs_sound r fz h ⟨hn, hr⟩
        exact .clo this.1 this.2
    · exact h.elim
theorem mVs_sound (r : Rel μ Im σ w) (fz : Frz μ Im σ ok Im') : ∀ {us₀ us : List V} {vs : List Value}, mVs ok π σ us₀ us → RepL w Im μ us vs → RepL w Im' (muOf μ π) us₀ vs
  | [], [], vs, _, hr => ⟨hr.1, by simp⟩
  | u₀ :: us₀, u :: us, vs, h, hr => by
    unfold mVs at h
    obtain ⟨v, vs, rfl, h1, h2⟩ := hr.uncons
    exact .cons (mV_sound r fz h.1 h1) (mVs_sound r fz h.2 h2)
  | [], _ :: _, _, h, _ => by simp [mVs] at h
  | _ :: _, [], _, h, _ => by simp [mVs] at h
end
theorem mSt_spec : ∀ {s : St} {ps : Pi}, mSt ok π σ s ps → s.length = ps.length ∧ ∀ (j : Nat) ob, s[j]? = some (some ob) → (∃ o ob', ps[j]? = some (some o) ∧ σ[o]? = some (some ob') ∧ mO ok π σ ob ob') ∨ (ps[j]? = some none ∧ ∃ z, ob = .row z [])
  | [], [], _ => ⟨rfl, fun j ob h => by simp at h⟩
  | none :: s, p :: ps, h => by
    unfold mSt at h
    obtain ⟨h1, h2⟩ := mSt_spec h
    refine ⟨by simp [h1], fun j ob hj => ?_⟩
    cases j with
    | zero => simp at hj
    | succ j => simpa using h2 j ob (by simpa using hj)
  | some ob :: s, some o :: ps, h => by
    unfold mSt at h
    obtain ⟨h1, h2⟩ := mSt_spec h.2
    refine ⟨by simp [h1], fun j ob' hj => ?_⟩
    cases j with
    | zero =>
      simp at hj
      subst hj
      obtain ⟨ob'', h3, h4⟩ := obV_sound h.1
      exact .inl ⟨o, ob'', rfl, h3, h4⟩
    | succ j => simpa using h2 j ob' (by simpa using hj)
  | some (.row z l) :: s, none :: ps, h => by
    unfold mSt at h
    obtain ⟨h1, h2⟩ := mSt_spec h.2
    refine ⟨by simp [h1], fun j ob' hj => ?_⟩
    cases j with
    | zero =>
      simp at hj
      subst hj
      obtain ⟨rfl, _⟩ := h
      exact .inr ⟨rfl, z, rfl⟩
    | succ j => simpa using h2 j ob' (by simpa using hj)
  | some (.cells l) :: s, none :: ps, h => by simp [mSt] at h
  | [], _ :: _, h => by simp [mSt] at h
  | none :: _, [], h => by simp [mSt] at h
  | some _ :: _, [], h => by simp [mSt] at h
theorem mO_sound (r : Rel μ Im σ w) (fz : Frz μ Im σ ok Im') {loc : Option (Nat × Nat)} {ob₀ ob : Ob} (h : mO ok π σ ob₀ ob) (ho : RepO w Im μ loc ob) : RepO w Im' (muOf μ π) loc ob₀ := by
  unfold mO at h
  split at h
  · obtain ⟨b, C, e, hB, hone, hL⟩ := ho
    exact ⟨b, C, e, hB, hone, mVs_sound r fz h hL⟩
  · obtain ⟨rfl, rfl⟩ := h
    obtain ⟨hz, hO⟩ := ho
    refine ⟨hz, hO.imp id ?_⟩
    rintro ⟨b, C, e, hB, hl, hr⟩
    exact ⟨b, C, e, hB, hl, fun i c p h1 h2 => (hr i c p h1 h2).im fz.old⟩
  · exact h.elim
theorem lvp_mem : ∀ {π : Pi} {s : St} {j o : Nat} {ob : Ob}, π[j]? = some (some o) → s[j]? = some (some ob) → o ∈ lvp π s
  | [], _, j, _, _, h, _ => by simp at h
  | _ :: _, [], j, _, _, _, h => by simp at h
  | p :: π, x :: s, 0, o, ob, h1, h2 => by
    simp at h1 h2
    subst h1 h2
    simp [lvp]
  | p :: π, x :: s, j + 1, o, ob, h1, h2 => by
    have ih := lvp_mem (π := π) (s := s) (j := j) (by simpa using h1) (by simpa using h2)
    cases p <;> cases x <;> simp [lvp, ih]
theorem ndl_inj {s : St} (h : ndl π s = true) {i j o : Nat} {ob ob' : Ob} (h1 : π[i]? = some (some o)) (h2 : π[j]? = some (some o)) (l1 : s[i]? = some (some ob)) (l2 : s[j]? = some (some ob')) : i = j := by
  have aux : ∀ (π : Pi) (s : St), (lvp π s).Nodup → ∀ (i j : Nat) (ob ob' : Ob), π[i]? = some (some o) → π[j]? = some (some o) → s[i]? = some (some ob) → s[j]? = some (some ob') → i = j := by
    intro π
    induction π with
    | nil => intro s _ i j _ _ h; simp at h
    | cons p π ih =>
      intro s hn i j ob ob' h1 h2 l1 l2
      cases s with
      | nil => simp at l1
      | cons x s =>
        cases i with
        | zero =>
          cases j with
          | zero => rfl
          | succ j =>
            simp at h1 l1
            subst h1 l1
            simp only [lvp, List.nodup_cons] at hn
            exact absurd (lvp_mem (by simpa using h2) (by simpa using l2)) hn.1
        | succ i =>
          cases j with
          | zero =>
            simp at h2 l2
            subst h2 l2
            simp only [lvp, List.nodup_cons] at hn
            exact absurd (lvp_mem (by simpa using h1) (by simpa using l1)) hn.1
          | succ j =>
            have hn' : (lvp π s).Nodup := by
              cases p <;> cases x <;> simp only [lvp, List.nodup_cons] at hn <;> first | exact hn | exact hn.2
            rw [ih s hn' i j ob ob' (by simpa using h1) (by simpa using h2) (by simpa using l1) (by simpa using l2)]
  exact aux π s (of_decide_eq_true h) i j ob ob' h1 h2 l1 l2
theorem ndl_of_ndp {s : St} (h : ndp π = true) : ndl π s = true := by
  have aux : ∀ (π : Pi) (s : St), (π.filterMap id).Nodup → (lvp π s).Nodup ∧ ∀ o, o ∈ lvp π s → o ∈ π.filterMap id := by
    intro π
    induction π with
    | nil => intro s _; simp [lvp]
    | cons p π ih =>
      intro s hn
      cases s with
      | nil => cases p <;> simp [lvp]
      | cons x s =>
        cases p with
        | none =>
          simp only [List.filterMap_cons, id] at hn ⊢
          have := ih s hn
          cases x <;> simpa [lvp] using this
        | some o =>
          simp only [List.filterMap_cons, id, List.nodup_cons] at hn ⊢
          obtain ⟨h1, h2⟩ := ih s hn.2
          cases x with
          | none => exact ⟨h1, fun q hq => List.mem_cons_of_mem _ (h2 q hq)⟩
          | some ob =>
            simp only [lvp, List.nodup_cons]
            refine ⟨⟨fun h => hn.1 (h2 o h), h1⟩, fun q hq => ?_⟩
            rcases List.mem_cons.1 hq with rfl | hq
            · exact List.mem_cons_self ..
            · exact List.mem_cons_of_mem _ (h2 q hq)
  exact decide_eq_true (aux π s (of_decide_eq_true h)).1
/-- The part of a state that is kept. -/
theorem Rel.part {σ₀ : St} (r : Rel μ Im σ w) (fz : Frz μ Im σ ok Im') (hok : ∀ (j o : Nat), π[j]? = some (some o) → ok o = false) (hn : ndl π σ₀ = true) (h : mSt ok π σ σ₀ π)
    (hI : ∀ b, Im' b → Im b ∨ ∃ (o n : Nat) (ob : Ob), ok o = true ∧ σ[o]? = some (some ob) ∧ μ[o]? = some (some (b, n))) : Rel (muOf μ π) Im' σ₀ w ∧ ∀ b ∈ live (muOf μ π) σ₀, b ∈ live μ σ := by
  obtain ⟨hl, hs⟩ := mSt_spec h
  have back : ∀ (j : Nat) ob₀ b n, σ₀[j]? = some (some ob₀) → (muOf μ π)[j]? = some (some (b, n)) → ∃ o ob, π[j]? = some (some o) ∧ σ[o]? = some (some ob) ∧ μ[o]? = some (some (b, n)) := by
    intro j ob₀ b n h1 h2
    rcases hs j ob₀ h1 with ⟨o, ob, h3, h4, _⟩ | ⟨h3, _⟩
    · rw [muOf_some h3] at h2
      obtain ⟨loc, h5, _⟩ := r.rep o ob h4
      rw [h5] at h2
      exact ⟨o, ob, h3, h4, by rw [h5]; simpa using h2⟩
    · rw [muOf_none h3] at h2
      cases h2
  have hlive : ∀ b ∈ live (muOf μ π) σ₀, b ∈ live μ σ := by
    intro b hb
    obtain ⟨j, n, ob₀, h1, h2⟩ := mem_live.1 hb
    obtain ⟨o, ob, _, h4, h5⟩ := back j ob₀ b n h2 h1
    exact mem_live.2 ⟨o, n, ob, h5, h4⟩
  refine ⟨⟨by simp [muOf, hl], fun j ob₀ hj => ?_, fun i j q q' b n n' h1 h2 h3 h4 => ?_, fun b hb => ?_⟩, hlive⟩
  · rcases hs j ob₀ hj with ⟨o, ob, h3, h4, h5⟩ | ⟨h3, z, rfl⟩
    · obtain ⟨loc, h6, h7⟩ := r.rep o ob h4
      exact ⟨loc, by rw [muOf_some h3, h6]; rfl, mO_sound r fz h5 h7⟩
    · exact ⟨none, muOf_none h3, by simp, .inl ⟨rfl, rfl⟩⟩
  · obtain ⟨o, ob, e1, e2, e3⟩ := back i q b n h1 h3
    obtain ⟨o', ob', e4, e5, e6⟩ := back j q' b n' h2 h4
    have := r.inj o o' ob ob' b n n' e2 e5 e3 e6
    subst this
    exact ndl_inj hn e1 e4 h1 h2
  · rcases hI b hb with h1 | ⟨o, n, ob, h1, h2, h3⟩
    · exact ⟨(r.im b h1).1, fun h => (r.im b h1).2 (hlive b h)⟩
    · refine ⟨r.lt (mem_live.2 ⟨o, n, ob, h3, h2⟩), fun h => ?_⟩
      obtain ⟨j, m, ob₀, h4, h5⟩ := mem_live.1 h
      obtain ⟨o', ob', h6, h7, h8⟩ := back j ob₀ b m h5 h4
      have := r.inj o o' ob ob' b n m h2 h7 h3 h8
      subst this
      rw [hok j o h6] at h1
      cases h1
end
end Go.Vx
