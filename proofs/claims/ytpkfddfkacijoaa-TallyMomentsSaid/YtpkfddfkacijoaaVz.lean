import Derived.Test.YtpkfddfkacijoaaE6
namespace Go.Vx
open Go.Eng
set_option linter.unusedSimpArgs false
set_option linter.unusedVariables false
def gP : V → PV → Prop
  | .lit v, .lit v' => v' = v
  | .lit v, .row _ l => v = .slice none 0 0 ∧ l = []
  | .row z l, .row z' l' => z' = z ∧ l' = l
  | .xrow z l, .row z' l' => z' = z ∧ l' = l
  | _, _ => False
def gPs : List V → List PV → Prop
  | [], [] => True
  | u :: us, p :: ps => gP u p ∧ gPs us ps
  | _, _ => False
def gO (z : Nat) (l : List (List PV)) : Ob → Prop
  | .cells us => (match l with | [ps] => z = ps.length ∧ gPs us ps | _ => False)
  | _ => False
def gV (o : Nat) (σ : St) (u₀ u : V) : Prop := match u₀ with
  | .rref z l i off => (match u with
    | .ref o' z' i' off' => o' = o ∧ z' = 0 ∧ i' = 0 ∧ off' = 0 ∧ i = 0 ∧ off = 0 ∧ obV σ o fun ob => gO z l ob
    | u => u = .rref z l i off)
  | u₀ => u = u₀
def gVs (o : Nat) (σ : St) : List V → List V → Prop
  | [], [] => True
  | u :: us, v :: vs => gV o σ u v ∧ gVs o σ us vs
  | _, _ => False
section
variable {w : World} {Im Im' : Nat → Prop} {μ : Mu} {σ : St} {o : Nat}
theorem gP_sound (hI : ∀ b, Im b → Im' b) {u : V} {p : PV} {c : Value} (h : gP u p) (hu : RepV w Im μ u c) : RepP w Im' p c := by
  cases u <;> cases p <;> simp only [gP] at h
  · subst h
    cases hu with | lit h => exact .lit h
  · obtain ⟨rfl, rfl⟩ := h
    cases hu
    exact .row (C := []) rfl (Nat.le_refl _) (by simp) (Row.nil _ _) (fun h => absurd rfl h) (by simp) (by simp) (by simp)
  · obtain ⟨rfl, rfl⟩ := h
    cases hu with | row h => exact h.im hI
  · obtain ⟨rfl, rfl⟩ := h
    cases hu with | xrow h => exact h.im hI
theorem gPs_sound (hI : ∀ b, Im b → Im' b) : ∀ {us : List V} {ps : List PV} {C : List Value}, gPs us ps → RepL w Im μ us C → ps.length = us.length ∧ ∀ (i : Nat) c p, C[i]? = some c → ps[i]? = some p → RepP w Im' p c
  | [], [], C, _, _ => ⟨rfl, fun i c p _ h => by simp at h⟩
  | u :: us, p :: ps, C, h, hr => by
    obtain ⟨v, vs, rfl, h1, h2⟩ := hr.uncons
    obtain ⟨e, ih⟩ := gPs_sound hI h.2 h2
    refine ⟨by simp [e], fun i c q hc hq => ?_⟩
    cases i with
    | zero => simp at hc hq; subst hc hq; exact gP_sound hI h.1 h1
    | succ i => simp at hc hq; exact ih i c q hc hq
  | [], _ :: _, _, h, _ => by simp [gPs] at h
  | _ :: _, [], _, h, _ => by simp [gPs] at h
theorem gV_sound (r : Rel μ Im σ w) (hI : ∀ b, Im b → Im' b) (ho : ∀ b n ob, σ[o]? = some (some ob) → μ[o]? = some (some (b, n)) → Im' b) {u₀ u : V} {v : Value} (h : gV o σ u₀ u) (hu : RepV w Im μ u v) : RepV w Im' μ u₀ v := by
  have std : ∀ {u : V}, RepV w Im μ u v → RepV w Im' μ u v := fun h => h.mono ⟨List.prefix_refl _, hI, fun _ _ => rfl⟩
  unfold gV at h
  split at h
  · split at h
    · rename_i z l i off _ o' z' i' off'
      obtain ⟨rfl, rfl, rfl, rfl, rfl, rfl, h⟩ := h
      obtain ⟨ob, hob, h⟩ := obV_sound h
      obtain ⟨loc, hloc, hO⟩ := r.rep _ _ hob
      cases hu with
      | @ref _ _ _ _ b n hm =>
        rw [hloc] at hm
        cases hm
        cases ob with
        | cells us =>
          match l, h with
          | [ps], h =>
            obtain ⟨rfl, hps⟩ := h
            obtain ⟨b', C, e, hB, hone, hl⟩ := hO
            cases e
            obtain ⟨el, hrep⟩ := gPs_sound hI hps hl
            have hR : Row w (some ⟨b, 0, none⟩) C := Row.of_blk hB (fun i hi => by simp [hi])
            have := RepV.rref (μ := μ) (z := ps.length) (i := 0) (off := 0) (l := [ps]) (Im := Im') (fun e he => by simp at he; rw [he]) hR (fun _ => by rw [ab_some]; exact ho b _ _ hob hloc) (by simp [hl.1, el]) hone (fun i c p h1 h2 => hrep i c p h1 (by simpa using h2))
            rw [ab_some, ao_some] at this
            simpa using this
        | row z'' L => exact h.elim
    · subst h
      exact std hu
  · subst h
    exact std hu
theorem gVs_sound (r : Rel μ Im σ w) (hI : ∀ b, Im b → Im' b) (ho : ∀ b n ob, σ[o]? = some (some ob) → μ[o]? = some (some (b, n)) → Im' b) : ∀ {us₀ us : List V} {vs : List Value}, gVs o σ us₀ us → RepL w Im μ us vs → RepL w Im' μ us₀ vs
  | [], [], vs, _, hr => ⟨hr.1, by simp⟩
  | u₀ :: us₀, u :: us, vs, h, hr => by
    obtain ⟨v, vs, rfl, h1, h2⟩ := hr.uncons
    exact .cons (gV_sound r hI ho h.1 h1) (gVs_sound r hI ho h.2 h2)
  | [], _ :: _, _, h, _ => by simp [gVs] at h
  | _ :: _, [], _, h, _ => by simp [gVs] at h
end
theorem frzV {P : Program} {e : Bool} {f : FuncId} {vs : List V} {σ : St} {K : KV} (o : Nat) (vs' : List V) (h : callV P e f vs' (kill [o] σ) K)
    (hm : gVs o σ vs' vs := by simp (disch := omega) only [go_sem, gVs, gV, gO, gPs, gP, Int.reduceEq, Int.reduceToNat, Nat.reduceAdd, Nat.reduceMul, Nat.reduceEqDiff, ↓reduceIte, true_and, and_true, and_self, V.lit.injEq, Value.int.injEq, Value.bool.injEq, List.length_cons, List.length_nil]; try (first | omega | (simp; done) | (simp; omega))) : callV P e f vs σ K := by
  intro μ Im w args r hr
  have hkl := kill_len [o] σ
  have hI : ∀ b, Im b → (Im b ∨ ∃ n ob, σ[o]? = some (some ob) ∧ μ[o]? = some (some (b, n))) := fun b hb => .inl hb
  have hlv : ∀ b, b ∈ live μ (kill [o] σ) → b ∈ live μ σ := fun b hb => by
    obtain ⟨o', n, ob, h1, h2⟩ := mem_live.1 hb
    exact mem_live.2 ⟨o', n, ob, h1, (kill_get _ _ h2).2⟩
  have r' : Rel μ (fun b => Im b ∨ ∃ n ob, σ[o]? = some (some ob) ∧ μ[o]? = some (some (b, n))) (kill [o] σ) w := by
    refine ⟨by rw [hkl]; exact r.len, fun o' ob hob => ?_, fun o1 o2 ob1 ob2 b n n' h1 h2 h3 h4 => r.inj o1 o2 ob1 ob2 b n n' (kill_get _ _ h1).2 (kill_get _ _ h2).2 h3 h4, fun b hb => ?_, LayOk.mono (μ := μ) (μ' := μ) ⟨List.prefix_refl _, hI, fun _ _ => rfl⟩ r.lay⟩
    · obtain ⟨loc, h1, h2⟩ := r.rep o' ob (kill_get _ _ hob).2
      exact ⟨loc, h1, h2.mono ⟨List.prefix_refl _, hI, fun _ _ => rfl⟩ (fun _ _ _ => rfl)⟩
    · rcases hb with hb | ⟨n, ob, h1, h2⟩
      · obtain ⟨q1, q2⟩ := r.im b hb
        exact ⟨q1, fun hm => q2 (hlv b hm)⟩
      · refine ⟨r.lt (mem_live.2 ⟨o, n, ob, h2, h1⟩), fun hm => ?_⟩
        obtain ⟨o', n', ob', h3, h4⟩ := mem_live.1 hm
        obtain ⟨h5, h6⟩ := kill_get _ _ h4
        have := r.inj o' o ob' ob b n' n h6 h1 h3 h2
        simp [this] at h5
  have hl := gVs_sound (Im' := fun b => Im b ∨ ∃ n ob, σ[o]? = some (some ob) ∧ μ[o]? = some (some (b, n))) r hI (fun b n ob h1 h2 => .inr ⟨n, ob, h1, h2⟩) hm hr
  refine cllK_mono (h μ _ w args r' hl) ?_
  rintro v w' ⟨u, σ', μ', Im', q1, q2, q3, q4, q5⟩
  refine ⟨u, σ', μ', Im', q1, ⟨q2.pre, fun b hb => q2.im b (.inl hb), q2.ext.mono (fun b hb => .inl (hlv b hb)), fun b hb => ?_, fun b hb => ?_⟩, q3, q4, q5⟩
  · rcases q2.live b hb with h1 | h1
    · exact .inl (hlv b h1)
    · exact .inr h1
  · rcases q2.fresh b hb with (h1 | ⟨n, ob, h1, h2⟩) | h1 | h1
    · exact .inl h1
    · exact .inr (.inl (mem_live.2 ⟨o, n, ob, h2, h1⟩))
    · exact .inr (.inl (hlv b h1))
    · exact .inr (.inr h1)
end Go.Vx
