import Derived.Test.YthbcfjlalmhabaaVd
/-! Memory: a block more, a block with other cells, a block told anew. -/
namespace Go.Vx
open Go.Eng
set_option linter.unusedSimpArgs false
set_option linter.unusedVariables false
section
variable {w w' : World} {Im : Nat → Prop} {μ : Mu} {σ : St} {ρ : Vg} {ρc : Rg} {P : Program}

theorem get_snoc {α : Type} {l : List α} {x : α} {i : Nat} : (l ++ [x])[i]? = if i < l.length then l[i]? else if i = l.length then some x else none := by
  by_cases h : i < l.length
  · rw [if_pos h, List.getElem?_append_left h]
  · rw [if_neg h, List.getElem?_append_right (by omega)]
    by_cases h2 : i = l.length
    · subst h2; simp
    · rw [if_neg h2, List.getElem?_eq_none (by simp; omega)]
theorem get_lt {α : Type} {l : List α} {x : α} {i : Nat} (h : l[i]? = some x) : i < l.length := (List.getElem?_eq_some_iff.1 h).1

/-- A block more. -/
theorem Rel.add (r : Rel μ Im σ w) {loc : Option (Nat × Nat)} {ob : Ob} (hx : Ext [] w w') (hf : ∀ b n, loc = some (b, n) → w.heap.size ≤ b) (ho : RepO w' Im (μ ++ [loc]) loc ob) :
    Rel (μ ++ [loc]) Im (σ ++ [some ob]) w' ∧ Stp μ Im σ w (μ ++ [loc]) Im (σ ++ [some ob]) w' := by
  have hl := r.len
  have hm : Mono μ Im w (μ ++ [loc]) Im w' := ⟨List.prefix_append _ _, fun _ h => h, fun b hb => hx.block b (r.im b hb).1 (by simp)⟩
  have hlive : ∀ b ∈ live (μ ++ [loc]) (σ ++ [some ob]), b ∈ live μ σ ∨ w.heap.size ≤ b := by
    intro b hb
    obtain ⟨o, n, ob', h1, h2⟩ := mem_live.1 hb
    rw [get_snoc] at h1 h2
    split at h1
    · rw [if_pos (by omega)] at h2
      exact .inl (mem_live.2 ⟨o, n, ob', h1, h2⟩)
    · split at h1
      · cases h1
        exact .inr (hf b n rfl)
      · cases h1
  refine ⟨⟨by simp [hl], fun o ob' h => ?_, fun o o' q q' b n n' h1 h2 h3 h4 => ?_, fun b hb => ⟨Nat.lt_of_lt_of_le (r.im b hb).1 hx.size, fun hb' => ?_⟩⟩, ⟨List.prefix_append _ _, fun _ h => h, hx.mono (by simp), hlive, fun _ h => .inl h⟩⟩
  · rw [get_snoc] at h
    split at h
    · obtain ⟨loc', h1, h2⟩ := r.rep o ob' h
      refine ⟨loc', by rw [get_snoc, if_pos (by omega)]; exact h1, h2.mono hm (fun b n e => ?_)⟩
      subst e
      exact hx.block b (r.lt (mem_live.2 ⟨o, n, ob', h1, h⟩)) (by simp)
    · split at h
      · cases h
        rename_i _ e
        exact ⟨loc, by rw [get_snoc, if_neg (by omega), if_pos (by omega)], ho⟩
      · cases h
  · rw [get_snoc] at h1 h2 h3 h4
    split at h3
    · rw [if_pos (by omega)] at h1
      split at h4
      · rw [if_pos (by omega)] at h2
        exact r.inj o o' q q' b n n' h1 h2 h3 h4
      · split at h4
        · cases h4
          have := hf b n' rfl
          have := r.lt (mem_live.2 ⟨o, n, q, h3, h1⟩)
          omega
        · cases h4
    · split at h3
      · cases h3
        have := hf b n rfl
        split at h4
        · rw [if_pos (by omega)] at h2
          have := r.lt (mem_live.2 ⟨o', n', q', h4, h2⟩)
          omega
        · split at h4
          · omega
          · cases h4
      · cases h3
  · rcases hlive b hb' with h | h
    · exact (r.im b hb).2 h
    · have := (r.im b hb).1; omega

theorem live_set {o : Nat} {ob ob' : Ob} (h : σ[o]? = some (some ob)) {b : Nat} : b ∈ live μ (σ.set o (some ob')) ↔ b ∈ live μ σ := by
  rw [mem_live, mem_live]
  constructor
  · rintro ⟨i, n, q, h1, h2⟩
    by_cases e : o = i
    · subst e; exact ⟨o, n, ob, h1, h⟩
    · rw [List.getElem?_set_ne e] at h2; exact ⟨i, n, q, h1, h2⟩
  · rintro ⟨i, n, q, h1, h2⟩
    by_cases e : o = i
    · subst e; exact ⟨o, n, ob', h1, by rw [List.getElem?_set_self (get_lt h)]⟩
    · exact ⟨i, n, q, h1, by rw [List.getElem?_set_ne e]; exact h2⟩
/-- A block with other cells. -/
theorem Rel.upd (r : Rel μ Im σ w) {o b n : Nat} {ob ob' : Ob} (hσ : σ[o]? = some (some ob)) (hμ : μ[o]? = some (some (b, n))) (hx : Ext [b] w w') (ho : RepO w' Im μ (some (b, n)) ob') :
    Rel μ Im (σ.set o (some ob')) w' ∧ Stp μ Im σ w μ Im (σ.set o (some ob')) w' := by
  have hbl : b ∈ live μ σ := mem_live.2 ⟨o, n, ob, hμ, hσ⟩
  have hm : Mono μ Im w μ Im w' := ⟨List.prefix_refl _, fun _ h => h, fun c hc => hx.block c (r.im c hc).1 (by
    simp only [List.mem_singleton]
    intro e
    subst e
    exact (r.im c hc).2 hbl)⟩
  refine ⟨⟨by simp [r.len], fun i q h => ?_, fun i j q q' c m m' h1 h2 h3 h4 => ?_, fun c hc => ⟨Nat.lt_of_lt_of_le (r.im c hc).1 hx.size, fun h => (r.im c hc).2 ((live_set hσ).1 h)⟩⟩,
    ⟨List.prefix_refl _, fun _ h => h, hx.mono (by simp; exact .inl hbl), fun c hc => .inl ((live_set hσ).1 hc), fun _ h => .inl h⟩⟩
  · by_cases e : o = i
    · subst e
      rw [List.getElem?_set_self (get_lt hσ)] at h
      cases h
      exact ⟨_, hμ, ho⟩
    · rw [List.getElem?_set_ne e] at h
      obtain ⟨loc, h1, h2⟩ := r.rep i q h
      refine ⟨loc, h1, h2.mono hm fun c m e' => ?_⟩
      subst e'
      refine hx.block c (r.lt (mem_live.2 ⟨i, m, q, h1, h⟩)) ?_
      simp only [List.mem_singleton]
      intro e'
      subst e'
      exact e (r.inj o i ob q c n m hσ h hμ h1)
  · have back : ∀ (i : Nat) q, (σ.set o (some ob'))[i]? = some (some q) → ∃ q', σ[i]? = some (some q') := by
      intro i q h
      by_cases e : o = i
      · subst e; exact ⟨ob, hσ⟩
      · rw [List.getElem?_set_ne e] at h; exact ⟨q, h⟩
    obtain ⟨_, k1⟩ := back i q h1
    obtain ⟨_, k2⟩ := back j q' h2
    exact r.inj i j _ _ c m m' k1 k2 h3 h4
/-- A block told anew: its old number is dead. -/
theorem Rel.renew (r : Rel μ Im σ w) {o : Nat} {ob ob' : Ob} {loc loc' : Option (Nat × Nat)} (hσ : σ[o]? = some (some ob)) (hμ : μ[o]? = some loc) (hx : Ext (live μ σ) w w')
    (hu : ∀ c ∈ live μ σ, (∀ n, loc ≠ some (c, n)) → w'.heap[c]? = w.heap[c]?) (hl' : ∀ b n, loc' = some (b, n) → (∃ n', loc = some (b, n')) ∨ w.heap.size ≤ b) (ho : RepO w' Im (μ ++ [loc']) loc' ob') :
    Rel (μ ++ [loc']) Im (σ.set o none ++ [some ob']) w' ∧ Stp μ Im σ w (μ ++ [loc']) Im (σ.set o none ++ [some ob']) w' := by
  have hl := r.len
  have hm : Mono μ Im w (μ ++ [loc']) Im w' := ⟨List.prefix_append _ _, fun _ h => h, fun c hc => hx.block c (r.im c hc).1 (r.im c hc).2⟩
  have old : ∀ (i : Nat) q, (σ.set o none)[i]? = some (some q) → i ≠ o ∧ σ[i]? = some (some q) := by
    intro i q h
    by_cases e : o = i
    · subst e
      rw [List.getElem?_set_self (get_lt hσ)] at h
      cases h
    · rw [List.getElem?_set_ne e] at h
      exact ⟨fun e' => e e'.symm, h⟩
  have hlive : ∀ b ∈ live (μ ++ [loc']) (σ.set o none ++ [some ob']), b ∈ live μ σ ∨ w.heap.size ≤ b := by
    intro b hb
    obtain ⟨i, n, q, h1, h2⟩ := mem_live.1 hb
    rw [get_snoc] at h1 h2
    simp only [List.length_set] at h2
    split at h1
    · rw [if_pos (by omega)] at h2
      exact .inl (mem_live.2 ⟨i, n, q, h1, (old i q h2).2⟩)
    · split at h1
      · cases h1
        rcases hl' b n rfl with ⟨n', e⟩ | h
        · subst e; exact .inl (mem_live.2 ⟨o, n', ob, hμ, hσ⟩)
        · exact .inr h
      · cases h1
  refine ⟨⟨by simp [hl], fun i q h => ?_, fun i j q q' c m m' h1 h2 h3 h4 => ?_, fun c hc => ⟨Nat.lt_of_lt_of_le (r.im c hc).1 hx.size, fun h => ?_⟩⟩, ⟨List.prefix_append _ _, fun _ h => h, hx, hlive, fun _ h => .inl h⟩⟩
  · rw [get_snoc] at h
    simp only [List.length_set] at h
    split at h
    · obtain ⟨hne, h⟩ := old i q h
      obtain ⟨l, h1, h2⟩ := r.rep i q h
      refine ⟨l, by rw [get_snoc, if_pos (by omega)]; exact h1, h2.mono hm fun c m e => ?_⟩
      subst e
      refine hu c (mem_live.2 ⟨i, m, q, h1, h⟩) fun n e => ?_
      subst e
      exact hne (r.inj i o q ob c m n h hσ h1 hμ)
    · split at h
      · cases h
        exact ⟨loc', by rw [get_snoc, if_neg (by omega), if_pos (by omega)], ho⟩
      · cases h
  · rw [get_snoc] at h1 h2 h3 h4
    simp only [List.length_set] at h1 h2
    have other : ∀ (i : Nat) q c m m', i < μ.length → (σ.set o none)[i]? = some (some q) → μ[i]? = some (some (c, m)) → loc' = some (c, m') → False := by
      intro i q c m m' hi h1 h3 h4
      obtain ⟨hne, h⟩ := old i q h1
      rcases hl' c m' h4 with ⟨n', e⟩ | h'
      · subst e
        exact hne (r.inj i o q ob c m n' h hσ h3 hμ)
      · have := r.lt (mem_live.2 ⟨i, m, q, h3, h⟩)
        omega
    split at h3
    · rw [if_pos (by omega)] at h1
      split at h4
      · rw [if_pos (by omega)] at h2
        exact r.inj i j q q' c m m' (old i q h1).2 (old j q' h2).2 h3 h4
      · split at h4
        · injection h4 with h4
          exact (other i q c m m' ‹_› h1 h3 h4).elim
        · cases h4
    · split at h3
      · injection h3 with h3
        split at h4
        · rw [if_pos (by omega)] at h2
          exact (other j q' c m' m ‹_› h2 h4 h3).elim
        · split at h4
          · omega
          · cases h4
      · cases h3
  · rcases hlive c h with h | h
    · exact (r.im c hc).2 h
    · have := (r.im c hc).1; omega

theorem obV_sound {o : Nat} {F : Ob → Prop} (h : obV σ o F) : ∃ ob, σ[o]? = some (some ob) ∧ F ob := by
  obtain ⟨x, hx, h⟩ := atK_sound h
  cases x with
  | none => exact h.elim
  | some ob => exact ⟨ob, hx, h⟩

/-- What an operation on memory comes to. -/
def Runs (e : Bool) (μ : Mu) (Im : Nat → Prop) (σ : St) (w : World) (K : KV) (op : Kv → Prop) : Prop :=
  ∀ k : Kv, (∀ v w' u σ' μ' Im', Rel μ' Im' σ' w' → Stp μ Im σ w μ' Im' σ' w' → (e = true → Ext [] w w') → RepV w' Im' μ' u v → K true u σ' → k true v w') → op k

theorem RepP.one {p : PV} {v : Value} (h : RepP w Im p v) : oneC v = true := by
  cases h with
  | lit h => exact h
  | row => rfl
theorem flat_get {z : Nat} : ∀ {l : List (List PV)} {i off : Nat} {e : List PV}, (∀ e ∈ l, e.length = z) → l[i]? = some e → off < z → l.flatten[i * z + off]? = e[off]?
  | [], i, off, e, _, h, _ => by simp at h
  | x :: l, 0, off, e, hz, h, ho => by
    simp at h
    subst h
    simp only [List.flatten_cons, Nat.zero_mul, Nat.zero_add]
    rw [List.getElem?_append_left (by rw [hz x (by simp)]; exact ho)]
  | x :: l, i + 1, off, e, hz, h, ho => by
    have hx := hz x (by simp)
    simp only [List.flatten_cons]
    rw [List.getElem?_append_right (by rw [hx, Nat.add_mul]; omega), hx]
    have := flat_get (l := l) (i := i) (off := off) (fun y hy => hz y (by simp [hy])) (by simpa using h) ho
    rw [← this]
    congr 1
    rw [Nat.add_mul]
    omega
theorem ofP_rep {p : PV} {v : Value} (h : RepP w Im p v) : RepV w Im μ (V.ofP p) v := by
  cases h with
  | lit h => exact .lit h
  | row q1 q2 q3 q4 q5 q6 q7 q8 => exact .row (.row q1 q2 q3 q4 q5 q6 q7 q8)
/-- Cells of a row, read. -/
theorem rdP_sound {e : List PV} {off b base : Nat} {q : Option Nat} {F : FV} {t : TypeId} {C : List Value} (hq : agOf P t = some q) (hb : ∀ j c, C[j]? = some c → w.cell? ⟨b, base + j, none⟩ = some c) (hn : C.length = e.length) (hr : ∀ (j : Nat) c p, C[j]? = some c → e[j]? = some p → RepP w Im p c) (h : rdP e off q F) :
    ∃ u v, RepV w Im μ u v ∧ F true u ∧ ∀ k : Kv, loadK P t (.pointer (some ⟨b, base + off, none⟩)) w k = k true v w := by
  obtain ⟨d, hd, hor⟩ := agOf_spec hq
  unfold rdP at h
  rcases hor with ⟨hg, rfl⟩ | ⟨n, hg, rfl, hz⟩
  · obtain ⟨p, h1, h2⟩ := atK_sound h
    have hc : C[off]? = some (C[off]'(by rw [hn]; exact get_lt h1)) := List.getElem?_eq_getElem _
    refine ⟨_, _, ofP_rep (hr off _ p hc h1), h2, fun k => ?_⟩
    rw [loadK_cell hd hg, cellK_of (hb off _ hc)]
  · obtain ⟨h1, h2⟩ := tkK_sound h
    have hlen : ((C.drop off).take n).length = n := by simp; omega
    refine ⟨_, .agg ((C.drop off).take n).toArray, .agg (by simp; omega) (fun c hc => ?_) (fun i u c hu hc => ?_), h2, fun k => ?_⟩
    · have hc' := List.mem_of_mem_drop (List.mem_of_mem_take hc)
      obtain ⟨j, hj, hje⟩ := List.mem_iff_getElem.1 hc'
      have hp : e[j]? = some (e[j]'(by omega)) := List.getElem?_eq_getElem _
      exact (hr j c _ (by rw [← hje]; exact List.getElem?_eq_getElem _) hp).one
    · rw [List.getElem?_map] at hu
      rw [List.getElem?_take] at hc hu
      split at hc
      · rw [if_pos ‹_›] at hu
        rw [List.getElem?_drop] at hc hu
        cases hp : e[off + i]? with
        | none => rw [hp] at hu; cases hu
        | some p =>
          rw [hp] at hu
          cases hu
          exact ofP_rep (hr _ _ _ hc hp)
      · cases hc
    · rw [loadK_agg hd hg hz]
      refine cellsK_of (cs := (C.drop off).take n) (fun i hi => ?_) hlen.symm
      rw [hlen] at hi
      rw [Nat.add_assoc]
      refine hb (off + i) _ ?_
      simp
theorem ldV_sound {t : TypeId} {u : V} {a : Value} {F : FV} (r : Rel μ Im σ w) (hu : RepV w Im μ u a) (h : ldV P t u σ F) : ∃ u v, RepV w Im μ u v ∧ F true u ∧ ∀ k : Kv, loadK P t a w k = k true v w := by
  unfold ldV at h
  cases hq : agOf P t with
  | none => rw [hq] at h; exact h.elim
  | some q =>
    rw [hq] at h
    simp only at h
    unfold rdV at h
    split at h
    · rename_i o z i off
      obtain ⟨ob, hob, hh⟩ := obV_sound h
      clear h
      cases hu with
      | @ref _ _ _ _ b n hm =>
        obtain ⟨loc, hl, hO⟩ := r.rep _ ob hob
        rw [hm] at hl
        cases hl
        unfold rdO at hh
        split at hh
        · rename_i l
          unfold adr at hh
          obtain ⟨b', C, e, hB, ho, hL⟩ := hO
          cases e
          obtain ⟨d, hd, hor⟩ := agOf_spec hq
          rcases hor with ⟨hg, rfl⟩ | ⟨n, hg, rfl, hz⟩
          · obtain ⟨x, hx, hF⟩ := atK_sound hh
            obtain ⟨c, hc, hxc⟩ := hL.get hx
            refine ⟨_, _, hxc, hF, fun k => ?_⟩
            rw [loadK_cell hd hg, cellK_of (hB.cell hc)]
          · obtain ⟨h1, h2⟩ := tkK_sound hh
            have hp := hL.part (i * z + off) n
            have hCl := hL.1
            refine ⟨_, _, .agg hp.1 (fun c hc => ho c (List.mem_of_mem_drop (List.mem_of_mem_take hc))) hp.2, h2, fun k => ?_⟩
            rw [loadK_agg hd hg hz]
            refine cellsK_of (cs := (C.drop (i * z + off)).take n) (fun j hj => ?_) (by simp; omega)
            have hj' : j < n := by simp at hj; omega
            refine hB.cell ?_
            rw [List.getElem_take, List.getElem_drop]
            exact List.getElem?_eq_getElem _
        · rename_i z' l
          split at hh
          · rename_i e
            subst e
            obtain ⟨hz, hO⟩ := hO
            rcases hO with ⟨e, _⟩ | ⟨b', C, e, hB, hl, hr⟩
            · cases e
            · cases e
              obtain ⟨el, hel, h⟩ := atK_sound hh
              have hez := hz el (List.mem_of_getElem? hel)
              have hil := get_lt hel
              have hle : i * z' + z' ≤ l.length * z' := by rw [← Nat.succ_mul]; exact Nat.mul_le_mul_right z' hil
              refine rdP_sound (C := (C.drop (i * z')).take z') hq (fun j c hc => ?_) (by simp; omega) (fun j c p hc hp => ?_) h
              · rw [List.getElem?_take] at hc
                split at hc
                · rw [List.getElem?_drop] at hc
                  exact hB.cell hc
                · cases hc
              · rw [List.getElem?_take] at hc
                split at hc
                · rename_i hj
                  rw [List.getElem?_drop] at hc
                  exact hr _ c p hc (by rw [flat_get hz hel hj]; exact hp)
                · cases hc
          · exact hh.elim
    · rename_i z l i off
      cases hu with
      | @rref _ _ _ _ ad C hz hR hI hn ho hr =>
        obtain ⟨el, hel, h⟩ := atK_sound h
        have hez := hz el (List.mem_of_getElem? hel)
        have hil := get_lt hel
        have hle : i * z + z ≤ l.length * z := by rw [← Nat.succ_mul]; exact Nat.mul_le_mul_right z hil
        refine rdP_sound (C := (C.drop (i * z)).take z) hq (fun j c hc => ?_) (by simp; omega) (fun j c p hc hp => ?_) h
        · rw [List.getElem?_take] at hc
          split at hc
          · rw [List.getElem?_drop] at hc
            have := hR.2 (i * z + j) (get_lt hc)
            rw [Nat.add_assoc, this, ← List.getElem?_eq_getElem, hc]
          · cases hc
        · rw [List.getElem?_take] at hc
          split at hc
          · rename_i hj
            rw [List.getElem?_drop] at hc
            exact hr _ c p hc (by rw [flat_get hz hel hj]; exact hp)
          · cases hc
    · exact h.elim
end
end Go.Vx
