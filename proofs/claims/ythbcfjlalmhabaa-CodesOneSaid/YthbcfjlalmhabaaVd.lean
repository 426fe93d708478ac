import Derived.Test.YthbcfjlalmhabaaVc
/-! Slices of slices and composite values; one operation that touches no memory. -/
namespace Go.Vx
open Go.Eng
set_option linter.unusedSimpArgs false
set_option linter.unusedVariables false
section
variable {w : World} {Im : Nat → Prop} {μ : Mu} {ρ : Vg} {ρc : Rg} {P : Program}

theorem bdK_sound {u : V} {n : Nat} {a : Value} {G : Nat → Prop} (hu : RepV w Im μ u a) (h : bdK u n G) : ∃ m, m ≤ n ∧ G m ∧ ∀ c w' n', n ≤ n' → (Instr.sliceBound a n' c).run P w' = .ok m w' := by
  unfold bdK at h
  split at h
  · cases hu
    split at h
    · rename_i hq
      exact ⟨_, by omega, h, fun c w' n' hn => run_sliceBound ⟨hq.1, by omega⟩ w'⟩
    · exact h.elim
  · exact h.elim
theorem bdoK_some {u : V} {d n : Nat} {G : Nat → Prop} : bdoK (some u) d n G = bdK u n G := rfl
theorem low_sound {lo : Option V} {lo' : Option Value} {h : Nat} {G : Nat → Prop} (hlo : RepOp w Im μ lo lo') (hG : bdoK lo 0 h G) : ∃ l, l ≤ h ∧ G l ∧ ((lo' = none ∧ l = 0) ∨ ∃ v, lo' = some v ∧ ∀ c w', (Instr.sliceBound v h c).run P w' = .ok l w') := by
  cases lo with
  | none =>
    cases lo' with
    | none => exact ⟨0, Nat.zero_le _, hG, .inl ⟨rfl, rfl⟩⟩
    | some _ => exact hlo.elim
  | some u =>
    cases lo' with
    | none => exact hlo.elim
    | some v =>
      obtain ⟨m, h1, h2, h3⟩ := bdK_sound (P := P) hlo (show bdK u h G from hG)
      exact ⟨m, h1, h2, .inr ⟨v, rfl, fun c w' => h3 c w' h (Nat.le_refl _)⟩⟩
/-- Both bounds. -/
theorem bounds_sound {len cap n : Nat} {lo hi : Option V} {lo' hi' : Option Value} {G : Nat → Nat → Prop} (hlo : RepOp w Im μ lo lo') (hhi : RepOp w Im μ hi hi') (hn : n ≤ cap) (hln : len ≤ n)
    (h : bdoK hi len n fun h => bdoK lo 0 h fun l => G l h) : ∃ l h, l ≤ h ∧ h ≤ n ∧ G l h ∧ ∀ w', (Instr.sliceBounds true len cap lo' hi' none).run P w' = .ok (l, h, cap) w' := by
  cases hi with
  | none =>
    cases hi' with
    | some _ => exact hhi.elim
    | none =>
      obtain ⟨l, h1, h2, h3⟩ := low_sound (P := P) hlo (show bdoK lo 0 len _ from h)
      refine ⟨l, _, h1, hln, h2, fun w' => ?_⟩
      rcases h3 with ⟨rfl, rfl⟩ | ⟨v, rfl, h3⟩
      · rfl
      · unfold Instr.sliceBounds
        simp only [pure_bind, Sem.run_bind, h3, Result.andThen_ok, Option.isSome_none, Bool.false_eq_true, if_false]
        rfl
  | some u =>
    cases hi' with
    | none => exact hhi.elim
    | some v =>
      rw [bdoK_some] at h
      obtain ⟨m, h1, h2, h3⟩ := bdK_sound (P := P) hhi h
      obtain ⟨l, h4, h5, h6⟩ := low_sound (P := P) hlo h2
      refine ⟨l, m, h4, h1, h5, fun w' => ?_⟩
      have h3c : ∀ c w', (Instr.sliceBound v cap c).run P w' = .ok m w' := fun c w' => h3 c w' cap hn
      rcases h6 with ⟨rfl, rfl⟩ | ⟨v', rfl, h6⟩
      · unfold Instr.sliceBounds
        simp only [pure_bind, Sem.run_bind, h3c, Result.andThen_ok, if_true]
        rfl
      · unfold Instr.sliceBounds
        simp only [pure_bind, Sem.run_bind, h3c, h6, Result.andThen_ok, Option.isSome_none, Bool.false_eq_true, if_false, if_true]
        rfl
/-- All three. -/
theorem bounds3_sound {len cap n : Nat} {lo hi : Option V} {mx : V} {lo' hi' : Option Value} {mx' : Value} {G : Nat → Nat → Prop} (hlo : RepOp w Im μ lo lo') (hhi : RepOp w Im μ hi hi') (hmx : RepV w Im μ mx mx') (hn : n ≤ cap) (hh : hi.isSome = true)
    (h : bdK mx n fun m => bdoK hi len m fun h => if m = h then bdoK lo 0 h fun l => G l h else False) : ∃ l h, l ≤ h ∧ h ≤ n ∧ G l h ∧ ∀ w', (Instr.sliceBounds true len cap lo' hi' (some mx')).run P w' = .ok (l, h, h) w' := by
  obtain ⟨m, h1, h2, h3⟩ := bdK_sound (P := P) hmx h
  cases hi with
  | none => cases hh
  | some u =>
    cases hi' with
    | none => exact hhi.elim
    | some v =>
      rw [bdoK_some] at h2
      obtain ⟨q, h4, h5, h6⟩ := bdK_sound (P := P) hhi h2
      split at h5
      · rename_i e
        subst e
        obtain ⟨l, h7, h8, h9⟩ := low_sound (P := P) hlo h5
        refine ⟨l, m, h7, h1, h8, fun w' => ?_⟩
        have h3c : ∀ c w', (Instr.sliceBound mx' cap c).run P w' = .ok m w' := fun c w' => h3 c w' cap hn
        have h6c : ∀ c w', (Instr.sliceBound v m c).run P w' = .ok m w' := fun c w' => h6 c w' m (Nat.le_refl _)
        rcases h9 with ⟨rfl, rfl⟩ | ⟨v', rfl, h9⟩
        · unfold Instr.sliceBounds
          simp only [pure_bind, Sem.run_bind, h3c, h6c, Result.andThen_ok, if_true]
          rfl
        · unfold Instr.sliceBounds
          simp only [pure_bind, Sem.run_bind, h3c, h6c, h9, Result.andThen_ok, Option.isSome_some, if_true]
          rfl
      · exact h5.elim

theorem flat_len {z : Nat} : ∀ {l : List (List PV)}, (∀ e ∈ l, e.length = z) → l.flatten.length = l.length * z
  | [], _ => by simp
  | e :: l, h => by
    have := flat_len (l := l) (fun x hx => h x (by simp [hx]))
    simp only [List.flatten_cons, List.length_append, List.length_cons, this, h e (by simp), Nat.add_mul]
    omega
theorem flat_take {z : Nat} : ∀ {l : List (List PV)} (n : Nat), (∀ e ∈ l, e.length = z) → (l.take n).flatten = l.flatten.take (n * z)
  | [], n, _ => by simp
  | e :: l, 0, _ => by simp
  | e :: l, n + 1, h => by
    have := flat_take (l := l) n (fun x hx => h x (by simp [hx]))
    have he := h e (by simp)
    have e2 : (n + 1) * z = e.length + n * z := by rw [he, Nat.add_mul]; omega
    rw [List.take_succ_cons, List.flatten_cons, this, List.flatten_cons, e2, List.take_length_add_append]
theorem flat_drop {z : Nat} : ∀ {l : List (List PV)} (n : Nat), (∀ e ∈ l, e.length = z) → (l.drop n).flatten = l.flatten.drop (n * z)
  | [], n, _ => by simp
  | e :: l, 0, _ => by simp
  | e :: l, n + 1, h => by
    have := flat_drop (l := l) n (fun x hx => h x (by simp [hx]))
    have he := h e (by simp)
    have e2 : (n + 1) * z = e.length + n * z := by rw [he, Nat.add_mul]; omega
    rw [List.drop_succ_cons, List.flatten_cons, this, e2, List.drop_length_add_append]
/-- A part of a slice that nobody changes. -/
theorem RepP.part {z len cap : Nat} {l : List (List PV)} {a : Option Addr} (h : RepP w Im (.row z l) (.slice a len cap)) {i j cap' m : Nat} (hij : i ≤ j) (hj : j ≤ len) (hc : j - i ≤ cap') (hm : i ≤ m) (hmj : j ≤ m) :
    RepP w Im (.row z ((l.take j).drop i)) (.slice (if m = i then a else a.map (·.add (i * z))) (j - i) cap') := by
  cases h with
  | @row _ _ _ _ _ C hl hcap hz hR hI hn ho hr =>
    have hzt : ∀ e ∈ l.take j, e.length = z := fun e he => hz e (List.mem_of_mem_take he)
    have hflat : ((l.take j).drop i).flatten = (l.flatten.take (j * z)).drop (i * z) := by rw [flat_drop i hzt, flat_take j hz]
    have hfl := flat_len hz
    have hjz : j * z ≤ len * z := Nat.mul_le_mul_right z hj
    have hiz : i * z ≤ j * z := Nat.mul_le_mul_right z hij
    refine .row (C := (C.take (j * z)).drop (i * z)) (by simp; omega) hc (fun e he => hzt e (List.mem_of_mem_drop he)) ?_ ?_ ?_ (fun c hcc => ho c (List.mem_of_mem_take (List.mem_of_mem_drop hcc))) (fun q c p h1 h2 => ?_)
    · refine ⟨fun hpos => ?_, fun q hq => ?_⟩
      · simp at hpos
        have ha := hR.1 (by omega)
        split
        · rename_i e
          subst e
          have : m = j := by omega
          subst this
          omega
        · rw [ha]
          simp only [Option.map_some, addr_add, ab_some, ao_some]
      · have hq' : i * z + q < C.length := by simp at hq; omega
        have ha := hR.1 (by omega)
        have h0 := hR.2 (i * z + q) hq'
        have hne : ¬ m = i := fun e => by
          subst e
          have : m = j := by omega
          subst this
          simp at hq
        rw [if_neg hne]
        rw [ha] at h0 ⊢
        simp only [Option.map_some, addr_add, ab_some, ao_some] at h0 ⊢
        rw [Nat.add_assoc, h0]
        simp
    · intro hne
      have hpos : 0 < ((C.take (j * z)).drop (i * z)).length := by
        rcases Nat.eq_zero_or_pos ((C.take (j * z)).drop (i * z)).length with h | h
        · exact absurd (List.length_eq_zero_iff.1 h) hne
        · exact h
      simp at hpos
      have hCne : C ≠ [] := fun e => by subst e; simp at hpos
      have hi := hI hCne
      have ha := hR.1 (by omega)
      split
      · exact hi
      · rw [ha] at hi ⊢
        simpa only [Option.map_some, addr_add, ab_some] using hi
    · simp only [List.length_drop, List.length_take, hn]
      rw [Nat.min_eq_left hjz, Nat.sub_mul]
    · rw [hflat] at h2
      rw [List.getElem?_drop, List.getElem?_take] at h1 h2
      split at h1
      · rw [if_pos ‹_›] at h2
        exact hr _ c p h1 h2
      · cases h1
theorem slcK_lit {t e : TypeId} {z : Nat} {lo hi mx : Option Value} {u : Option Addr} {len cap l h m : Nat} (h1 : P.underlying t = some (.slice e)) (h2 : szOf P e = some z) (hr : ∀ w', (Instr.sliceBounds true len cap lo hi mx).run P w' = .ok (l, h, m) w') (w' : World) (k : Kv) :
    slcK P t (.slice u len cap) lo hi mx w' k = k true (.slice (if m = l then u else u.map (·.add (l * z))) (h - l) (m - l)) w' := slcK_gen h1 h2 hr
theorem RepOp.none {u : Option V} {v : Option Value} (h : RepOp w Im μ u v) (hu : u.isNone = true) : v = .none := by
  cases u with
  | none => cases v with | none => rfl | some _ => exact h.elim
  | some _ => cases hu
theorem slcV_sound {t : TypeId} {u : V} {lo hi mx : Option V} {a : Value} {lo' hi' mx' : Option Value} {F : FV} (hu : RepV w Im μ u a) (hlo : RepOp w Im μ lo lo') (hhi : RepOp w Im μ hi hi') (hmx : RepOp w Im μ mx mx') (h : slcV P t u lo hi mx F) :
    Comes w Im μ F fun w' k => slcK P t a lo' hi' mx' w' k := by
  unfold slcV at h
  split at h
  · exact h.elim
  · rename_i e z' hel
    obtain ⟨h1, h2⟩ := elOf_spec hel
    split at h
    · split at h
      · rename_i hz
        obtain ⟨rfl, hno⟩ := hz
        have := hmx.none hno
        subst this
        cases hu with
        | sl hs =>
          obtain ⟨hlc, hs⟩ := hs
          obtain ⟨l, q, hl, hq, hG, hr⟩ := bounds_sound (P := P) hlo hhi hlc (Nat.le_refl _) h
          refine ⟨_, _, .sl ?_, hG, slcK_lit h1 h2 hr⟩
          refine ⟨by omega, ?_⟩
          generalize μ[(_ : Nat)]? = loc at hs
          cases loc with
          | none => exact hs
          | some loc =>
            cases loc with
            | none =>
              obtain ⟨rfl, rfl, rfl, rfl⟩ := hs
              have : l = 0 := by omega
              subst this
              exact ⟨by simp, by omega, rfl, rfl⟩
            | some bn =>
              obtain ⟨b, n⟩ := bn
              obtain ⟨ha, hn⟩ := hs
              refine ⟨fun hor => ?_, ?_⟩
              · have ha' := ha (by omega)
                subst ha'
                split
                · have : l = 0 := by omega
                  subst this
                  simp
                · simp only [Option.map_some, addr_add, Nat.add_mul]
              · rw [Nat.add_mul, Nat.add_assoc, ← Nat.add_mul]
                have : l + (_ - l) = _ := Nat.add_sub_cancel' (Nat.le_trans hl (Nat.le_trans hq hlc))
                rw [this]
                exact hn
      · exact h.elim
    · split at h
      · rename_i hz
        subst hz
        cases hu with
        | row hp =>
          cases hp with
          | @row _ _ _ _ ad C hl hcap hz hR hI hn ho hr =>
            have hp : RepP w Im (.row z' _) (.slice _ _ _) := .row hl hcap hz hR hI hn ho hr
            subst hl
            split at h
            · rename_i mx
              have := hmx.none rfl
              subst this
              obtain ⟨l, q, hl, hq, hG, hr⟩ := bounds_sound (P := P) hlo hhi hcap (Nat.le_refl _) h
              exact ⟨_, _, .row (hp.part hl hq (by omega) (by omega) (by omega)), hG, slcK_lit h1 h2 hr⟩
            · rename_i mx m
              cases mx' with
              | none => exact hmx.elim
              | some mv =>
                split at h
                · rename_i hh
                  obtain ⟨l, q, hl, hq, hG, hr⟩ := bounds3_sound (P := P) hlo hhi hmx hcap hh h
                  exact ⟨_, _, .xrow (hp.part hl hq (Nat.le_refl _) hl (Nat.le_refl _)), hG, slcK_lit h1 h2 hr⟩
                · exact h.elim
      · exact h.elim
    · split at h
      · rename_i hz
        obtain ⟨rfl, hno⟩ := hz
        have := hmx.none hno
        subst this
        cases hu with
        | xrow hp =>
          cases hp with
          | @row _ _ _ _ ad C hl hcap hz hR hI hn ho hr =>
            have hp : RepP w Im (.row z' _) (.slice _ _ _) := .row hl hcap hz hR hI hn ho hr
            subst hl
            obtain ⟨l, q, hl, hq, hG, hr⟩ := bounds_sound (P := P) hlo hhi hcap (Nat.le_refl _) h
            exact ⟨_, _, .row (hp.part hl hq (by omega) (by omega) (by omega)), hG, slcK_lit h1 h2 hr⟩
      · exact h.elim
    · split at h
      · rename_i hno
        have := hmx.none hno
        subst this
        cases hu
        obtain ⟨l, q, hl, hq, hG, hr⟩ := bounds_sound (P := P) hlo hhi (Nat.le_refl 0) (Nat.le_refl _) h
        refine ⟨_, _, .lit rfl, hG, fun w' k => ?_⟩
        dsimp only
        rw [slcK_lit h1 h2 hr]
        have hl0 : l = 0 := by omega
        have hq0 : q = 0 := by omega
        subst hl0 hq0
        rfl
      · exact h.elim
    · exact h.elim

/-! ### composite values -/
theorem clK_sound {u : V} {a : Value} {F : List V → Prop} (hu : RepV w Im μ u a) (h : clK u F) : ∃ l, RepL w Im μ l a.cells.toList ∧ (∀ c ∈ a.cells.toList, oneC c = true) ∧ F l := by
  have one : ∀ (v : Value), oneC v = true → RepV w Im μ u v → F [u] → ∃ l, RepL w Im μ l v.cells.toList ∧ (∀ c ∈ v.cells.toList, oneC c = true) ∧ F l := fun v hv hr hF => by
    rw [cells_one hv]
    exact ⟨_, .cons hr .nil, fun c hc => by simp at hc; subst hc; exact hv, hF⟩
  unfold clK at h
  split at h
  · cases hu with
    | agg hn ho hr => exact ⟨_, ⟨hn, hr⟩, ho, h⟩
  · exact h.elim
  · rename_i h1 h2
    cases hu with
    | lit hv => exact one _ hv (.lit hv) h
    | row hp => cases hp with | row q1 q2 q3 q4 q5 q6 q7 q8 => exact one _ rfl (.row (.row q1 q2 q3 q4 q5 q6 q7 q8)) h
    | xrow hp => exact one _ rfl (.xrow hp) h
    | ref hm => exact one _ rfl (.ref hm) h
    | sl hs => exact one _ rfl (.sl hs) h
    | rref q1 q2 q3 q4 q5 q6 => exact one _ rfl (.rref q1 q2 q3 q4 q5 q6) h
    | agg _ _ _ => exact absurd rfl (h1 _)
    | tup _ _ => exact absurd rfl (h2 _)
    | clo hn hr => exact one _ rfl (.clo hn hr) h
theorem pvK_sound {u : V} {a : Value} {F : PV → Prop} (hu : RepV w Im μ u a) (h : pvK u F) : ∃ p, RepP w Im p a ∧ F p := by
  unfold pvK at h
  split at h
  · cases hu with | lit hv => exact ⟨_, .lit hv, h⟩
  · cases hu with | row hp => exact ⟨_, hp, h⟩
  · cases hu with | xrow hp => exact ⟨_, hp, h⟩
  · exact h.elim
theorem pvsK_sound : ∀ {us : List V} {C : List Value} {F : List PV → Prop}, RepL w Im μ us C → pvsK us F → ∃ ps, ps.length = us.length ∧ (∀ (i : Nat) c p, C[i]? = some c → ps[i]? = some p → RepP w Im p c) ∧ F ps
  | [], C, F, hr, h => ⟨[], rfl, fun i c p _ h => by simp at h, h⟩
  | u :: us, C, F, hr, h => by
    obtain ⟨v, vs, rfl, h1, h2⟩ := hr.uncons
    obtain ⟨p, h3, h4⟩ := pvK_sound h1 h
    obtain ⟨ps, h5, h6, h7⟩ := pvsK_sound h2 h4
    refine ⟨p :: ps, by simp [h5], fun i c q hc hq => ?_, h7⟩
    cases i with
    | zero => simp at hc hq; subst hc hq; exact h3
    | succ i => exact h6 i c q (by simpa using hc) (by simpa using hq)
theorem fold_set (o : Nat) : ∀ (cs : List Value) (k : Nat) (C : List Value), o + k + cs.length ≤ C.length →
    (cs.zipIdx k).foldl (fun (A : Array Value) (x : Value × Nat) => A.setIfInBounds (o + x.2) x.1) C.toArray = (C.take (o + k) ++ cs ++ C.drop (o + k + cs.length)).toArray
  | [], k, C, _ => by simp
  | c :: cs, k, C, h => by
    simp only [List.length_cons] at h
    simp only [List.zipIdx_cons, List.foldl_cons, List.setIfInBounds_toArray]
    rw [fold_set o cs (k + 1) (C.set (o + k) c) (by simp; omega)]
    congr 1
    rw [show o + (k + 1) = (o + k) + 1 by omega, List.take_succ_eq_append_getElem (by simp; omega), List.getElem_set_self, List.take_set_of_le (by omega), List.drop_set_of_lt (by omega)]
    simp [Nat.add_assoc, Nat.add_comm 1]
theorem RepL.write {l c : List V} {L C : List Value} {a : Nat} (h : RepL w Im μ l L) (hc : RepL w Im μ c C) : RepL w Im μ (l.take a ++ c ++ l.drop (a + c.length)) (L.take a ++ C ++ L.drop (a + C.length)) := by
  have h1 := h.part 0 a
  simp only [List.drop_zero] at h1
  have h2 := h.part (a + c.length) l.length
  rw [List.take_of_length_le (by simp), List.take_of_length_le (by simp [h.1])] at h2
  rw [hc.1]
  exact (h1.append hc).append h2
theorem write_one {L C : List Value} {a n : Nat} (h : ∀ c ∈ L, oneC c = true) (hc : ∀ c ∈ C, oneC c = true) : ∀ c ∈ L.take a ++ C ++ L.drop n, oneC c = true := by
  intro x hx
  simp only [List.mem_append] at hx
  rcases hx with (hx | hx) | hx
  · exact h x (List.mem_of_mem_take hx)
  · exact hc x hx
  · exact h x (List.mem_of_mem_drop hx)
theorem fill_sound {place : Nat → Option (Nat × Nat)} : ∀ {js : List Nat} {us : List V} {vs : List Value} {l : List V} {C : List Value} {G : List V → Prop}, js.length = us.length → RepL w Im μ us vs → RepL w Im μ l C → (∀ c ∈ C, oneC c = true) → fillK place (js.zip us) l G →
    ∃ l' C', Instr.fill place C.toArray (js.zip vs) = some C'.toArray ∧ RepL w Im μ l' C' ∧ (∀ c ∈ C', oneC c = true) ∧ C'.length = C.length ∧ G l'
  | [], us, vs, l, C, G, hj, hr, hl, ho, h => ⟨l, C, by simp [Instr.fill], hl, ho, rfl, by simpa [fillK] using h⟩
  | j :: js, [], vs, l, C, G, hj, hr, hl, ho, h => by simp at hj
  | j :: js, u :: us, vs, l, C, G, hj, hr, hl, ho, h => by
    obtain ⟨v, vs, rfl, h1, h2⟩ := hr.uncons
    simp only [List.zip_cons_cons, fillK] at h
    cases hp : place j with
    | none => rw [hp] at h; exact h.elim
    | some on =>
      obtain ⟨o, n⟩ := on
      rw [hp] at h
      obtain ⟨c, h3, h4, h5⟩ := clK_sound h1 h
      obtain ⟨h6, h7⟩ := lenK_sound h5
      obtain ⟨h8, h9⟩ := wrK_sound h7
      have hlen : v.cells.toList.length = n := by rw [h3.1, h6]
      have hCl : C.length = l.length := hl.1
      obtain ⟨l', C', e1, e2, e3, e4, e5⟩ := fill_sound (js := js) (by simpa using hj) h2 (hl.write (a := o) h3) (write_one ho h4) h9
      refine ⟨l', C', ?_, e2, e3, ?_, e5⟩
      · simp only [List.zip_cons_cons, Instr.fill, hp]
        rw [if_neg (by simp at hlen ⊢; omega)]
        rw [← e1]
        congr 1
        rw [← Array.foldl_toList, Array.toList_zipIdx]
        have := fold_set o v.cells.toList 0 C (by omega)
        simpa using this
      · rw [e4]
        simp at hlen ⊢
        omega
theorem plOf_run {t : TypeId} {fs : Array Field} (w' : World) (hsz : ∀ f ∈ fs, ∃ z, szOf P f.type = some z) : ∃ places : Array (Nat × Nat), (fs.mapM fun f => do pure (f.offset, ← sizeOf f.type) : Sem (Array (Nat × Nat))).run P w' = .ok places w' ∧
    ∀ j : Nat, places[j]? = (fs[j]?).bind fun f => (szOf P f.type).map fun z => (f.offset, z) := by
  have key : ∀ (l : List Field), (∀ f ∈ l, ∃ z, szOf P f.type = some z) → ∃ ps : List (Nat × Nat), (l.mapM fun f => do pure (f.offset, ← sizeOf f.type) : Sem (List (Nat × Nat))).run P w' = .ok ps w' ∧ ∀ j : Nat, ps[j]? = (l[j]?).bind fun f => (szOf P f.type).map fun z => (f.offset, z) := by
    intro l
    induction l with
    | nil => intro _; exact ⟨[], rfl, fun j => by simp⟩
    | cons f l ih =>
      intro h
      obtain ⟨z, hz⟩ := h f (by simp)
      obtain ⟨ps, h1, h2⟩ := ih (fun x hx => h x (by simp [hx]))
      refine ⟨(f.offset, z) :: ps, ?_, fun j => ?_⟩
      · rw [List.mapM_cons, Sem.run_bind, Sem.run_bind, run_sizeOf hz, Result.andThen_ok]
        show ((pure (f.offset, z) : Sem (Nat × Nat)).run P w').andThen _ = _
        simp only [Sem.run, pure, Result.andThen_ok, Sem.run_bind]
        exact (congrArg (fun r : Result (List (Nat × Nat)) => r.andThen fun a w' => Result.ok ((f.offset, z) :: a) w') h1).trans rfl
      · cases j with
        | zero => simp [hz]
        | succ j => simpa using h2 j
  obtain ⟨ps, h1, h2⟩ := key fs.toList (fun f hf => hsz f (by simpa using hf))
  refine ⟨ps.toArray, ?_, fun j => by simpa using h2 j⟩
  rw [← Array.toArray_toList (xs := fs), List.mapM_toArray, Sem.run_map, h1]
  rfl

theorem zeOf_spec {t : TypeId} {C : List Value} (h : zeOf P t = some C) : ∃ v, (P.info? t).bind (·.zero) = some v ∧ v.cells.toList = C := by
  unfold zeOf at h
  cases hz : (P.info? t).bind (·.zero) with
  | none => rw [hz] at h; cases h
  | some v => rw [hz] at h; exact ⟨v, rfl, by simpa using h⟩
theorem bldV_sound {t : TypeId} {js : List Nat} {us : List V} {vs : List Value} {F : FV} (hj : js.length = us.length) (hr : RepL w Im μ us vs) (h : bldV P t (js.zip us) F) : Comes w Im μ F fun w' k => bldK P t (js.zip vs) w' k := by
  unfold bldV at h
  cases hze : zeOf P t with
  | none => rw [hze] at h; exact h.elim
  | some C =>
    rw [hze] at h
    simp only at h
    split at h
    · rename_i hag
      obtain ⟨zv, hzv, rfl⟩ := zeOf_spec hze
      obtain ⟨h1, h2⟩ := allOne_iff.1 h
      obtain ⟨l', C', e1, e2, e3, e4, e5⟩ := fill_sound (w := w) (Im := Im) (μ := μ) hj hr (RepL.lits h1) (all_mem h1) h2
      refine ⟨_, _, .agg e2.1 e3 e2.2, e5, fun w' k => ?_⟩
      show runK P (Instr.build t (js.zip vs).toArray) w' (k true) = _
      unfold runK Instr.build
      simp only [Sem.run_bind, run_zero hzv, Result.andThen_ok]
      obtain ⟨hag, hsz⟩ := hag
      rw [Array.toArray_toList] at e1
      unfold isAg at hag
      unfold szs at hsz
      cases hu : P.underlying t with
      | none => rw [hu] at hag; cases hag
      | some d =>
        rw [hu] at hag hsz
        simp only [run_underlying hu, Result.andThen_ok]
        cases d with
        | struct fs =>
          have hs2 : ∀ f ∈ fs, ∃ z, szOf P f.type = some z := fun f hf => Option.isSome_iff_exists.1 (List.all_eq_true.1 hsz f (by simpa using hf))
          obtain ⟨places, p1, p2⟩ := plOf_run (P := P) (t := t) w' hs2
          simp only [Sem.run_bind, p1, Result.andThen_ok]
          have e : (fun j : Nat => places[j]?) = plOf P t := by
            funext j
            rw [p2]
            unfold plOf
            rw [hu]
            dsimp only
            cases hfj : fs[j]? <;> rfl
          rw [e, e1]
          rfl
        | array n e =>
          obtain ⟨z, hz⟩ := Option.isSome_iff_exists.1 hsz
          simp only [Sem.run_bind, run_sizeOf hz, Result.andThen_ok]
          have e : (fun j : Nat => some (j * z, z)) = plOf P t := by
            funext j
            unfold plOf
            rw [hu]
            simp [hz]
          rw [e, e1]
          rfl
        | _ => cases hag
    · exact h.elim

/-- **One operation that touches no memory.** -/
theorem valV_sound {τ : Bool} {o : Oper} {F : FV} (hg : RepG w Im μ ρ ρc) (h : valV τ P o ρ F) : Comes w Im μ F fun w' k => opK true P o ρc w' k := by
  have with1 : ∀ {x : Operand} {G : V → Prop} {op : Value → World → Kv → Prop}, evV ρ x G → (∀ u a, RepV w Im μ u a → G u → Comes w Im μ F (op a)) → Comes w Im μ F fun w' k => evK ρc x fun a => op a w' k := by
    intro x G op hx hop
    obtain ⟨u, a, h1, h2, h3⟩ := evV_sound hg hx
    obtain ⟨u', v', h4, h5, h6⟩ := hop u a h1 h2
    exact ⟨u', v', h4, h5, fun w' k => by dsimp only; rw [h3]; exact h6 w' k⟩
  have witho : ∀ {x : Option Operand} {G : Option V → Prop} {op : Option Value → World → Kv → Prop}, evoV ρ x G → (∀ u a, RepOp w Im μ u a → G u → Comes w Im μ F (op a)) → Comes w Im μ F fun w' k => evoK ρc x fun a => op a w' k := by
    intro x G op hx hop
    obtain ⟨u, a, h1, h2, h3⟩ := evoV_sound hg hx
    obtain ⟨u', v', h4, h5, h6⟩ := hop u a h1 h2
    exact ⟨u', v', h4, h5, fun w' k => by dsimp only; rw [h3]; exact h6 w' k⟩
  obtain ⟨d, op, ty, pos, af, g⟩ := o
  unfold valV at h
  cases op with
  | move x => exact with1 (op := fun a w' k => k true a w') h fun u a h1 h2 => ⟨_, _, h1, h2, fun _ _ => rfl⟩
  | assign x => exact with1 (op := fun a w' k => k true a w') h fun u a h1 h2 => ⟨_, _, h1, h2, fun _ _ => rfl⟩
  | pick c x y =>
    exact with1 (op := fun c w' k => evK ρc x fun x => evK ρc y fun y => pickK c x y w' k) h fun u a h1 h2 =>
      with1 (op := fun x w' k => evK ρc y fun y => pickK a x y w' k) h2 fun u' a' h1' h2' =>
        with1 (op := fun y w' k => pickK a a' y w' k) h2' fun u'' a'' h1'' h2'' => pickV_sound h1 h1' h1'' h2''
  | nilCheck x => exact with1 (op := fun a w' k => ncK a w' k) h fun u a h1 h2 => ncV_sound h1 h2
  | binOp b t x y yt =>
    exact with1 (op := fun u w' k => evK ρc y fun v => binK P b t x y u v w' k) h fun u a h1 h2 =>
      with1 (op := fun v w' k => binK P b t x y a v w' k) h2 fun u' a' h1' h2' => binV_sound h1 h1' h2'
  | unOp b t x => exact with1 (op := fun a w' k => unoK P b a w' k) h fun u a h1 h2 => unoV_sound h1 h2
  | convert s t x => exact with1 (op := fun a w' k => cvtK P s t a w' k) h fun u a h1 h2 => cvtV_sound h1 h2
  | slice t x lo hi mx =>
    exact with1 (op := fun a w' k => evoK ρc lo fun lo => evoK ρc hi fun hi => evoK ρc mx fun mx => slcK P t a lo hi mx w' k) h fun u a h1 h2 =>
      witho (op := fun lo w' k => evoK ρc hi fun hi => evoK ρc mx fun mx => slcK P t a lo hi mx w' k) h2 fun u1 a1 h3 h4 =>
        witho (op := fun hi w' k => evoK ρc mx fun mx => slcK P t a a1 hi mx w' k) h4 fun u2 a2 h5 h6 =>
          witho (op := fun mx w' k => slcK P t a a1 a2 mx w' k) h6 fun u3 a3 h7 h8 => slcV_sound h1 h3 h5 h7 h8
  | fieldAddr s x f => exact with1 (op := fun a w' k => fadK P s a f w' k) h fun u a h1 h2 => fadV_sound h1 h2
  | field t x f => exact with1 (op := fun a w' k => fldK P t a f w' k) h fun u a h1 h2 => fldV_sound h1 h2
  | indexAddr t x i =>
    exact with1 (op := fun u w' k => evK ρc i fun v => idxK P t u v w' k) h fun u a h1 h2 =>
      with1 (op := fun v w' k => idxK P t a v w' k) h2 fun u' a' h1' h2' => idxV_sound h1 h1' h2'
  | index t x i =>
    exact with1 (op := fun u w' k => evK ρc i fun v => ixvK P t u v w' k) h fun u a h1 h2 =>
      with1 (op := fun v w' k => ixvK P t a v w' k) h2 fun u' a' h1' h2' => ixvV_sound h1 h1' h2'
  | extract x i =>
    obtain ⟨u, v, h1, h2, h3⟩ := with1 (op := fun a w' k => extK a i w' k) h fun u a h1 h2 => extV_sound h1 h2
    exact ⟨u, v, h1, h2, fun w' k => (Eq.trans opK_extract (h3 w' k) : _)⟩
  | _ => exact (h : False).elim
end
end Go.Vx
