import Derived.Test.YthbcfjlalmhabaaVg
/-! One operation. -/
namespace Go.Vx
open Go.Eng
set_option linter.unusedSimpArgs false
set_option linter.unusedVariables false
section
variable {w w' : World} {Im : Nat → Prop} {μ : Mu} {σ : St} {ρ : Vg} {ρc : Rg} {P : Program}

theorem bltK_copy_none {t tx et ty : TypeId} {cst : Array Bool} {a ad : Option Addr} {n c cap z : Nat} {k : Kv} (ht : P.underlying t = some (.slice et)) (hz : szOf P et = some z) : bltK P .copy #[t, tx] ty cst [.slice a n c, .slice ad 0 cap] w k = k true (.int .i64 (0 : Nat)) w := by
  have hrun : (Builtin.copy_ #[t, tx] ty #[.slice a n c, .slice ad 0 cap]).run P w = .ok (.int .i64 (0 : Nat)) w := by
    unfold Builtin.copy_
    have hmin : Nat.min 0 n = 0 := Nat.min_eq_left (Nat.zero_le _)
    simp only [List.getElem?_toArray, List.getElem?_cons_zero, List.getElem?_cons_succ, Sem.run_bind, run_underlying ht, Result.andThen_ok, run_sizeOf hz, Builtin.lenOf, pure_bind, hmin]
    have hf : (Builtin.firstCells z 0 (.slice ad 0 cap)).run P w = .ok #[] w := by
      have := run_firstCells (P := P) (w := w) (a := ad) (n := 0) (z := z) (len := 0) (cap := cap) (Row.nil w ad) (by simp) (by simp)
      simpa using this
    rw [hf]
    cases a <;> rfl
  unfold bltK nextK runK builtin
  simp only [Sem.run_bind, hrun, Result.andThen_ok]
  rfl
theorem set_same {α : Type} {l : List α} {i : Nat} {x : α} (h : l[i]? = some x) : l.set i x = l := by
  apply List.ext_getElem?
  intro j
  by_cases e : i = j
  · subst e; rw [List.getElem?_set_self (get_lt h), h]
  · rw [List.getElem?_set_ne e]
theorem cpyV_sound {t tx ty : TypeId} {cst : Array Bool} {u x : V} {a b : Value} {K : KV} (r : Rel μ Im σ w) (hu : RepV w Im μ u a) (hx : RepV w Im μ x b) (h : cpyV P t tx u x σ K) : Runs false μ Im σ w K fun k => bltK P .copy #[t, tx] ty cst [a, b] w k := by
  intro k hk
  unfold cpyV at h
  split at h
  · rename_i et z et' zx hel helx
    obtain ⟨ht, hz⟩ := elOf_spec hel
    split at h
    · rename_i e
      subst e
      obtain ⟨m, ad, cap, D, rfl, hD, hG⟩ := rowK_sound r hx h
      unfold cpyU at hG
      split at hG
      · rename_i o z' off len
        split at hG
        · rename_i hc
          obtain ⟨rfl, hml⟩ := hc
          obtain ⟨ob, hob, hG⟩ := obV_sound hG
          unfold cpyO at hG
          split at hG
          · rename_i z'' l
            split at hG
            · rename_i hc2
              obtain ⟨rfl, hle⟩ := hc2
              cases hu with
              | @sl _ _ _ _ capu adu hs =>
                obtain ⟨hlc, hs⟩ := hs
                by_cases hm0 : m.length = 0
                · have : m = [] := List.length_eq_zero_iff.1 hm0
                  subst this
                  have e1 : (l.take off ++ [] ++ l.drop (off + ([] : List (List PV)).length)) = l := by simp
                  rw [e1, set_same hob] at hG
                  have e2 : ([] : List (List PV)).length = 0 := rfl
                  rw [e2] at hG ⊢
                  rw [bltK_copy_none ht hz]
                  exact hk _ _ _ _ _ _ r (Stp.refl _ _ _ _) (fun h => by cases h) (.lit rfl) hG
                · obtain ⟨loc, hloc, hzl, hO⟩ := r.rep _ _ hob
                  rw [hloc] at hs
                  rcases hO with ⟨rfl, rfl⟩ | ⟨bb, CC, rfl, hB, hCl, hr⟩
                  · obtain ⟨_, h0, _⟩ := hs; omega
                  · obtain ⟨ha, hn⟩ := hs
                    have ha' := ha (.inl (by omega))
                    subst ha'
                    have hmz : off * z'' + m.length * z'' ≤ l.length * z'' := by rw [← Nat.add_mul]; exact Nat.mul_le_mul_right z'' (by omega)
                    have hDl := hD.len
                    rw [bltK_copy (P := P) ht hz hB hD.row hD.len hD.one hml (by omega)]
                    have hE : Ext [bb] w (if D = [] then w else setB w bb (setL CC (off * z'') D)) := by
                      split
                      · exact Ext.refl _ _
                      · exact setB_ext _ _ _
                    have hlive : bb ∈ live μ σ := mem_live.2 ⟨o, _, _, hloc, hob⟩
                    have mn : Mono μ Im w μ Im (if D = [] then w else setB w bb (setL CC (off * z'') D)) := ⟨List.prefix_refl _, fun _ h => h, fun q hq => hE.block q (r.im q hq).1 (by
                      simp only [List.mem_singleton]
                      intro e
                      subst e
                      exact (r.im q hq).2 hlive)⟩
                    have hB' : Blk (if D = [] then w else setB w bb (setL CC (off * z'') D)) bb (setL CC (off * z'') D) := by
                      split
                      · rename_i e; subst e; simpa [setL] using hB
                      · exact setB_heap hB
                    have hlen : (setL CC (off * z'') D).length = CC.length := setL_length _ _ _
                    have hzm : ∀ e ∈ l.take off ++ m ++ l.drop (off + m.length), e.length = z'' := by
                      intro e he
                      simp only [List.mem_append] at he
                      rcases he with (he | he) | he
                      · exact hzl e (List.mem_of_mem_take he)
                      · exact hD.siz e he
                      · exact hzl e (List.mem_of_mem_drop he)
                    have hflat : (l.take off ++ m ++ l.drop (off + m.length)).flatten = l.flatten.take (off * z'') ++ m.flatten ++ l.flatten.drop (off * z'' + m.length * z'') := by
                      rw [List.flatten_append, List.flatten_append, flat_take off hzl, flat_drop _ hzl, Nat.add_mul]
                    have hlf := flat_len hzl
                    have hmf := flat_len hD.siz
                    obtain ⟨r', s'⟩ := r.upd (ob' := .row z'' (l.take off ++ m ++ l.drop (off + m.length))) hob hloc hE ⟨hzm, .inr ⟨bb, setL CC (off * z'') D, by rw [hlen], hB', by
                        rw [hlen]
                        have : (l.take off ++ m ++ l.drop (off + m.length)).length = l.length := by simp; omega
                        rw [this]; exact hCl, fun i c p hc hp => by
                        rw [setL_get _ _ _ _ (by omega)] at hc
                        rw [hflat] at hp
                        by_cases h1 : i < off * z''
                        · rw [if_neg (by omega)] at hc
                          rw [List.append_assoc, List.getElem?_append_left (by simp only [List.length_take, List.length_append, List.length_drop]; omega), List.getElem?_take, if_pos h1] at hp
                          exact (hr i c p hc hp).mono mn
                        · by_cases h2 : i < off * z'' + m.length * z''
                          · rw [if_pos (by omega)] at hc
                            rw [List.append_assoc, List.getElem?_append_right (by simp only [List.length_take, List.length_append, List.length_drop]; omega), List.getElem?_append_left (by simp only [List.length_take, List.length_append, List.length_drop]; omega)] at hp
                            refine (hD.rep _ c p hc ?_).mono mn
                            rw [← hp]
                            congr 1
                            simp only [List.length_take, List.length_append, List.length_drop]
                            omega
                          · rw [if_neg (by omega)] at hc
                            rw [List.append_assoc, List.getElem?_append_right (by simp only [List.length_take, List.length_append, List.length_drop]; omega), List.getElem?_append_right (by simp only [List.length_take, List.length_append, List.length_drop]; omega), List.getElem?_drop] at hp
                            refine (hr i c p hc ?_).mono mn
                            rw [← hp]
                            congr 1
                            simp only [List.length_take, List.length_append, List.length_drop]
                            omega⟩⟩
                    exact hk _ _ _ _ _ _ r' s' (fun h => by cases h) (.lit rfl) hG
            · exact hG.elim
          · exact hG.elim
        · exact hG.elim
      · exact hG.elim
    · exact h.elim
  · exact h.elim
theorem lenV_sound {t et ty : TypeId} {z : Nat} {cst : Array Bool} {u : V} {a : Value} {F : FV} (hel : elOf P t = some (et, z)) (hu : RepV w Im μ u a) (h : lenV u F) : Comes w Im μ F fun w' k => bltK P .len #[t] ty cst [a] w' k := by
  obtain ⟨ht, _⟩ := elOf_spec hel
  unfold lenV at h
  split at h
  · cases hu with
    | row hp => cases hp with
      | row hl _ _ _ _ _ _ _ => subst hl; exact ⟨_, _, .lit rfl, h, fun _ _ => bltK_len_slice ht⟩
  · cases hu with
    | xrow hp => cases hp with
      | row hl _ _ _ _ _ _ _ => subst hl; exact ⟨_, _, .lit rfl, h, fun _ _ => bltK_len_slice ht⟩
  · cases hu with
    | sl _ => exact ⟨_, _, .lit rfl, h, fun _ _ => bltK_len_slice ht⟩
  · cases hu
    exact ⟨_, _, .lit rfl, h, fun _ _ => bltK_len_slice ht⟩
  · exact h.elim
theorem intsV_sound : ∀ {us : List V} {vs : List Value} {l : List (IntKind × Int)}, RepL w Im μ us vs → intsV us = some l → vs = l.map fun x => .int x.1 x.2
  | [], vs, l, hr, h => by
    cases h
    exact List.length_eq_zero_iff.1 (by simpa using hr.1)
  | u :: us, vs, l, hr, h => by
    obtain ⟨v, vs, rfl, h1, h2⟩ := hr.uncons
    unfold intsV at h
    split at h
    · rename_i h0
      cases h0
    · rename_i i a r e
      cases e
      cases h1
      cases hi : intsV us with
      | none => rw [hi] at h; cases h
      | some l' =>
        rw [hi] at h
        cases h
        rw [intsV_sound h2 hi]
        rfl
    · cases h
theorem mm_fold {b : Builtin} {m2 : Value → Value → Sem Value} (hm : ∀ i j (x y : Int) (w : World), (m2 (.int i x) (.int j y)).run P w = .ok (.int i (mnmx b x y)) w) : ∀ (r : List (IntKind × Int)) (i : IntKind) (a : Int) (w' : World),
    ((r.map fun x => Value.int x.1 x.2).foldlM m2 (.int i a)).run P w' = .ok (.int i (r.foldl (fun q x => mnmx b q x.2) a)) w'
  | [], i, a, w' => rfl
  | x :: r, i, a, w' => by
    rw [List.map_cons, List.foldlM_cons, Sem.run_bind, hm, Result.andThen_ok, mm_fold hm r]
    rfl
theorem min_sound {ats : Array TypeId} {ty : TypeId} {cst : Array Bool} {us : List V} {vs : List Value} {F : FV} (hr : RepL w Im μ us vs) (h : mmV .min us F) : Comes w Im μ F fun w' k => bltK P .min ats ty cst vs w' k := by
  unfold mmV at h
  split at h
  · rename_i i a r hi
    refine ⟨_, _, .lit rfl, h, fun w' k => ?_⟩
    have e := intsV_sound hr hi
    subst e
    have hrun := mm_fold (P := P) (b := .min) (m2 := Builtin.min2) (fun i j x y w => by
      have e : (if y < x then y else x) = min x y := by rw [Int.min_def]; split <;> split <;> omega
      show (pure (Value.int i (if y < x then y else x)) : Sem Value).run P w = _
      rw [e]
      rfl) r i a w'
    show resK ((Builtin.min_ ats ty (((i, a) :: r).map fun x => Value.int x.1 x.2).toArray >>= fun v => pure (Next.value v) : Sem Next).run P w') _ = _
    rw [Sem.run_bind]
    have e2 : Builtin.min_ ats ty (((i, a) :: r).map fun x => Value.int x.1 x.2).toArray = (r.map fun x => Value.int x.1 x.2).foldlM Builtin.min2 (.int i a) := rfl
    rw [e2, hrun]
    rfl
  · exact h.elim
theorem max_sound {ats : Array TypeId} {ty : TypeId} {cst : Array Bool} {us : List V} {vs : List Value} {F : FV} (hr : RepL w Im μ us vs) (h : mmV .max us F) : Comes w Im μ F fun w' k => bltK P .max ats ty cst vs w' k := by
  unfold mmV at h
  split at h
  · rename_i i a r hi
    refine ⟨_, _, .lit rfl, h, fun w' k => ?_⟩
    have e := intsV_sound hr hi
    subst e
    have hrun := mm_fold (P := P) (b := .max) (m2 := Builtin.max2) (fun i j x y w => by
      have e : (if y > x then y else x) = max x y := by rw [Int.max_def]; split <;> split <;> omega
      show (pure (Value.int i (if y > x then y else x)) : Sem Value).run P w = _
      rw [e]
      rfl) r i a w'
    show resK ((Builtin.max_ ats ty (((i, a) :: r).map fun x => Value.int x.1 x.2).toArray >>= fun v => pure (Next.value v) : Sem Next).run P w') _ = _
    rw [Sem.run_bind]
    have e2 : Builtin.max_ ats ty (((i, a) :: r).map fun x => Value.int x.1 x.2).toArray = (r.map fun x => Value.int x.1 x.2).foldlM Builtin.max2 (.int i a) := rfl
    rw [e2, hrun]
    rfl
  · exact h.elim

/-- What touches no memory runs. -/
theorem Comes.runs {e : Bool} {K : KV} {op : World → Kv → Prop} (r : Rel μ Im σ w) (h : Comes w Im μ (fun τ u => K τ u σ) op) : Runs e μ Im σ w K fun k => op w k := by
  intro k hk
  obtain ⟨u, v, h1, h2, h3⟩ := h
  rw [h3]
  exact hk _ _ _ _ _ _ r (Stp.refl _ _ _ _) (fun _ => Ext.refl _ _) h1 h2
theorem callV_sound {e : Bool} {f : Nat} {us : List V} {vs : List Value} {K : KV} (r : Rel μ Im σ w) (hr : RepL w Im μ us vs) (h : callV P e f us σ K) : Runs e μ Im σ w K fun k => callK P f vs.toArray w k := by
  intro k hk
  obtain ⟨hc, h⟩ := h
  exact cllK_of hc (h μ Im w vs r hr) fun v w' ⟨u, σ', μ', Im', h1, h2, h3, h4, h5⟩ => hk _ _ _ _ _ _ h1 h2 h3 h4 h5
theorem bltV_sound {e : Bool} {b : Builtin} {al : List TypeId} {ty : TypeId} {cst : Array Bool} {us : List V} {vs : List Value} {K : KV} (r : Rel μ Im σ w) (h4 : RepL w Im μ us vs) (h5 : bltV P e b al us σ K) : Runs e μ Im σ w K fun k => bltK P b al.toArray ty cst vs w k := by
  unfold bltV at h5
  split at h5
  · split at h5
    · rename_i t u _ ez hel
      obtain ⟨et, z⟩ := ez
      obtain ⟨v, vs', rfl, q1, q2⟩ := h4.uncons
      have : vs' = [] := List.length_eq_zero_iff.1 (by simpa using q2.1)
      subst this
      exact (lenV_sound hel q1 h5).runs r
    · exact h5.elim
  · obtain ⟨v, vs', rfl, q1, q2⟩ := h4.uncons
    obtain ⟨v2, vs', rfl, q3, q4⟩ := q2.uncons
    have : vs' = [] := List.length_eq_zero_iff.1 (by simpa using q4.1)
    subst this
    exact apdV_sound r q1 q3 h5
  · obtain ⟨v, vs', rfl, q1, q2⟩ := h4.uncons
    obtain ⟨v2, vs', rfl, q3, q4⟩ := q2.uncons
    have : vs' = [] := List.length_eq_zero_iff.1 (by simpa using q4.1)
    subst this
    cases e with
    | true => exact (h5 : False).elim
    | false => exact cpyV_sound r q1 q3 h5
  · exact (min_sound h4 h5).runs r
  · exact (max_sound h4 h5).runs r
  · exact h5.elim
set_option maxHeartbeats 2000000 in
/-- **One operation.** -/
theorem opV_sound {τ e : Bool} {o : Oper} {K : KV} (r : Rel μ Im σ w) (hg : RepG w Im μ ρ ρc) (h : opV τ e P o ρ σ K) : Runs e μ Im σ w K fun k => opK true P o ρc w k := by
  obtain ⟨d, op, ty, pos, af, g⟩ := o
  have plain : valV τ P ⟨d, op, ty, pos, af, g⟩ ρ (fun τ u => K τ u σ) → Runs e μ Im σ w K fun k => opK true P ⟨d, op, ty, pos, af, g⟩ ρc w k := fun h => (valV_sound hg h).runs r
  unfold opV at h
  cases op with
  | alloc t => exact alcV_sound r h
  | box t x =>
    intro k hk
    obtain ⟨u, a, h1, h2, h3⟩ := evV_sound hg h
    show evK ρc x fun v => boxK P t v w k
    rw [h3]
    exact boxV_sound r h1 h2 k hk
  | build t ps =>
    intro k hk
    obtain ⟨js, us, vs, h0, h1, h2, h3⟩ := evpV_sound hg h
    show evpK ρc ps.toList fun vs => bldK P t vs w k
    rw [h3]
    exact (bldV_sound h0 h1 h2).runs r k hk
  | buildSlice t n ps =>
    intro k hk
    obtain ⟨js, us, vs, h0, h1, h2, h3⟩ := evpV_sound hg h
    show evpK ρc ps.toList fun vs => bslK P t n vs w k
    rw [h3]
    exact bslV_sound r h0 h1 h2 k hk
  | load t x =>
    intro k hk
    obtain ⟨u, a, h1, h2, h3⟩ := evV_sound hg h
    show evK ρc x fun v => loadK P t v w k
    rw [h3]
    obtain ⟨u', v', h4, h5, h6⟩ := ldV_sound r h1 h2
    rw [h6]
    exact hk _ _ _ _ _ _ r (Stp.refl _ _ _ _) (fun _ => Ext.refl _ _) h4 h5
  | store t x y =>
    intro k hk
    obtain ⟨u, a, h1, h2, h3⟩ := evV_sound hg h
    obtain ⟨u', a', h4, h5, h6⟩ := evV_sound hg h2
    cases e with
    | true => exact (h5 : False).elim
    | false =>
      show evK ρc x fun a => evK ρc y fun v => storeK P t a v w fun τ w' => k τ undef w'
      rw [h3, h6]
      obtain ⟨w', σ', q1, q2, q3, q4⟩ := stV_sound r h1 h4 h5
      rw [q4]
      exact hk _ _ _ _ _ _ q1 q2 (fun h => by cases h) (.tup (C := []) rfl (fun i u c h => by simp at h)) q3
  | makeFunc fn first captured =>
    intro k hk
    dsimp only at h
    split at h
    · rename_i f hf
      obtain ⟨us, vs, h1, h2, h3⟩ := evsV_sound hg h
      show evsK ρc first.toList fun f' => evsK ρc captured.toList fun c => k true (.func (.func f) f'.toArray c.toArray) w
      rw [hf]
      show evsK ρc captured.toList fun c => k true (.func (.func f) #[] c.toArray) w
      rw [h3]
      exact hk _ _ _ _ _ _ r (Stp.refl _ _ _ _) (fun _ => Ext.refl _ _) (.clo h1.1 h1.2) h2
    · exact h.elim
  | makeSlice t l c =>
    intro k hk
    obtain ⟨u, a, h1, h2, h3⟩ := evV_sound hg h
    obtain ⟨u', a', h4, h5, h6⟩ := evV_sound hg h2
    show evK ρc l fun l => evK ρc c fun c => msl P t l c w k
    rw [h3, h6]
    exact mslV_sound r h1 h4 h5 k hk
  | call c =>
    obtain ⟨callee, args, ats⟩ := c
    intro k hk
    dsimp only at h
    cases callee with
    | value f =>
      obtain ⟨u, a, h1, h2, h3⟩ := evV_sound hg h
      obtain ⟨us, vs, h4, h5, h6⟩ := evsV_sound hg h2
      show evK ρc f fun f => evsK ρc args.toList fun args => match f with | .func (.func g) first captured => callK P g (first ++ args.toArray ++ captured) w k | _ => False
      rw [h3, h6]
      unfold calV at h5
      split at h5
      · cases h1 with
        | @clo f l C hn hr =>
          have e : (#[] ++ vs.toArray ++ C.toArray : Array Value) = (vs ++ C).toArray := by simp
          show callK P _ (#[] ++ vs.toArray ++ C.toArray) w k
          rw [e]
          exact callV_sound r (h4.append ⟨hn, hr⟩) h5 k hk
      · exact h5.elim
    | builtin b =>
      obtain ⟨us, vs, h4, h5, h6⟩ := evsV_sound hg h
      have hargs : args = args.toList.toArray := by simp
      have hats : ats = ats.toList.toArray := by simp
      rw [hargs, opK_builtin, h6]
      generalize args.toList = al at *
      generalize ats.toList = tl at *
      subst hats
      exact bltV_sound r h4 h5 k hk
    | _ => exact h.elim
  | _ => dsimp only at h; exact plain h
end
end Go.Vx
