import Derived.Test.YthbcfjlalmhabaaVe
/-! Memory: stores, new blocks, slices that grow. -/
namespace Go.Vx
open Go.Eng
set_option linter.unusedSimpArgs false
set_option linter.unusedVariables false
section
variable {w w' : World} {Im : Nat → Prop} {μ : Mu} {σ : St} {ρ : Vg} {ρc : Rg} {P : Program}

theorem setL_eq {C vs : List Value} {o : Nat} (h : o + vs.length ≤ C.length) : setL C o vs = C.take o ++ vs ++ C.drop (o + vs.length) := by
  apply List.ext_getElem?
  intro j
  rw [setL_get vs C o j h]
  by_cases h1 : j < o
  · rw [if_neg (by omega), List.append_assoc, List.getElem?_append_left (by simp; omega), List.getElem?_take, if_pos h1]
  · by_cases h2 : j < o + vs.length
    · rw [if_pos (by omega), List.append_assoc, List.getElem?_append_right (by simp; omega), List.getElem?_append_left (by simp; omega)]
      congr 1
      simp
      omega
    · rw [if_neg (by omega), List.append_assoc, List.getElem?_append_right (by simp; omega), List.getElem?_append_right (by simp; omega), List.getElem?_drop]
      congr 1
      simp
      omega
theorem flat_set {z : Nat} {e' : List PV} : ∀ {l : List (List PV)} {i q : Nat}, (∀ e ∈ l, e.length = z) → e'.length = z → i < l.length → (l.set i e').flatten[q]? = if i * z ≤ q ∧ q < i * z + z then e'[q - i * z]? else l.flatten[q]?
  | [], i, q, _, _, h => by simp at h
  | x :: l, 0, q, hz, he, _ => by
    have hx := hz x (by simp)
    simp only [List.set_cons_zero, List.flatten_cons, Nat.zero_mul, Nat.zero_add, Nat.sub_zero, Nat.zero_le, true_and]
    by_cases h : q < z
    · rw [if_pos h, List.getElem?_append_left (by omega)]
    · rw [if_neg h, List.getElem?_append_right (by omega), List.getElem?_append_right (by omega), he, hx]
  | x :: l, i + 1, q, hz, he, hi => by
    have hx := hz x (by simp)
    simp only [List.set_cons_succ, List.flatten_cons]
    by_cases h : q < z
    · rw [List.getElem?_append_left (by omega), List.getElem?_append_left (by omega), if_neg (by rw [Nat.add_mul]; omega)]
    · rw [List.getElem?_append_right (by omega), List.getElem?_append_right (by omega), hx, flat_set (l := l) (fun y hy => hz y (by simp [hy])) he (by simpa using hi)]
      have e1 : (i + 1) * z = i * z + z := by rw [Nat.add_mul]; omega
      rw [e1]
      by_cases h2 : i * z ≤ q - z ∧ q - z < i * z + z
      · rw [if_pos h2, if_pos (by omega)]
        congr 1
        omega
      · rw [if_neg h2, if_neg (by omega)]

theorem storeK_at {t : TypeId} {b o n : Nat} {v : Value} {C : List Value} {K' : Bool → World → Prop} (hz : szOf P t = some (n + 1)) (hn : v.cells.toList.length = n + 1) (hB : Blk w b C) (hle : o + (n + 1) ≤ C.length) (ho : ∀ c ∈ v.cells.toList, oneC c = true) :
    storeK P t (.pointer (some ⟨b, o, none⟩)) v w K' = K' true (setB w b (setL C o v.cells.toList)) := by
  unfold storeK
  have hn' : v.cells.size = n + 1 := by simpa using hn
  simp only [hz, hn', if_true]
  rw [stsK_blk _ _ _ _ hB (by rw [hn]; exact hle) ho, if_neg (by intro e; rw [e] at hn; cases hn)]
theorem stV_sound {t : TypeId} {u v : V} {a b : Value} {K : KS} (r : Rel μ Im σ w) (hu : RepV w Im μ u a) (hv : RepV w Im μ v b) (h : stV P t u v σ K) :
    ∃ w' σ', Rel μ Im σ' w' ∧ Stp μ Im σ w μ Im σ' w' ∧ K true σ' ∧ ∀ K' : Bool → World → Prop, storeK P t a b w K' = K' true w' := by
  unfold stV at h
  split at h
  · rename_i n hz
    obtain ⟨c, hc, hco, h1⟩ := clK_sound hv h
    obtain ⟨hcn, h2⟩ := lenK_sound h1
    have hbn : b.cells.toList.length = n + 1 := by rw [hc.1, hcn]
    unfold wrV at h2
    split at h2
    · rename_i o z i off
      obtain ⟨ob, hob, h3⟩ := obV_sound h2
      cases hu with
      | @ref _ _ _ _ bb m hm =>
        have hbl : bb ∈ live μ σ := mem_live.2 ⟨o, m, ob, hm, hob⟩
        have mn : ∀ D, Mono μ Im w μ Im (setB w bb D) := fun D => ⟨List.prefix_refl _, fun _ h => h, fun q hq => (setB_ext w bb D).block q (r.im q hq).1 (by
          simp only [List.mem_singleton]
          intro e
          subst e
          exact (r.im q hq).2 hbl)⟩
        obtain ⟨loc, hl, hO⟩ := r.rep _ ob hob
        rw [hm] at hl
        cases hl
        unfold wrO at h3
        split at h3
        · rename_i l
          obtain ⟨h4, h5⟩ := wrK_sound h3
          unfold adr at h4 h5
          obtain ⟨b', C, e, hB, ho, hL⟩ := hO
          cases e
          have hCl := hL.1
          have hle : i * z + off + (n + 1) ≤ C.length := by omega
          have hs := setL_eq (C := C) (vs := b.cells.toList) (o := i * z + off) (by omega)
          have hlen : (setL C (i * z + off) b.cells.toList).length = C.length := setL_length _ _ _
          obtain ⟨hr', hs'⟩ := r.upd (ob' := .cells (l.take (i * z + off) ++ c ++ l.drop (i * z + off + c.length))) hob hm (setB_ext w bb (setL C (i * z + off) b.cells.toList)) ⟨bb, setL C (i * z + off) b.cells.toList, by rw [hlen], setB_heap hB, by rw [hs]; exact write_one ho hco, by
            rw [hs]; exact (hL.write hc).mono (mn _)⟩
          exact ⟨_, _, hr', hs', h5, fun K' => storeK_at hz hbn hB hle hco⟩
        · rename_i z' l
          split at h3
          · rename_i e
            subst e
            obtain ⟨hz', hO⟩ := hO
            rcases hO with ⟨e, _⟩ | ⟨b', C, e, hB, hl, hr⟩
            · cases e
            · cases e
              obtain ⟨el, hel, h4⟩ := atK_sound h3
              obtain ⟨ps, hps, hpr, h5⟩ := pvsK_sound hc h4
              obtain ⟨h6, h7⟩ := wrK_sound h5
              have hez := hz' el (List.mem_of_getElem? hel)
              have hil := get_lt hel
              have hle1 : i * z' + z' ≤ l.length * z' := by rw [← Nat.succ_mul]; exact Nat.mul_le_mul_right z' hil
              have hle : i * z' + off + (n + 1) ≤ C.length := by omega
              have hlen : (setL C (i * z' + off) b.cells.toList).length = C.length := setL_length _ _ _
              have hel' : (el.take off ++ ps ++ el.drop (off + ps.length)).length = z' := by simp; omega
              obtain ⟨hr', hs'⟩ := r.upd (ob' := .row z' (l.set i (el.take off ++ ps ++ el.drop (off + ps.length)))) hob hm (setB_ext w bb (setL C (i * z' + off) b.cells.toList)) ⟨fun x hx => by
                  rcases List.mem_or_eq_of_mem_set hx with h | h
                  · exact hz' x h
                  · rw [h]; exact hel', .inr ⟨bb, setL C (i * z' + off) b.cells.toList, by rw [hlen], setB_heap hB, by rw [hlen]; simpa using hl, fun q x p hx hp => by
                  rw [setL_get _ _ _ _ (by omega)] at hx
                  rw [flat_set hz' hel' hil] at hp
                  split at hp
                  · rename_i hq
                    split at hx
                    · rename_i hq2
                      rw [List.append_assoc, List.getElem?_append_right (by simp; omega), List.getElem?_append_left (by simp; omega)] at hp
                      refine (hpr (q - (i * z' + off)) x p hx ?_).mono (mn _)
                      rw [← hp]
                      congr 1
                      simp
                      omega
                    · rename_i hq2
                      refine (hr q x p hx ?_).mono (mn _)
                      have e1 : q = i * z' + (q - i * z') := by omega
                      rw [e1, flat_get hz' hel (by omega), ← hp]
                      by_cases h8 : q - i * z' < off
                      · rw [List.append_assoc, List.getElem?_append_left (by simp; omega), List.getElem?_take, if_pos h8]
                      · rw [List.append_assoc, List.getElem?_append_right (by simp; omega), List.getElem?_append_right (by simp; omega), List.getElem?_drop]
                        congr 1
                        simp
                        omega
                  · rename_i hq
                    rw [if_neg (by omega)] at hx
                    exact (hr q x p hx hp).mono (mn _)⟩⟩
              exact ⟨_, _, hr', hs', h7, fun K' => storeK_at hz hbn hB hle hco⟩
          · exact h3.elim
    · exact h2.elim
  · exact h.elim

/-- The cells of a slice, as they stand. -/
structure Reads (w : World) (Im : Nat → Prop) (z : Nat) (m : List (List PV)) (a : Option Addr) (C : List Value) : Prop where
  row : Row w a C
  len : C.length = m.length * z
  one : ∀ c ∈ C, oneC c = true
  siz : ∀ e ∈ m, e.length = z
  rep : ∀ (i : Nat) c p, C[i]? = some c → m.flatten[i]? = some p → RepP w Im p c
theorem rowK_sound {u : V} {a : Value} {z : Nat} {G : List (List PV) → Prop} (r : Rel μ Im σ w) (hu : RepV w Im μ u a) (h : rowK u σ z G) : ∃ m ad cap C, a = .slice ad m.length cap ∧ Reads w Im z m ad C ∧ G m := by
  unfold rowK at h
  split at h
  · split at h
    · rename_i e
      subst e
      cases hu with
      | row hp => cases hp with
        | row hl hc hz hR hI hn ho hr => subst hl; exact ⟨_, _, _, _, rfl, ⟨hR, hn, ho, hz, hr⟩, h⟩
    · exact h.elim
  · split at h
    · rename_i e
      subst e
      cases hu with
      | xrow hp => cases hp with
        | row hl hc hz hR hI hn ho hr => subst hl; exact ⟨_, _, _, _, rfl, ⟨hR, hn, ho, hz, hr⟩, h⟩
    · exact h.elim
  · cases hu
    exact ⟨[], none, 0, [], rfl, ⟨Row.nil _ _, by simp, by simp, by simp, by simp⟩, h⟩
  · split at h
    · rename_i o z' off len e
      subst e
      obtain ⟨ob, hob, h1⟩ := obV_sound h
      unfold rowO at h1
      split at h1
      · rename_i z'' l
        split at h1
        · rename_i hz
          obtain ⟨rfl, hle⟩ := hz
          cases hu with
          | @sl _ _ _ _ cap ad hs =>
            obtain ⟨hlc, hs⟩ := hs
            obtain ⟨loc, hloc, hz, hO⟩ := r.rep _ _ hob
            rw [hloc] at hs
            have hmz : ∀ e ∈ (l.drop off).take len, e.length = z'' := fun e he => hz e (List.mem_of_mem_drop (List.mem_of_mem_take he))
            have hml : ((l.drop off).take len).length = len := by simp; omega
            rcases hO with ⟨rfl, rfl⟩ | ⟨b, C, rfl, hB, hCl, hr⟩
            · obtain ⟨rfl, rfl, rfl, rfl⟩ := hs
              exact ⟨[], none, 0, [], rfl, ⟨Row.nil _ _, by simp, by simp, by simp, by simp⟩, by simpa using h1⟩
            · obtain ⟨ha, hn⟩ := hs
              have hflat : ((l.drop off).take len).flatten = (l.flatten.drop (off * z'')).take (len * z'') := by
                rw [flat_take len (fun e he => hz e (List.mem_of_mem_drop he)), flat_drop off hz]
              have hlz : off * z'' + len * z'' ≤ C.length := by
                rw [← Nat.add_mul]
                exact Nat.le_trans (Nat.mul_le_mul_right z'' hle) hCl
              have hrep : ∀ (i : Nat) c p, ((C.drop (off * z'')).take (len * z''))[i]? = some c → ((l.drop off).take len).flatten[i]? = some p → RepP w Im p c := fun i c p hc hp => by
                rw [hflat, List.getElem?_take] at hp
                rw [List.getElem?_take] at hc
                split at hc
                · rw [if_pos ‹_›] at hp
                  rw [List.getElem?_drop] at hc hp
                  exact hr _ c p hc hp
                · cases hc
              refine ⟨(l.drop off).take len, ad, cap, (C.drop (off * z'')).take (len * z''), by rw [hml], ⟨?_, by rw [hml, List.length_take, List.length_drop]; omega, ?_, hmz, hrep⟩, h1⟩
              · refine ⟨fun hpos => ?_, fun i hi => ?_⟩
                · have : 0 < len := by
                    rcases Nat.eq_zero_or_pos len with h0 | h0
                    · subst h0; simp at hpos
                    · exact h0
                  rw [ha (.inl this)]
                  rfl
                · have : 0 < len := by
                    rcases Nat.eq_zero_or_pos len with h0 | h0
                    · subst h0; simp at hi
                    · exact h0
                  rw [ha (.inl this), ab_some, ao_some]
                  refine hB.cell ?_
                  rw [List.getElem_take, List.getElem_drop]
                  exact List.getElem?_eq_getElem _
              · intro c hc
                obtain ⟨j, hj, hje⟩ := List.mem_iff_getElem.1 hc
                have hfl := flat_len hmz
                have hp : ((l.drop off).take len).flatten[j]? = some (((l.drop off).take len).flatten[j]'(by rw [hfl, hml]; simp at hj; omega)) := List.getElem?_eq_getElem _
                exact (hrep j c _ (by rw [← hje]; exact List.getElem?_eq_getElem _) hp).one
        · exact h1.elim
      · exact h1.elim
    · exact h.elim
  · exact h.elim

/-! ### new blocks -/
theorem newO_sound {ob : Ob} {K : Nat → St → Prop} (r : Rel μ Im σ w) {C : List Value} {t : TypeId} (ho : RepO (w.alloc (.cells C.toArray t)) Im (μ ++ [some (w.heap.size, C.length)]) (some (w.heap.size, C.length)) ob) (h : newO σ ob K) :
    ∃ σ' μ', Rel μ' Im σ' (w.alloc (.cells C.toArray t)) ∧ Stp μ Im σ w μ' Im σ' (w.alloc (.cells C.toArray t)) ∧ μ'[σ.length]? = some (some (w.heap.size, C.length)) ∧ K σ.length σ' := by
  obtain ⟨h1, h2⟩ := r.add (w' := w.alloc (.cells C.toArray t)) ((Ext.refl [] w).alloc _) (fun b n e => by cases e; exact Nat.le_refl _) ho
  exact ⟨_, _, h1, h2, by rw [get_snoc, if_neg (by rw [r.len]; omega), if_pos r.len.symm], h⟩
theorem mono_alloc (r : Rel μ Im σ w) (o : Obj) (x : Option (Nat × Nat)) : Mono μ Im w (μ ++ [x]) Im (w.alloc o) :=
  ⟨List.prefix_append _ _, fun _ h => h, fun b hb => heap_alloc_lt _ _ _ (r.im b hb).1⟩
theorem alcV_sound {e : Bool} {t : TypeId} {K : KV} (r : Rel μ Im σ w) (h : alcV P t σ K) : Runs e μ Im σ w K fun k => allocK P t w k := by
  intro k hk
  unfold alcV at h
  cases hz : zeOf P t with
  | none => rw [hz] at h; exact h.elim
  | some C =>
    rw [hz] at h
    obtain ⟨h1, h2⟩ := allOne_iff.1 h
    obtain ⟨σ', μ', e1, e2, e3, e4⟩ := newO_sound (t := t) (ob := .cells (C.map V.lit)) r (C := C) ⟨_, C, rfl, Blk.new _ _ _, all_mem h1, RepL.lits h1⟩ h2
    rw [allocK_of hz]
    have e5 := RepV.ref (w := w.alloc (.cells C.toArray t)) (Im := Im) (z := 0) (i := 0) (off := 0) e3
    simp only [Nat.zero_mul, Nat.zero_add] at e5
    exact hk _ _ _ _ _ _ e1 e2 (fun _ => (Ext.refl [] w).alloc _) e5 e4
theorem boxV_sound {e : Bool} {t : TypeId} {u : V} {a : Value} {K : KV} (r : Rel μ Im σ w) (hu : RepV w Im μ u a) (h : boxV u σ K) : Runs e μ Im σ w K fun k => boxK P t a w k := by
  intro k hk
  obtain ⟨c, hc, hco, h1⟩ := clK_sound hu h
  obtain ⟨σ', μ', e1, e2, e3, e4⟩ := newO_sound (t := t) (ob := .cells c) r (C := a.cells.toList) ⟨_, a.cells.toList, rfl, Blk.new _ _ _, hco, hc.mono (mono_alloc r _ _)⟩ h1
  have e5 := RepV.ref (w := w.alloc (.cells a.cells.toList.toArray t)) (Im := Im) (z := 0) (i := 0) (off := 0) e3
  simp only [Nat.zero_mul, Nat.zero_add] at e5
  rw [boxK_eq]
  rw [Array.toArray_toList] at e1 e2 e5
  exact hk _ _ _ _ _ _ e1 e2 (fun _ => (Ext.refl [] w).alloc _) e5 e4
/-- Parts of a slice written out: its cells. -/
theorem prt_sound {z : Nat} : ∀ {js : List Nat} {us : List V} {vs : List Value} {j : Nat} {D : List Value} {n : Nat} {G : List (List PV) → Prop}, js.length = us.length → RepL w Im μ us vs → D.length = n → j * z ≤ n → prtK z j (js.zip us) G → (j + us.length) * z = n →
    ∃ l C, l.length = us.length ∧ (∀ e ∈ l, e.length = z) ∧ C.length = us.length * z ∧ (∀ (i : Nat) c p, C[i]? = some c → l.flatten[i]? = some p → RepP w Im p c) ∧ (∀ c ∈ C, oneC c = true) ∧ Instr.fill (fun i => some (i * z, z)) D.toArray (js.zip vs) = some (D.take (j * z) ++ C).toArray ∧ G l
  | [], [], vs, j, D, n, G, _, hr, hD, hj, h, hn => by
    have : vs = [] := List.length_eq_zero_iff.1 (by simpa using hr.1)
    subst this
    refine ⟨[], [], rfl, by simp, by simp, by simp, by simp, ?_, h⟩
    simp only [List.zip_nil_right, Instr.fill, List.append_nil]
    rw [List.take_of_length_le (by simp at hn; omega)]
  | [], u :: us, _, _, _, _, _, h, _, _, _, _, _ => by simp at h
  | j' :: js, [], _, _, _, _, _, h, _, _, _, _, _ => by simp at h
  | j' :: js, u :: us, vs, j, D, n, G, hjs, hr, hD, hj, h, hn => by
    obtain ⟨v, vs, rfl, h1, h2⟩ := hr.uncons
    simp only [List.zip_cons_cons, prtK] at h
    split at h
    · rename_i e
      subst e
      obtain ⟨c, h3, h4, h5⟩ := clK_sound h1 h
      obtain ⟨h6, h7⟩ := lenK_sound h5
      obtain ⟨ps, h8, h9, h10⟩ := pvsK_sound h3 h7
      have hvz : v.cells.toList.length = z := by rw [h3.1, h6]
      have hsz : (j' + 1) * z = j' * z + z := by rw [Nat.add_mul]; omega
      have hn1 : (j' + 1 + us.length) * z = n := by
        rw [← hn]
        congr 1
        simp
        omega
      have hle : (j' + 1) * z ≤ n := by
        rw [← hn1]
        exact Nat.mul_le_mul_right z (by omega)
      have hD' : (D.take (j' * z) ++ v.cells.toList ++ D.drop (j' * z + v.cells.toList.length)).length = n := by simp at hvz ⊢; omega
      obtain ⟨l, C, e1, e2, e3, e4, e5, e6, e7⟩ := prt_sound (js := js) (D := D.take (j' * z) ++ v.cells.toList ++ D.drop (j' * z + v.cells.toList.length)) (by simpa using hjs) h2 hD' hle h10 hn1
      have hps : ps.length = z := by rw [h8, h6]
      refine ⟨ps :: l, v.cells.toList ++ C, by simp [e1], fun x hx => ?_, ?_, fun i x p hx hp => ?_, fun x hx => ?_, ?_, e7⟩
      · rcases List.mem_cons.1 hx with rfl | hx
        · exact hps
        · exact e2 x hx
      · rw [List.length_append, hvz, e3, List.length_cons, Nat.add_mul]; omega
      · simp only [List.flatten_cons] at hp
        by_cases hi : i < z
        · rw [List.getElem?_append_left (by omega)] at hx hp
          exact h9 i x p hx hp
        · rw [List.getElem?_append_right (by omega)] at hx hp
          rw [hvz] at hx
          rw [hps] at hp
          exact e4 _ x p hx hp
      · rcases List.mem_append.1 hx with hx | hx
        · exact h4 x hx
        · exact e5 x hx
      · simp only [List.zip_cons_cons, Instr.fill]
        rw [if_neg (by simp at hvz ⊢; omega)]
        have hf := fold_set (j' * z) v.cells.toList 0 D (by omega)
        rw [← Array.foldl_toList, Array.toList_zipIdx]
        simp only [Nat.add_zero] at hf
        rw [hf, e6]
        congr 2
        rw [hsz, List.append_assoc, List.take_append, List.take_of_length_le (by simp; omega), List.append_assoc]
        congr 1
        rw [List.take_append, List.take_of_length_le (by simp at hvz ⊢; omega)]
        simp at hvz ⊢
        omega
    · exact h.elim
theorem bslV_sound {e : Bool} {t : TypeId} {n : Nat} {js : List Nat} {us : List V} {vs : List Value} {K : KV} (r : Rel μ Im σ w) (hj : js.length = us.length) (hr : RepL w Im μ us vs) (h : bslV P t n (js.zip us) σ K) : Runs e μ Im σ w K fun k => bslK P t n (js.zip vs) w k := by
  intro k hk
  unfold bslV at h
  split at h
  · rename_i et z hel
    obtain ⟨ht, hz⟩ := elOf_spec hel
    split at h
    · rename_i hc
      obtain ⟨hze, hz0, hn⟩ := hc
      have hze' := hze
      unfold zeOf at hze
      obtain ⟨Z, hZ⟩ := Option.isSome_iff_exists.1 hze
      cases hzz : (P.info? et).bind (·.zero) with
      | none => rw [hzz] at hZ; cases hZ
      | some zv =>
        have key : ∀ (D : Array Value), D.size = n * z → ∃ l C, Instr.fill (fun i => some (i * z, z)) D (js.zip vs) = some (C : List Value).toArray ∧ RepO (w.alloc (.cells C.toArray et)) Im (μ ++ [some (w.heap.size, C.length)]) (some (w.heap.size, C.length)) (.row z l) ∧ newO σ (.row z l) (fun o σ' => K true (.sl o z 0 n) σ') ∧ C.length = n * z := by
          intro D hD
          have hlen : us.length = n := by
            have aux : ∀ (js : List Nat) (us : List V) (j : Nat) (G : List (List PV) → Prop), js.length = us.length → prtK z j (js.zip us) G → ∃ l : List (List PV), l.length = us.length ∧ G l := by
              intro js
              induction js with
              | nil => intro us j G h1 h2; have : us = [] := List.length_eq_zero_iff.1 (by simpa using h1.symm); subst this; exact ⟨[], rfl, h2⟩
              | cons a js ih =>
                intro us j G h1 h2
                cases us with
                | nil => simp at h1
                | cons u us =>
                  simp only [List.zip_cons_cons, prtK] at h2
                  split at h2
                  · have aux2 : ∀ {u : V} {F : List V → Prop}, clK u F → ∃ l, F l := by
                      intro u F h
                      unfold clK at h
                      split at h
                      · exact ⟨_, h⟩
                      · exact h.elim
                      · exact ⟨_, h⟩
                    obtain ⟨c, h3⟩ := aux2 h2
                    obtain ⟨_, h4⟩ := lenK_sound h3
                    have aux3 : ∀ {c : List V} {F : List PV → Prop}, pvsK c F → ∃ l, F l := by
                      intro c
                      induction c with
                      | nil => intro F h; exact ⟨_, h⟩
                      | cons u c ih =>
                        intro F h
                        simp only [pvsK] at h
                        unfold pvK at h
                        split at h
                        · exact (ih h).elim fun _ h => ⟨_, h⟩
                        · exact (ih h).elim fun _ h => ⟨_, h⟩
                        · exact (ih h).elim fun _ h => ⟨_, h⟩
                        · exact h.elim
                    obtain ⟨ps, h5⟩ := aux3 h4
                    obtain ⟨l, h6, h7⟩ := ih us (j + 1) _ (by simpa using h1) h5
                    exact ⟨ps :: l, by simp [h6], h7⟩
                  · exact h2.elim
            obtain ⟨l, h1, h2⟩ := aux js us 0 _ hj h
            obtain ⟨h3, _⟩ := lenK_sound h2
            omega
          obtain ⟨l, C, e1, e2, e3, e4, e5, e6, e7⟩ := prt_sound (n := n * z) (D := D.toList) hj hr (by simpa using hD) (by simp) h (by rw [hlen, Nat.zero_add])
          obtain ⟨_, e8⟩ := lenK_sound e7
          simp only [Nat.zero_mul, List.take_zero, List.nil_append, Array.toArray_toList] at e6
          exact ⟨l, C, e6, ⟨e2, .inr ⟨_, C, rfl, Blk.new _ _ _, by rw [e3, e1]; exact Nat.le_refl _, fun i c p hc hp => (e4 i c p hc hp).mono (mono_alloc r _ (some (w.heap.size, C.length)))⟩⟩, e8, by rw [e3, hlen]⟩
        unfold bslK runK Instr.buildSlice
        rw [Sem.run_bind, run_underlying ht, Result.andThen_ok]
        simp only [Sem.run_bind, run_sizeOf hz, Result.andThen_ok]
        rw [if_neg (by omega)]
        have fin : ∀ (Z : Array Value), resK ((do
            let some cells := Instr.fill (fun i => some (i * z, z)) ((Array.range (n * z)).map (Z[· % Z.size]!)) (js.zip vs).toArray.toList | stuck "buildSlice: a part of the wrong size"
            pure (.slice (some (← newRow et cells)) n n) : Sem Value).run P w) (k true) := by
          intro Z
          obtain ⟨l, C, f1, f2, f3, f4⟩ := key ((Array.range (n * z)).map (Z[· % Z.size]!)) (by simp)
          obtain ⟨σ', μ', e1, e2, e3, e4⟩ := newO_sound (t := et) r f2 f3
          have f1' : Instr.fill (fun i => some (i * z, z)) ((Array.range (n * z)).map (Z[· % Z.size]!)) (js.zip vs).toArray.toList = some C.toArray := f1
          rw [f1']
          have e5 : RepV (w.alloc (.cells C.toArray et)) Im μ' (.sl σ.length z 0 n) (.slice (some ⟨w.heap.size, 0, none⟩) n n) := .sl ⟨Nat.le_refl _, by rw [e3]; exact ⟨fun _ => by simp, by simp [f4]⟩⟩
          exact hk _ _ _ _ _ _ e1 e2 (fun _ => (Ext.refl [] w).alloc _) e5 e4
        by_cases h0 : n * z = 0
        · rw [if_pos h0]
          simp only [pure_bind]
          exact fin #[]
        · rw [if_neg h0]
          simp only [Sem.run_bind, run_zero hzz, Result.andThen_ok, pure_bind, bind_assoc]
          exact fin _
    · exact h.elim
  · exact h.elim
end
end Go.Vx
