import Derived.Test.YthbcfjlalmhabaaVb
/-! What touches no memory: the readings agree. -/
namespace Go.Vx
open Go.Eng
set_option linter.unusedSimpArgs false
set_option linter.unusedVariables false
section
variable {w : World} {Im : Nat → Prop} {μ : Mu} {ρ : Vg} {ρc : Rg} {P : Program}

theorem RepL.nil : RepL w Im μ [] [] := ⟨rfl, fun i u c h => by simp at h⟩
theorem RepL.cons {u : V} {v : Value} {us : List V} {vs : List Value} (h : RepV w Im μ u v) (hs : RepL w Im μ us vs) : RepL w Im μ (u :: us) (v :: vs) :=
  ⟨by simp [hs.1], fun i x c hx hc => by
    cases i with
    | zero => simp at hx hc; subst hx hc; exact h
    | succ i => simp at hx hc; exact hs.2 i x c hx hc⟩
theorem RepL.uncons {u : V} {us : List V} {C : List Value} (h : RepL w Im μ (u :: us) C) : ∃ v vs, C = v :: vs ∧ RepV w Im μ u v ∧ RepL w Im μ us vs := by
  obtain ⟨hn, h⟩ := h
  cases C with
  | nil => simp at hn
  | cons v vs => exact ⟨v, vs, rfl, h 0 u v rfl rfl, by simpa using hn, fun i x c hx hc => h (i + 1) x c (by simpa using hx) (by simpa using hc)⟩
theorem RepL.get {l : List V} {C : List Value} (h : RepL w Im μ l C) {i : Nat} {u : V} (hu : l[i]? = some u) : ∃ c, C[i]? = some c ∧ RepV w Im μ u c := by
  have hi := (List.getElem?_eq_some_iff.1 hu).1
  have : C[i]? = some (C[i]'(by rw [h.1]; exact hi)) := List.getElem?_eq_getElem _
  exact ⟨_, this, h.2 i u _ hu this⟩
theorem RepL.part {l : List V} {C : List Value} (h : RepL w Im μ l C) (a n : Nat) : RepL w Im μ ((l.drop a).take n) ((C.drop a).take n) :=
  ⟨by simp [h.1], fun i u c hu hc => by
    rw [List.getElem?_take] at hu hc
    split at hu
    · rename_i hi
      rw [if_pos hi] at hc
      rw [List.getElem?_drop] at hu hc
      exact h.2 _ u c hu hc
    · cases hu⟩
theorem RepL.append {l l' : List V} {C C' : List Value} (h : RepL w Im μ l C) (h' : RepL w Im μ l' C') : RepL w Im μ (l ++ l') (C ++ C') :=
  ⟨by simp [h.1, h'.1], fun i u c hu hc => by
    by_cases hi : i < l.length
    · rw [List.getElem?_append_left hi] at hu
      rw [List.getElem?_append_left (by rw [h.1]; exact hi)] at hc
      exact h.2 i u c hu hc
    · rw [List.getElem?_append_right (by omega)] at hu
      rw [List.getElem?_append_right (by rw [h.1]; omega), h.1] at hc
      exact h'.2 _ u c hu hc⟩
theorem RepL.lits : ∀ {C : List Value}, C.all oneC = true → RepL w Im μ (C.map V.lit) C
  | [], _ => .nil
  | v :: C, h => by
    simp only [List.all_cons, Bool.and_eq_true] at h
    exact .cons (.lit h.1) (RepL.lits h.2)
theorem allOne_iff {C : List Value} {p : Prop} : allOne C p ↔ (C.all oneC = true ∧ p) := by
  unfold allOne
  split <;> simp [*]
theorem all_mem {C : List Value} (h : C.all oneC = true) : ∀ c ∈ C, oneC c = true := List.all_eq_true.1 h

theorem lkV_sound {t : Nat} {K : V → Prop} (hg : RepG w Im μ ρ ρc) (h : lkV ρ t K) : ∃ u v, RepV w Im μ u v ∧ K u ∧ ∀ K' : Value → Prop, lk ρc t K' = K' v := by
  unfold lkV at h
  cases hf : fdV ρ t with
  | none => rw [hf] at h; exact h.elim
  | some u =>
    rw [hf] at h
    obtain ⟨v, h1, h2⟩ := hg t u hf
    exact ⟨u, v, h2, h, fun K' => by simp [lk, h1]⟩
theorem cstV_sound {v : Value} {K : V → Prop} (h : cstV v K) : ∃ u, RepV w Im μ u v ∧ K u := by
  unfold cstV at h
  split at h
  · rename_i cs
    obtain ⟨h1, h2⟩ := allOne_iff.1 h
    refine ⟨_, ?_, h2⟩
    have hl : RepL w Im μ (cs.toList.map V.lit) cs.toList := RepL.lits h1
    have : Value.agg cs = Value.agg cs.toList.toArray := by simp
    rw [this]
    exact .agg hl.1 (all_mem h1) hl.2
  · exact h.elim
  · rename_i h1 h2
    refine ⟨_, .lit ?_, h⟩
    cases v <;> first | rfl | exact absurd rfl (h1 _) | exact absurd rfl (h2 _)
theorem evV_sound {x : Operand} {K : V → Prop} (hg : RepG w Im μ ρ ρc) (h : evV ρ x K) : ∃ u v, RepV w Im μ u v ∧ K u ∧ ∀ K' : Value → Prop, evK ρc x K' = K' v := by
  cases x with
  | tmp t => exact lkV_sound hg h
  | const v =>
    obtain ⟨u, h1, h2⟩ := cstV_sound (w := w) (Im := Im) (μ := μ) (h : cstV v K)
    exact ⟨u, v, h1, h2, fun _ => rfl⟩
  | global g => exact ⟨_, _, .lit rfl, h, fun _ => rfl⟩
  | func f => exact ⟨_, _, .clo (C := []) rfl (fun i u c h => by simp at h), h, fun _ => rfl⟩
theorem evsV_sound (hg : RepG w Im μ ρ ρc) : ∀ {xs : List Operand} {K : List V → Prop}, evsV ρ xs K → ∃ us vs, RepL w Im μ us vs ∧ K us ∧ ∀ K' : List Value → Prop, evsK ρc xs K' = K' vs
  | [], K, h => ⟨[], [], .nil, h, fun _ => rfl⟩
  | x :: xs, K, h => by
    obtain ⟨u, v, h1, h2, h3⟩ := evV_sound hg h
    obtain ⟨us, vs, h4, h5, h6⟩ := evsV_sound hg h2
    exact ⟨_, _, .cons h1 h4, h5, fun K' => by simp only [evsK, h3, h6]⟩
theorem evpV_sound (hg : RepG w Im μ ρ ρc) : ∀ {xs : List (Nat × Operand)} {K : List (Nat × V) → Prop}, evpV ρ xs K → ∃ (js : List Nat) (us : List V) (vs : List Value), js.length = us.length ∧ RepL w Im μ us vs ∧ K (js.zip us) ∧ ∀ K' : List (Nat × Value) → Prop, evpK ρc xs K' = K' (js.zip vs)
  | [], K, h => ⟨[], [], [], rfl, .nil, h, fun _ => rfl⟩
  | (i, x) :: xs, K, h => by
    obtain ⟨u, v, h1, h2, h3⟩ := evV_sound hg h
    obtain ⟨js, us, vs, h0, h4, h5, h6⟩ := evpV_sound hg h2
    exact ⟨i :: js, u :: us, v :: vs, by simp [h0], .cons h1 h4, h5, fun K' => by simp only [evpK, h3, h6, List.zip_cons_cons]⟩
/-- A value that may be missing. -/
def RepOp (w : World) (Im : Nat → Prop) (μ : Mu) : Option V → Option Value → Prop
  | none, none => True
  | some u, some v => RepV w Im μ u v
  | _, _ => False
theorem evoV_sound (hg : RepG w Im μ ρ ρc) {x : Option Operand} {K : Option V → Prop} (h : evoV ρ x K) : ∃ u v, RepOp w Im μ u v ∧ K u ∧ ∀ K' : Option Value → Prop, evoK ρc x K' = K' v := by
  cases x with
  | none => exact ⟨none, none, trivial, h, fun _ => rfl⟩
  | some x =>
    obtain ⟨u, v, h1, h2, h3⟩ := evV_sound hg (K := fun u => K (some u)) h
    exact ⟨some u, some v, h1, h2, fun K' => by simp only [evoK, h3]⟩

/-! ### numbers -/
theorem intI_sound {op : BinOp} {t : TypeId} {x y : Operand} {i : IntKind} {a b : Int} {r : Value} (h : intI op i a b = some r) : oneC r = true ∧ ∀ (w : World) (k : Kv), binK P op t x y (.int i a) (.int i b) w k = k true r w := by
  cases op with
  | add => cases h; exact ⟨rfl, fun w k => binK_add⟩
  | sub => cases h; exact ⟨rfl, fun w k => binK_sub⟩
  | mul => cases h; exact ⟨rfl, fun w k => binK_mul⟩
  | quo =>
    simp only [intI] at h
    split at h
    · cases h
    · cases h; exact ⟨rfl, fun w k => binK_quo ‹_›⟩
  | rem =>
    simp only [intI] at h
    split at h
    · cases h
    · cases h; exact ⟨rfl, fun w k => binK_rem ‹_›⟩
  | lss => cases h; exact ⟨rfl, fun w k => binK_lss⟩
  | leq => cases h; exact ⟨rfl, fun w k => binK_leq⟩
  | gtr => cases h; exact ⟨rfl, fun w k => binK_gtr⟩
  | geq => cases h; exact ⟨rfl, fun w k => binK_geq⟩
  | eql => cases h; exact ⟨rfl, fun w k => binK_eql⟩
  | neq => cases h; exact ⟨rfl, fun w k => binK_neq⟩
  | and => cases h; exact ⟨rfl, fun w k => binK_and⟩
  | or => cases h; exact ⟨rfl, fun w k => binK_or⟩
  | xor => cases h; exact ⟨rfl, fun w k => binK_xor⟩
  | andNot => cases h; exact ⟨rfl, fun w k => binK_andNot⟩
  | _ => cases h
theorem shI_sound {op : BinOp} {t : TypeId} {x y : Operand} {i j : IntKind} {a b : Int} {r : Value} (h : shI op i a b = some r) : oneC r = true ∧ ∀ (w : World) (k : Kv), binK P op t x y (.int i a) (.int j b) w k = k true r w := by
  cases op with
  | shl =>
    simp only [shI] at h
    split at h
    · cases h; exact ⟨rfl, fun w k => binK_shl ‹_›⟩
    · cases h
  | shr =>
    simp only [shI] at h
    split at h
    · cases h; exact ⟨rfl, fun w k => binK_shr ‹_›⟩
    · cases h
  | _ => cases h
theorem isBool_spec {t : TypeId} (h : isBool P t = true) : P.underlying t = some .bool := by
  unfold isBool at h
  split at h
  · assumption
  · cases h
theorem isPtr_spec {t : TypeId} (h : isPtr P t = true) : ∃ e, P.underlying t = some (.pointer e) := by
  unfold isPtr at h
  split at h
  · rename_i e he; exact ⟨e, he⟩
  · cases h
theorem boolI_sound {op : BinOp} {t : TypeId} {x y : Operand} {a b : Bool} {r : Value} (ht : P.underlying t = some .bool) (h : boolI op a b = some r) : oneC r = true ∧ ∀ (w : World) (k : Kv), binK P op t x y (.bool a) (.bool b) w k = k true r w := by
  cases op <;> simp only [boolI, isEq, Option.map_some, Option.map_none, Option.some.injEq, reduceCtorEq] at h
  · subst h; exact ⟨rfl, fun w k => by rw [binK_bool ht]; simp⟩
  · subst h; exact ⟨rfl, fun w k => by rw [binK_nbool ht]; simp⟩
theorem nilI_sound {op : BinOp} {t e : TypeId} {x y : Operand} {a : Option Addr} {r : Value} (ht : P.underlying t = some (.pointer e)) (h : nilI op a.isNone = some r) : oneC r = true ∧ ∀ (w : World) (k : Kv), binK P op t x y (.pointer a) (.pointer none) w k = k true r w := by
  cases op <;> simp only [nilI, isEq, Option.map_some, Option.map_none, Option.some.injEq, reduceCtorEq] at h
  · subst h; exact ⟨rfl, fun w k => by rw [binK_ptr_nil ht]; simp⟩
  · subst h; exact ⟨rfl, fun w k => by rw [binK_ptr_nnil ht]; simp⟩
theorem isSlc_spec {t : TypeId} (h : isSlc P t = true) : ∃ e, P.underlying t = some (.slice e) := by
  unfold isSlc at h
  split at h
  · rename_i e he; exact ⟨e, he⟩
  · cases h
theorem isStr_spec {t : TypeId} (h : isStr P t = true) : P.underlying t = some .string := by
  unfold isStr at h
  split at h
  · assumption
  · cases h
theorem nilS_sound {op : BinOp} {t e : TypeId} {x y : Operand} {a : Option Addr} {n c : Nat} {r : Value} (ht : P.underlying t = some (.slice e)) (h : nilI op a.isNone = some r) : oneC r = true ∧ ∀ (w : World) (k : Kv), binK P op t x y (.slice a n c) (.slice none 0 0) w k = k true r w := by
  cases op <;> simp only [nilI, isEq, Option.map_some, Option.map_none, Option.some.injEq, reduceCtorEq] at h
  · subst h; exact ⟨rfl, fun w k => by rw [binK_slice_nil ht]; simp⟩
  · subst h; exact ⟨rfl, fun w k => by rw [binK_slice_nnil ht]; simp⟩
theorem litI_sound {x : Option Value} {F : FV} (h : litI x F) : ∃ v, x = some v ∧ F true (.lit v) := by
  cases x with
  | none => exact h.elim
  | some v => exact ⟨v, rfl, h⟩

/-- What an operation that touches no memory comes to. -/
def Comes (w : World) (Im : Nat → Prop) (μ : Mu) (F : FV) (op : World → Kv → Prop) : Prop := ∃ u v, RepV w Im μ u v ∧ F true u ∧ ∀ w' (k : Kv), op w' k = k true v w'

theorem nilB_sound {op : BinOp} {t e : TypeId} {x y : Operand} {a : Option Addr} {n c : Nat} {emp : Bool} {F : FV} (ht : P.underlying t = some (.slice e)) (he : emp = false → a.isNone = false) (h : nilB op emp F) : Comes w Im μ F fun w' k => binK P op t x y (.slice a n c) (.slice none 0 0) w' k := by
  have h' : litI (nilI op a.isNone) F := by
    unfold nilB at h
    cases emp with
    | true =>
      simp only [cond_true] at h
      cases a.isNone with
      | true => exact h.1
      | false => exact h.2
    | false =>
      simp only [cond_false] at h
      rw [he rfl]
      exact h
  obtain ⟨r, hr, hf⟩ := litI_sound h'
  obtain ⟨h1, h2⟩ := nilS_sound (x := x) (y := y) (n := n) (c := c) ht hr
  exact ⟨_, _, .lit h1, hf, h2⟩
theorem binV_sound {op : BinOp} {t : TypeId} {x y : Operand} {u v : V} {a b : Value} {F : FV} (hu : RepV w Im μ u a) (hv : RepV w Im μ v b) (h : binV P op t u v F) : Comes w Im μ F fun w' k => binK P op t x y a b w' k := by
  unfold binV at h
  split at h
  · cases hu; cases hv
    split at h
    · obtain ⟨r, hr, hf⟩ := litI_sound h
      obtain ⟨h1, h2⟩ := shI_sound (P := P) (t := t) (x := x) (y := y) hr
      exact ⟨_, _, .lit h1, hf, h2⟩
    · split at h
      · rename_i e
        subst e
        obtain ⟨r, hr, hf⟩ := litI_sound h
        obtain ⟨h1, h2⟩ := intI_sound (P := P) (t := t) (x := x) (y := y) hr
        exact ⟨_, _, .lit h1, hf, h2⟩
      · exact h.elim
  · cases hu; cases hv
    split at h
    · rename_i ht
      obtain ⟨r, hr, hf⟩ := litI_sound h
      obtain ⟨h1, h2⟩ := boolI_sound (x := x) (y := y) (isBool_spec ht) hr
      exact ⟨_, _, .lit h1, hf, h2⟩
    · exact h.elim
  · cases hu; cases hv
    split at h
    · rename_i ht
      obtain ⟨e, ht⟩ := isPtr_spec ht
      obtain ⟨r, hr, hf⟩ := litI_sound h
      obtain ⟨h1, h2⟩ := nilI_sound (x := x) (y := y) ht hr
      exact ⟨_, _, .lit h1, hf, h2⟩
    · exact h.elim
  · cases hu; cases hv
    split at h
    · rename_i ht
      obtain ⟨e, ht⟩ := isPtr_spec ht
      obtain ⟨r, hr, hf⟩ := litI_sound h
      obtain ⟨h1, h2⟩ := nilI_sound (a := some _) (x := x) (y := y) ht hr
      exact ⟨_, _, .lit h1, hf, h2⟩
    · exact h.elim
  · cases hu; cases hv
    split at h
    · rename_i ht
      obtain ⟨e, ht⟩ := isSlc_spec ht
      obtain ⟨r, hr, hf⟩ := litI_sound h
      obtain ⟨h1, h2⟩ := nilS_sound (a := none) (n := 0) (c := 0) (x := x) (y := y) ht hr
      exact ⟨_, _, .lit h1, hf, h2⟩
    · exact h.elim
  · rename_i z l
    split at h
    · rename_i ht
      obtain ⟨ht, hz0⟩ := ht
      obtain ⟨e, ht⟩ := isSlc_spec ht
      cases hv
      cases hu with
      | row hp => cases hp with
        | row hl hc hz hR hI hn ho hr =>
          refine nilB_sound ht (fun he => ?_) h
          have hne : 0 < l.length := by
            cases l with
            | nil => cases he
            | cons _ _ => simp
          rw [hR.1 (by rw [hn, hl]; exact Nat.mul_pos hne hz0)]
          rfl
    · exact h.elim
  · split at h
    · rename_i ht
      obtain ⟨e, ht⟩ := isSlc_spec ht
      cases hv
      cases hu with
      | sl hs =>
        refine nilB_sound ht (fun he => ?_) h
        have hne := of_decide_eq_false he
        obtain ⟨_, hs⟩ := hs
        generalize μ[(_ : Nat)]? = loc at hs
        cases loc with
        | none => exact hs.elim
        | some loc =>
          cases loc with
          | none => exact absurd hs.2.1 hne
          | some bn => rw [hs.1 (.inl (by omega))]; rfl
    · exact h.elim
  · exact h.elim
theorem unoV_sound {op : UnOp} {u : V} {a : Value} {F : FV} (hu : RepV w Im μ u a) (h : unoV op u F) : Comes w Im μ F fun w' k => unoK P op a w' k := by
  unfold unoV at h
  split at h
  · cases hu; exact ⟨_, _, .lit rfl, h, fun _ _ => rfl⟩
  · cases hu; exact ⟨_, _, .lit rfl, h, fun _ _ => rfl⟩
  · cases hu; exact ⟨_, _, .lit rfl, h, fun _ _ => rfl⟩
  · exact h.elim
theorem knOf_spec {t : TypeId} {k : IntKind} (h : knOf P t = some k) : P.underlying t = some (.int k) := by
  unfold knOf at h
  split at h
  · cases h; assumption
  · cases h
theorem cvtV_sound {s t : TypeId} {u : V} {a : Value} {F : FV} (hu : RepV w Im μ u a) (h : cvtV P s t u F) : Comes w Im μ F fun w' k => cvtK P s t a w' k := by
  unfold cvtV at h
  split at h
  · rename_i hs ht
    cases hu
    exact ⟨_, _, .lit rfl, h, fun _ _ => cvtK_of (by rw [knOf_spec hs]; rfl) (knOf_spec ht)⟩
  · exact h.elim
theorem ncV_sound {u : V} {a : Value} {F : FV} (hu : RepV w Im μ u a) (h : ncV u F) : Comes w Im μ F fun w' k => ncK a w' k := by
  unfold ncV at h
  split at h
  · cases hu with | ref h1 => exact ⟨_, _, .ref h1, h, fun _ _ => rfl⟩
  · cases hu with | rref h1 h2 h3 h4 h5 h6 => exact ⟨_, _, .rref h1 h2 h3 h4 h5 h6, h, fun _ _ => rfl⟩
  · cases hu with | clo h1 h2 => exact ⟨_, _, .clo h1 h2, h, fun _ _ => rfl⟩
  · exact h.elim
theorem fdOf_spec {t : TypeId} {j o n : Nat} {ag : Bool} (h : fdOf P t j = some (o, ag, n)) : ∃ fs f d z, P.underlying t = some (.struct fs) ∧ fs[j]? = some f ∧ P.underlying f.type = some d ∧ szOf P f.type = some (z + 1) ∧ f.offset = o ∧ aggD d = ag ∧ n = z + 1 := by
  unfold fdOf at h
  split at h
  · rename_i fs h1
    split at h
    · rename_i f h2
      split at h
      · rename_i d z h3 h4
        cases h
        exact ⟨fs, f, d, z, h1, h2, h3, h4, rfl, rfl, rfl⟩
      · cases h
    · cases h
  · cases h
theorem fadV_sound {t : TypeId} {u : V} {j : Nat} {a : Value} {F : FV} (hu : RepV w Im μ u a) (h : fadV P t u j F) : Comes w Im μ F fun w' k => fadK P t a j w' k := by
  unfold fadV at h
  split at h
  · exact h.elim
  · rename_i o ag n hf
    obtain ⟨fs, f, d, z, h1, h2, h3, h4, h5, _, _⟩ := fdOf_spec hf
    split at h
    · cases hu with
      | ref hm =>
        refine ⟨_, _, .ref hm, h, fun _ _ => ?_⟩
        dsimp only
        rw [fadK_of h1 h2 h4 h5, Nat.add_assoc]
    · cases hu with
      | rref q1 q2 q3 q4 q5 q6 =>
        refine ⟨_, _, .rref q1 q2 q3 q4 q5 q6, h, fun _ _ => ?_⟩
        dsimp only
        rw [fadK_of h1 h2 h4 h5, Nat.add_assoc]
    · exact h.elim
theorem atK_sound {α : Type} {l : List α} {i : Nat} {F : α → Prop} (h : atK l i F) : ∃ x, l[i]? = some x ∧ F x := by
  unfold atK at h
  cases hx : l[i]? with
  | none => rw [hx] at h; exact h.elim
  | some x => rw [hx] at h; exact ⟨x, rfl, h⟩
theorem tkK_sound {α : Type} {l : List α} {a n : Nat} {F : List α → Prop} (h : tkK l a n F) : a + n ≤ l.length ∧ F ((l.drop a).take n) := by
  unfold tkK at h
  split at h
  · exact ⟨‹_›, h⟩
  · exact h.elim
theorem wrK_sound {α : Type} {l c : List α} {a : Nat} {F : List α → Prop} (h : wrK l a c F) : a + c.length ≤ l.length ∧ F (l.take a ++ c ++ l.drop (a + c.length)) := by
  unfold wrK at h
  split at h
  · exact ⟨‹_›, h⟩
  · exact h.elim
theorem lenK_sound {α : Type} {c : List α} {n : Nat} {p : Prop} (h : lenK c n p) : c.length = n ∧ p := by
  unfold lenK at h
  split at h
  · exact ⟨‹_›, h⟩
  · exact h.elim
theorem fldV_sound {t : TypeId} {u : V} {j : Nat} {a : Value} {F : FV} (hu : RepV w Im μ u a) (h : fldV P t u j F) : Comes w Im μ F fun w' k => fldK P t a j w' k := by
  unfold fldV at h
  split at h
  · exact h.elim
  · rename_i o ag n hf
    obtain ⟨fs, f, d, z, h1, h2, h3, h4, h5, h6, h7⟩ := fdOf_spec hf
    split at h
    · cases hu with
      | @agg l C hn ho hr =>
        have hL : RepL w Im μ _ C := ⟨hn, hr⟩
        cases ag with
        | true =>
          simp only [cond_true] at h
          obtain ⟨hle, hF⟩ := tkK_sound h
          have hp := hL.part o n
          refine ⟨_, _, .agg hp.1 (fun c hc => ho c (List.mem_of_mem_drop (List.mem_of_mem_take hc))) hp.2, hF, fun _ _ => ?_⟩
          dsimp only
          rw [fldK_agg h1 h2 h3 h6 h5 h4, h7]
        | false =>
          simp only [cond_false] at h
          obtain ⟨x, hx, hF⟩ := atK_sound h
          obtain ⟨c, hc, hxc⟩ := hL.get hx
          refine ⟨_, _, hxc, hF, fun w' k => ?_⟩
          dsimp only
          rw [fldK_one h1 h2 h3 h6 h5 (List.getElem?_eq_some_iff.1 hc).1, lstK_of hc]
    · exact h.elim
theorem inK_sound {u : V} {n : Nat} {a : Value} {G : Nat → Prop} (hu : RepV w Im μ u a) (h : inK u n G) : ∃ k q, a = .int k q ∧ 0 ≤ q ∧ q < n ∧ q.toNat < n ∧ G q.toNat := by
  unfold inK at h
  split at h
  · cases hu
    split at h
    · rename_i hq
      exact ⟨_, _, rfl, hq.1, hq.2, by omega, h⟩
    · exact h.elim
  · exact h.elim
theorem elOf_spec {t e : TypeId} {z : Nat} (h : elOf P t = some (e, z)) : P.underlying t = some (.slice e) ∧ szOf P e = some z := by
  unfold elOf at h
  split at h
  · rename_i e' he
    cases hz : szOf P e' with
    | none => rw [hz] at h; cases h
    | some z' => rw [hz] at h; cases h; exact ⟨he, hz⟩
  · cases h
theorem arOf_spec {t e : TypeId} {n z : Nat} (h : arOf P t = some (n, e, z)) : P.underlying t = some (.array n e) ∧ szOf P e = some z := by
  unfold arOf at h
  split at h
  · rename_i n' e' he
    cases hz : szOf P e' with
    | none => rw [hz] at h; cases h
    | some z' => rw [hz] at h; cases h; exact ⟨he, hz⟩
  · cases h
theorem rowP_idx {z : Nat} {l : List (List PV)} {a : Value} (h : RepP w Im (.row z l) a) {q : Int} {k' : IntKind} {t e : TypeId} (hq0 : 0 ≤ q) (hq : q < l.length) (hz : 0 < z) (h1 : P.underlying t = some (.slice e)) (h2 : szOf P e = some z) :
    ∃ v, RepV w Im μ (.rref z l q.toNat 0) v ∧ ∀ w' (k : Kv), idxK P t a (.int k' q) w' k = k true v w' := by
  cases h with
  | @row z len cap l a C hl hc hze hR hI hn ho hr =>
    refine ⟨_, .rref hze hR hI (by rw [hn, hl]) ho hr, fun w' k => ?_⟩
    have hpos : 0 < C.length := by rw [hn]; exact Nat.mul_pos (by omega) hz
    have ha := hR.1 hpos
    have e : idxK P t (.slice a len cap) (.int k' q) w' k = idxK P t (.slice (some ⟨ab a, ao a, none⟩) len cap) (.int k' q) w' k := by rw [← ha]
    rw [e, idxK_slice h1 h2 ⟨hq0, by omega⟩, Nat.add_zero]
theorem idxV_sound {t : TypeId} {u v : V} {a b : Value} {F : FV} (hu : RepV w Im μ u a) (hv : RepV w Im μ v b) (h : idxV P t u v F) : Comes w Im μ F fun w' k => idxK P t a b w' k := by
  unfold idxV at h
  split at h
  · split at h
    · rename_i hel
      split at h
      · rename_i hz
        subst hz
        obtain ⟨k, q, rfl, hq0, hq, hq', hG⟩ := inK_sound hv h
        obtain ⟨h1, h2⟩ := elOf_spec hel
        cases hu with
        | sl hs =>
          obtain ⟨hlc, hs⟩ := hs
          generalize hm : μ[(_ : Nat)]? = loc at hs
          cases loc with
          | none => exact hs.elim
          | some loc =>
            cases loc with
            | none => obtain ⟨_, h0, _⟩ := hs; omega
            | some bn =>
              obtain ⟨b, n⟩ := bn
              obtain ⟨ha, hn⟩ := hs
              have ha' := ha (.inl (by omega))
              subst ha'
              refine ⟨_, _, .ref hm, hG, fun w' k' => ?_⟩
              dsimp only
              rw [idxK_slice h1 h2 ⟨hq0, hq⟩, Nat.add_zero, Nat.add_mul]
      · exact h.elim
    · exact h.elim
  · split at h
    · rename_i hel
      split at h
      · rename_i hz
        obtain ⟨hz, hz0⟩ := hz
        subst hz
        obtain ⟨k, q, rfl, hq0, hq, hq', hG⟩ := inK_sound hv h
        obtain ⟨h1, h2⟩ := elOf_spec hel
        cases hu with
        | row hp =>
          obtain ⟨x, hx, hk⟩ := rowP_idx (μ := μ) (k' := k) hp hq0 hq hz0 h1 h2
          exact ⟨_, _, hx, hG, hk⟩
      · exact h.elim
    · exact h.elim
  · split at h
    · rename_i hel
      split at h
      · rename_i hz
        obtain ⟨hz, hz0⟩ := hz
        subst hz
        obtain ⟨k, q, rfl, hq0, hq, hq', hG⟩ := inK_sound hv h
        obtain ⟨h1, h2⟩ := elOf_spec hel
        cases hu with
        | xrow hp =>
          obtain ⟨x, hx, hk⟩ := rowP_idx (μ := μ) (k' := k) hp hq0 hq hz0 h1 h2
          exact ⟨_, _, hx, hG, hk⟩
      · exact h.elim
    · exact h.elim
  · split at h
    · rename_i har
      obtain ⟨k, q, rfl, hq0, hq, hq', hG⟩ := inK_sound hv h
      obtain ⟨h1, h2⟩ := arOf_spec har
      cases hu with
      | ref hm =>
        refine ⟨_, _, .ref hm, hG, fun w' k' => ?_⟩
        dsimp only
        rw [idxK_array h1 h2 ⟨hq0, hq⟩]
        simp [Nat.add_comm]
    · exact h.elim
  · exact h.elim
theorem agOf_spec {t : TypeId} {q : Option Nat} (h : agOf P t = some q) : ∃ d, P.underlying t = some d ∧ ((aggD d = false ∧ q = none) ∨ ∃ n, aggD d = true ∧ q = some n ∧ szOf P t = some n) := by
  unfold agOf at h
  split at h
  · rename_i d hd
    refine ⟨d, hd, ?_⟩
    cases hg : aggD d with
    | false => rw [hg] at h; cases h; exact .inl ⟨rfl, rfl⟩
    | true =>
      rw [hg] at h
      cases hz : szOf P t with
      | none => rw [hz] at h; cases h
      | some n => rw [hz] at h; cases h; exact .inr ⟨n, rfl, rfl, rfl⟩
  · cases h
theorem ixvV_sound {t : TypeId} {u v : V} {a b : Value} {F : FV} (hu : RepV w Im μ u a) (hv : RepV w Im μ v b) (h : ixvV P t u v F) : Comes w Im μ F fun w' k => ixvK P t a b w' k := by
  unfold ixvV at h
  split at h
  · split at h
    · rename_i har
      obtain ⟨k, q, rfl, hq0, hq, hq', hG⟩ := inK_sound hv h
      split at hG
      · rename_i hag
        split at hG
        · rename_i hz
          obtain ⟨hz, hl⟩ := hz
          subst hz
          obtain ⟨h1, h2⟩ := arOf_spec har
          obtain ⟨d, hd, hor⟩ := agOf_spec hag
          rcases hor with ⟨hgd, _⟩ | ⟨n, _, h9, _⟩
          · cases hu with
            | @agg l C hn ho hr =>
              obtain ⟨x, hx, hF⟩ := atK_sound hG
              obtain ⟨c, hc, hxc⟩ := RepL.get ⟨hn, hr⟩ hx
              refine ⟨_, _, hxc, hF, fun w' k' => ?_⟩
              dsimp only
              rw [ixvK_of h1 hd hgd h2 ⟨hq0, hq⟩ (by omega), lstK_of hc]
          · cases h9
        · exact hG.elim
      · exact hG.elim
    · exact h.elim
  · rename_i s
    split at h
    · rename_i hst
      obtain ⟨k, q, rfl, hq0, hq, hq', hG⟩ := inK_sound hv h
      cases hu
      refine ⟨_, _, .lit rfl, hG, fun w' k' => ?_⟩
      have ht := isStr_spec hst
      show runK P (Instr.index t (.string s) (.int k q)) w' (k' true) = _
      unfold runK Instr.index
      simp only [asIntOf, pure_bind, Sem.run_bind, run_underlying ht, Result.andThen_ok]
      rw [if_pos hq0]
      have hlt : q.toNat < s.size := hq'
      have e : s[q.toNat]? = some (s[q.toNat]'hlt) := by
        rw [getElem?_pos]
      rw [e]
      have e2 : strAt s q.toNat = (s[q.toNat]'hlt).toNat := by
        unfold strAt
        congr 1
        rw [List.getD_eq_getElem?_getD, Array.getElem?_toList]
        have hd : q.toNat < s.data.size := hlt
        rw [Array.getElem?_eq_getElem hd]
        rfl
      rw [e2]
      rfl
    · exact h.elim
  · exact h.elim
theorem extV_sound {u : V} {j : Nat} {a : Value} {F : FV} (hu : RepV w Im μ u a) (h : extV u j F) : Comes w Im μ F fun w' k => extK a j w' k := by
  unfold extV at h
  split at h
  · cases hu with
    | @tup l C hn hr =>
      obtain ⟨x, hx, hF⟩ := atK_sound h
      obtain ⟨c, hc, hxc⟩ := RepL.get ⟨hn, hr⟩ hx
      exact ⟨_, _, hxc, hF, fun w' k' => by dsimp only; rw [extK_of, lstK_of hc]⟩
  · exact h.elim
theorem pickV_sound {c x y : V} {a b d : Value} {F : FV} (hc : RepV w Im μ c a) (hx : RepV w Im μ x b) (hy : RepV w Im μ y d) (h : pickV c x y F) : Comes w Im μ F fun w' k => pickK a b d w' k := by
  unfold pickV at h
  split at h
  · rename_i t
    cases hc
    refine ⟨_, bif t then b else d, ?_, h, fun _ _ => rfl⟩
    cases t <;> assumption
  · exact h.elim
end
end Go.Vx
