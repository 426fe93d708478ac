import Derived.Test.YthbcfjlalmhabaaOps2
/-! 'append'. -/
namespace Go.Eng
set_option linter.unusedSimpArgs false
set_option linter.unusedVariables false

/-- The blocks that a slice leads to. -/
def fpv : Value → List Nat
  | .slice (some a) _ _ => [a.block]
  | _ => []

/-- A slice that the call itself made, and that nobody else leads to: n elements of z cells. -/
def OwnC (w : World) (v : Value) (n z : Nat) (cs : List Value) : Prop :=
  cs.length = n * z ∧ ((v = .slice none 0 0 ∧ n = 0) ∨ ∃ b C cap, v = .slice (some ⟨b, 0, none⟩) n cap ∧ Blk w b C ∧ cap * z ≤ C.length ∧ n ≤ cap ∧ C.take (n * z) = cs)

theorem OwnC.ext {M : List Nat} {w w' : World} {v : Value} {n z : Nat} {cs : List Value} (h : OwnC w v n z cs) (he : Ext M w w') (hb : ∀ b ∈ fpv v, b ∉ M) : OwnC w' v n z cs := by
  obtain ⟨h1, h2⟩ := h
  refine ⟨h1, ?_⟩
  rcases h2 with h2 | ⟨b, C, cap, rfl, hB, h3, h4, h5⟩
  · exact .inl h2
  · exact .inr ⟨b, C, cap, rfl, hB.ext he (hb b (by simp [fpv])), h3, h4, h5⟩
theorem OwnC.ext' {w w' : World} {v : Value} {n z : Nat} {cs : List Value} (h : OwnC w v n z cs) (he : Ext [] w w') : OwnC w' v n z cs := h.ext he (fun _ _ => by simp)
theorem OwnC.lt {w : World} {v : Value} {n z : Nat} {cs : List Value} (h : OwnC w v n z cs) : ∀ b ∈ fpv v, b < w.heap.size := by
  obtain ⟨_, h2⟩ := h
  rcases h2 with ⟨rfl, _⟩ | ⟨b, C, cap, rfl, hB, _⟩
  · intro b hb; simp [fpv] at hb
  · intro b' hb; simp [fpv] at hb; subst hb; exact hB.lt
theorem OwnC.nil (w : World) (z : Nat) : OwnC w (.slice none 0 0) 0 z [] := ⟨by simp, .inl ⟨rfl, rfl⟩⟩
/-- It is a slice, and reads as its cells. -/
theorem OwnC.row {w : World} {v : Value} {n z : Nat} {cs : List Value} (h : OwnC w v n z cs) : ∃ a cap, v = .slice a n cap ∧ n ≤ cap ∧ Row w a cs ∧ (∀ b, ab a = b → cs ≠ [] → b ∈ fpv v) := by
  obtain ⟨h1, h2⟩ := h
  rcases h2 with ⟨rfl, rfl⟩ | ⟨b, C, cap, rfl, hB, h3, h4, h5⟩
  · refine ⟨none, 0, rfl, Nat.le_refl _, ?_, ?_⟩
    · have : cs = [] := List.length_eq_zero_iff.1 (by simpa using h1)
      subst this
      exact Row.nil _ _
    · intro b _ hne
      exact absurd (List.length_eq_zero_iff.1 (by simpa using h1)) hne
  · refine ⟨_, _, rfl, h4, Row.of_blk hB (fun i hi => ?_), fun b' hb _ => ?_⟩
    · rw [Nat.zero_add]
      subst h5
      simp at hi ⊢
    · simp [fpv]; exact hb.symm

theorem growBy_le (need : Nat) : ∀ (r c : Nat), 256 ≤ need → c < need → Builtin.growBy need r c ≤ 2 * need
  | 0, c, _, h => by simp [Builtin.growBy]; omega
  | r + 1, c, h0, h => by
    simp only [Builtin.growBy]
    rw [if_neg (by omega)]
    by_cases h1 : c + (c + 768) / 4 < need
    · exact growBy_le need r _ h0 h1
    · cases r with
      | zero => simp only [Builtin.growBy]; omega
      | succ r => simp only [Builtin.growBy]; rw [if_pos (by omega)]; omega
theorem nextcap_le {need cap : Nat} (h : cap < need) : Builtin.nextslicecap need cap ≤ 2 * need := by
  unfold Builtin.nextslicecap
  split
  · omega
  · split
    · omega
    · exact growBy_le need 4 cap (by omega) h

theorem run_firstCells {P : Program} {w : World} {a : Option Addr} {cs : List Value} {n z len cap : Nat} (h : Row w a cs) (hl : cs.length = n * z) (hn : a = none → n * z = 0) : (Builtin.firstCells z n (.slice a len cap)).run P w = .ok cs.toArray w := by
  cases a with
  | none =>
    have : cs = [] := List.length_eq_zero_iff.1 (by rw [hl]; exact hn rfl)
    subst this
    rfl
  | some x =>
    simp only [Builtin.firstCells]
    by_cases h0 : 0 < cs.length
    · have hx : x = ⟨ab (some x), ao (some x), none⟩ := Option.some.inj (h.1 h0)
      have := run_loadCells (P := P) (b := ab (some x)) (o := ao (some x)) (fun i hi => h.2 i hi)
      rw [← hx, hl] at this
      exact this
    · have : cs = [] := List.length_eq_zero_iff.1 (by omega)
      subst this
      have hz : n * z = 0 := by simpa using hl.symm
      rw [hz]
      rfl

section
variable {P : Program} {w : World} {k : Kv} {t e tx e' ty : TypeId} {cst : Array Bool}

theorem bltK_append_of {v x u : Value} {w' : World} (h : (Builtin.append_ #[t, tx] ty #[v, x]).run P w = .ok u w') : bltK P .append #[t, tx] ty cst [v, x] w k = k true u w' := by
  unfold bltK nextK runK builtin
  simp only [Sem.run_bind, h, Result.andThen_ok]
  rfl

theorem run_append_room {a ax : Option Addr} {n m z cap capx b : Nat} {xs C : List Value} (ht : P.underlying t = some (.slice e)) (htx : P.underlying tx = some (.slice e')) (hz : szOf P e = some z)
    (hx : Row w ax xs) (hxl : xs.length = m * z) (hmz : ax = none → m * z = 0) (ho : ∀ v ∈ xs, oneC v = true) (hfit : n + m ≤ cap) (ha : a = some ⟨b, 0, none⟩) (hB : Blk w b C) (hC : cap * z ≤ C.length) :
    (Builtin.append_ #[t, tx] ty #[.slice a n cap, .slice ax m capx]).run P w = .ok (.slice a (n + m) cap) (if xs = [] then w else setB w b (setL C (n * z) xs)) := by
  subst ha
  have hle : 0 + n * z + xs.length ≤ C.length := by
    rw [hxl, Nat.zero_add, ← Nat.add_mul]
    exact Nat.le_trans (Nat.mul_le_mul_right z hfit) hC
  have hst := run_storeCells (P := P) xs w b (0 + n * z) 0 C ho hB (by simpa using hle)
  simp only [Nat.zero_add, Nat.add_zero] at hst
  unfold Builtin.append_
  simp only [List.getElem?_toArray, List.getElem?_cons_zero, List.getElem?_cons_succ, Sem.run_bind, run_underlying ht, Result.andThen_ok, run_sizeOf hz, run_underlying htx, Builtin.lenOf, pure_bind, Bool.false_eq_true, if_false]
  rw [if_pos hfit]
  simp only [Bool.not_false, if_true, Sem.run_bind, run_firstCells hx hxl hmz, Result.andThen_ok, addr_add, Nat.zero_add, hst]
  rfl

theorem run_append_new {a ax : Option Addr} {n m z y cap capx : Nat} {cs xs Z : List Value} (ht : P.underlying t = some (.slice e)) (htx : P.underlying tx = some (.slice e')) (hz : szOf P e = some z) (hy : byOf P e = some y) (hy0 : 0 < y) (hze : zeOf P e = some Z) (hZ : Z.length = z)
    (hrow : Row w a cs) (hl : cs.length = n * z) (hnz : a = none → n * z = 0) (hx : Row w ax xs) (hxl : xs.length = m * z) (hmz : ax = none → m * z = 0) (hfit : ¬ n + m ≤ cap) (hb : (n + m) * 2 * y ≤ 2 ^ 48) :
    ∃ newCap rest, n + m ≤ newCap ∧ (rest : List Value).length = (newCap - (n + m)) * z ∧ (Builtin.append_ #[t, tx] ty #[.slice a n cap, .slice ax m capx]).run P w = .ok (.slice (some ⟨w.heap.size, 0, none⟩) (n + m) newCap) (w.drew.alloc (.cells (cs ++ xs ++ rest).toArray e)) := by
  obtain ⟨ti, hti, hby⟩ : ∃ ti, P.info? e = some ti ∧ ti.bytes = y := by
    unfold byOf at hy
    cases hi : P.info? e with
    | none => rw [hi] at hy; cases hy
    | some ti => rw [hi] at hy; exact ⟨ti, rfl, by simpa using hy⟩
  obtain ⟨zv, hzv, hzc⟩ : ∃ zv, (P.info? e).bind (·.zero) = some zv ∧ zv.cells.toList = Z := by
    unfold zeOf at hze
    cases hzz : (P.info? e).bind (·.zero) with
    | none => rw [hzz] at hze; cases hze
    | some zv => rw [hzz] at hze; exact ⟨zv, rfl, by simpa using hze⟩
  have hsmall : ¬ (Builtin.nextslicecap (n + m) cap * y > 2 ^ 48) := by
    have := Nat.mul_le_mul_right y (nextcap_le (need := n + m) (cap := cap) (by omega))
    rw [Nat.mul_comm 2 (n + m)] at this
    omega
  have hroomrun : ∀ (c : Nat) (w : World), (askRoom c).run P w = .ok () w := fun c w => by
    unfold askRoom
    split <;> rfl
  have hch : ∀ w : World, ∃ nc, n + m ≤ nc ∧ (choose (.appendCap (n + m) cap e)).run P w = .ok nc w.drew := fun w =>
    ⟨_, Nat.le_add_right _ _, rfl⟩
  obtain ⟨nc, hnc, hrunc⟩ := hch w
  refine ⟨nc, (Builtin.zeroCells zv.cells (nc - (n + m))).toList, hnc, ?_, ?_⟩
  · simp [Builtin.zeroCells]
    rw [← hZ, ← hzc]
    simp
  · unfold Builtin.append_
    simp only [List.getElem?_toArray, List.getElem?_cons_zero, List.getElem?_cons_succ, Sem.run_bind, run_underlying ht, Result.andThen_ok, run_sizeOf hz, run_underlying htx, Builtin.lenOf, pure_bind, Bool.false_eq_true, if_false]
    rw [if_neg hfit]
    simp only [Sem.run_bind, run_typeInfo hti, Result.andThen_ok]
    rw [hby, if_neg (by rintro ⟨_, h | h⟩ <;> first | exact h | omega)]
    simp only [Sem.run_bind, run_typeInfo hti, Result.andThen_ok, pure_bind]
    rw [hby, if_neg hsmall]
    simp only [Sem.run_bind, hrunc, run_typeInfo hti, Result.andThen_ok, hroomrun, Bool.not_false, if_true]
    rw [run_firstCells (w := w.drew) (len := n) (cap := cap) hrow hl hnz, Result.andThen_ok, run_firstCells (w := w.drew) (len := m) (cap := capx) hx hxl hmz, Result.andThen_ok, run_zero hzv]
    simp only [Result.andThen_ok, newRow, newObj, Sem.run_bind]
    simp only [Sem.run, Sem.bind, pure, Result.andThen_ok]
    congr 2
    congr 2
    simp

theorem OwnC.parts {v : Value} {n z : Nat} {cs : List Value} (h : OwnC w v n z cs) : ∃ a cap, v = .slice a n cap ∧ Row w a cs ∧ (n ≤ cap) ∧ ((a = none ∧ cap = 0) ∨ ∃ b C, a = some ⟨b, 0, none⟩ ∧ Blk w b C ∧ cap * z ≤ C.length ∧ C.take (n * z) = cs) := by
  obtain ⟨hl, hcase⟩ := h
  rcases hcase with ⟨rfl, rfl⟩ | ⟨b, C, cap, rfl, hB, h3, h4, h5⟩
  · have : cs = [] := List.length_eq_zero_iff.1 (by simpa using hl)
    subst this
    exact ⟨none, 0, rfl, Row.nil _ _, by omega, .inl ⟨rfl, rfl⟩⟩
  · refine ⟨_, cap, rfl, Row.of_blk hB (fun i hi => ?_), h4, .inr ⟨b, C, rfl, hB, h3, h5⟩⟩
    rw [Nat.zero_add]
    subst h5
    simp at hi ⊢

/-- 'append' to a slice of the call's own. -/
theorem append_own {v : Value} {n z m y capx : Nat} {cs xs Z : List Value} {ax : Option Addr} (ht : P.underlying t = some (.slice e)) (htx : P.underlying tx = some (.slice e')) (hz : szOf P e = some z) (hy : byOf P e = some y) (hy0 : 0 < y) (hze : zeOf P e = some Z) (hZ : Z.length = z)
    (hv : OwnC w v n z cs) (hx : Row w ax xs) (hxl : xs.length = m * z) (ho : ∀ v ∈ xs, oneC v = true) (hb : (n + m) * 2 * y ≤ 2 ^ 48)
    (hk : ∀ v' w', OwnC w' v' (n + m) z (cs ++ xs) → Ext (fpv v) w w' → (∀ b ∈ fpv v', b ∈ fpv v ∨ w.heap.size ≤ b) → k true v' w') :
    bltK P .append #[t, tx] ty cst [v, .slice ax m capx] w k := by
  have hmz : ax = none → m * z = 0 := fun h => by
    subst h
    rcases Nat.eq_zero_or_pos xs.length with h0 | h0
    · omega
    · have := hx.1 h0; cases this
  have hl := hv.1
  obtain ⟨a, cap, rfl, hrow, hncap, hroom⟩ := hv.parts
  have hnz : a = none → n * z = 0 := fun h => by
    rcases hroom with ⟨_, h0⟩ | ⟨b, C, h1, _⟩
    · have : n = 0 := by omega
      simp [this]
    · rw [h] at h1; cases h1
  by_cases hfit : n + m ≤ cap
  · rcases hroom with ⟨rfl, h0⟩ | ⟨b, C, ha, hB, hC, htake⟩
    · have hm0 : m = 0 := by omega
      have hn0 : n = 0 := by omega
      subst hm0 hn0
      have hxs : xs = [] := List.length_eq_zero_iff.1 (by simpa using hxl)
      have hcs : cs = [] := List.length_eq_zero_iff.1 (by simpa using hl)
      subst hxs hcs h0
      have hrun : (Builtin.append_ #[t, tx] ty #[.slice none 0 0, .slice ax 0 capx]).run P w = .ok (.slice none 0 0) w := by
        unfold Builtin.append_
        simp only [List.getElem?_toArray, List.getElem?_cons_zero, List.getElem?_cons_succ, Sem.run_bind, run_underlying ht, Result.andThen_ok, run_sizeOf hz, run_underlying htx, Builtin.lenOf, pure_bind, Bool.false_eq_true, if_false]
        rw [if_pos (by omega)]
        simp only [Bool.not_false, if_true, Sem.run_bind]
        rw [run_firstCells (n := 0) hx (by simp) (by simp)]
        rfl
      rw [bltK_append_of hrun]
      exact hk _ _ (OwnC.nil w z) (Ext.refl _ _) (fun b hb => by simp [fpv] at hb)
    · rw [bltK_append_of (run_append_room ht htx hz hx hxl hmz ho hfit ha hB hC)]
      subst ha
      have hle : n * z + xs.length ≤ C.length := by
        rw [hxl, ← Nat.add_mul]
        exact Nat.le_trans (Nat.mul_le_mul_right z hfit) hC
      have hC' : n * z ≤ C.length := Nat.le_trans (Nat.mul_le_mul_right z hncap) hC
      refine hk _ _ ⟨by simp [hl, hxl, Nat.add_mul], .inr ⟨b, if xs = [] then C else setL C (n * z) xs, cap, rfl, ?_, ?_, hfit, ?_⟩⟩ ?_ (fun b' hb' => .inl hb')
      · by_cases hxe : xs = []
        · simp only [if_pos hxe]; exact hB
        · simp only [if_neg hxe]; exact setB_heap hB
      · split
        · exact hC
        · rw [setL_length]; exact hC
      · apply List.ext_getElem?
        intro j
        rw [Nat.add_mul, ← hl, ← hxl, List.getElem?_take]
        by_cases hj : j < cs.length + xs.length
        · rw [if_pos hj]
          have hcsj : ∀ j, j < cs.length → C[j]? = cs[j]? := fun j hj => by
            have h9 := congrArg (·[j]?) htake
            simp only [List.getElem?_take] at h9
            rw [if_pos (by omega)] at h9
            exact h9
          by_cases hxe : xs = []
          · subst hxe
            simp at hj ⊢
            exact hcsj j hj
          · rw [if_neg hxe, setL_get xs C _ j (by omega)]
            by_cases hj2 : j < cs.length
            · rw [if_neg (by omega), hcsj j hj2, List.getElem?_append_left hj2]
            · rw [if_pos (by omega), List.getElem?_append_right (by omega)]
        · rw [if_neg hj, List.getElem?_eq_none (by simp; omega)]
      · by_cases hxe : xs = []
        · rw [if_pos hxe]; exact Ext.refl _ _
        · rw [if_neg hxe]; exact setB_ext _ _ _
  · obtain ⟨nc, rest, h1, h2, h3⟩ := run_append_new (ty := ty) (capx := capx) ht htx hz hy hy0 hze hZ hrow hl hnz hx hxl hmz hfit hb
    rw [bltK_append_of h3]
    refine hk _ _ ⟨by simp [hl, hxl, Nat.add_mul], .inr ⟨_, _, nc, rfl, Blk.new w.drew _ _, ?_, h1, ?_⟩⟩ ((Ext.refl _ _).drew.alloc _) (fun b hb => .inr (by simp [fpv] at hb; omega))
    · have : nc = (n + m) + (nc - (n + m)) := by omega
      rw [List.length_append, List.length_append, hl, hxl, h2, ← Nat.add_mul, ← Nat.add_mul, ← this]
      exact Nat.le_refl _
    · rw [Nat.add_mul, ← hl, ← hxl, ← List.length_append]
      exact List.take_left

/-- 'append' to a slice that has no room: new memory. -/
theorem append_fresh {a : Option Addr} {n z m y cap capx : Nat} {cs xs Z : List Value} {ax : Option Addr} (ht : P.underlying t = some (.slice e)) (htx : P.underlying tx = some (.slice e')) (hz : szOf P e = some z) (hy : byOf P e = some y) (hy0 : 0 < y) (hze : zeOf P e = some Z) (hZ : Z.length = z)
    (hrow : Row w a cs) (hl : cs.length = n * z) (hx : Row w ax xs) (hxl : xs.length = m * z) (ho : ∀ v ∈ xs, oneC v = true) (hfit : ¬ n + m ≤ cap) (hb : (n + m) * 2 * y ≤ 2 ^ 48)
    (hk : ∀ v' w', OwnC w' v' (n + m) z (cs ++ xs) → Ext [] w w' → (∀ b ∈ fpv v', w.heap.size ≤ b) → k true v' w') :
    bltK P .append #[t, tx] ty cst [.slice a n cap, .slice ax m capx] w k := by
  have hmz : ax = none → m * z = 0 := fun h => by
    subst h
    rcases Nat.eq_zero_or_pos xs.length with h0 | h0
    · omega
    · have := hx.1 h0; cases this
  have hnz : a = none → n * z = 0 := fun h => by
    subst h
    rcases Nat.eq_zero_or_pos cs.length with h0 | h0
    · omega
    · have := hrow.1 h0; cases this
  obtain ⟨nc, rest, h1, h2, h3⟩ := run_append_new (ty := ty) (capx := capx) ht htx hz hy hy0 hze hZ hrow hl hnz hx hxl hmz hfit hb
  rw [bltK_append_of h3]
  refine hk _ _ ⟨by simp [hl, hxl, Nat.add_mul], .inr ⟨_, _, nc, rfl, Blk.new w.drew _ _, ?_, h1, ?_⟩⟩ ((Ext.refl _ _).drew.alloc _) (fun b hb => by simp [fpv] at hb; omega)
  · have : nc = (n + m) + (nc - (n + m)) := by omega
    rw [List.length_append, List.length_append, hl, hxl, h2, ← Nat.add_mul, ← Nat.add_mul, ← this]
    exact Nat.le_refl _
  · rw [Nat.add_mul, ← hl, ← hxl, ← List.length_append]
    exact List.take_left
end
end Go.Eng
