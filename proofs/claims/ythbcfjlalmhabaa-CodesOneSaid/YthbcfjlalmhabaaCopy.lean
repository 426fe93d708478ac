import Derived.Test.YthbcfjlalmhabaaApp
/-! 'copy'. -/
namespace Go.Eng
set_option linter.unusedSimpArgs false
set_option linter.unusedVariables false
theorem setB_same {w : World} {b : Nat} {C : List Value} (h : Blk w b C) : setB w b C = w := by
  obtain ⟨T, h⟩ := h
  have : (setB w b C).heap = w.heap := by
    unfold setB
    apply Array.ext
    · simp
    · intro i h1 h2
      simp only [Array.getElem_modify]
      split
      · rename_i e
        subst e
        have h3 : w.heap[b] = .cells C.toArray T := by
          have := Array.getElem?_eq_getElem h2
          rw [h] at this
          exact (Option.some.inj this).symm
        rw [h3]
      · rfl
  show { w with heap := (setB w b C).heap } = w
  rw [this]
section
variable {P : Program} {w : World} {k : Kv} {t tx e ty : TypeId} {cst : Array Bool}

theorem bltK_copy {b o n c m z cap : Nat} {C xs : List Value} {ax : Option Addr} (ht : P.underlying t = some (.slice e)) (hz : szOf P e = some z) (hB : Blk w b C) (hx : Row w ax xs) (hxl : xs.length = m * z) (ho : ∀ v ∈ xs, oneC v = true)
    (hle : m ≤ n) (hr : o + m * z ≤ C.length) :
    bltK P .copy #[t, tx] ty cst [.slice (some ⟨b, o, none⟩) n c, .slice ax m cap] w k = k true (.int .i64 m) (if xs = [] then w else setB w b (setL C o xs)) := by
  have hmz : ax = none → m * z = 0 := fun h => by
    subst h
    rcases Nat.eq_zero_or_pos xs.length with h0 | h0
    · omega
    · have := hx.1 h0; cases this
  have hrun : (Builtin.copy_ #[t, tx] ty #[.slice (some ⟨b, o, none⟩) n c, .slice ax m cap]).run P w = .ok (.int .i64 m) (if xs = [] then w else setB w b (setL C o xs)) := by
    unfold Builtin.copy_
    have hmin : Nat.min m n = m := Nat.min_eq_left hle
    simp only [List.getElem?_toArray, List.getElem?_cons_zero, List.getElem?_cons_succ, Sem.run_bind, run_underlying ht, Result.andThen_ok, run_sizeOf hz, Builtin.lenOf, pure_bind, hmin]
    rw [run_firstCells hx hxl hmz]
    simp only [Result.andThen_ok, Sem.run_bind]
    have h2 := run_storeCells (P := P) xs w b o 0 C ho hB (by omega)
    rw [Nat.add_zero] at h2
    rw [h2]
    rfl
  unfold bltK nextK runK builtin
  simp only [Sem.run_bind, hrun, Result.andThen_ok]
  rfl
end
end Go.Eng
