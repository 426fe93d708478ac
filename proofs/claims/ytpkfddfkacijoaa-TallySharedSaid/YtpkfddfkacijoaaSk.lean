import Derived.Test.YtpkfddfkacijoaaSf
namespace Go.Proofs.Ytpkfddfkacijoaa
set_option linter.unusedSimpArgs false
set_option linter.unusedVariables false
structure PW (P : SP) : Prop extends PB P where
  m255 : P.m ≤ 255
  d3 : P.d ≤ 3
  s4 : P.s ≤ 4
theorem wth_le {c : Cell} {s A : Nat} (hc : c.1 ≤ A) (hm : c.2 ≤ 3) (hs : s ≤ 4) : wth c s ≤ A * 4096 := by
  unfold wth
  have h1 : s * c.2 ≤ 4 * 3 := Nat.mul_le_mul hs hm
  have h2 : 2 ^ (s * c.2) ≤ 2 ^ 12 := Nat.pow_le_pow_right (by decide) (by omega)
  exact Nat.mul_le_mul hc h2
theorem mode_le {P : SP} {v s : Nat} : modeOf P v s P.d 0 ≤ P.d := (modeOf_spec (P := P) (v := v) (s := s) (f := P.d) (m := 0) (by omega)).1
theorem sm_le {s m : Nat} (hs : s ≤ 4) (hm : m ≤ 3) : s * m ≤ 12 := by
  have := Nat.mul_le_mul hs hm
  omega
theorem rnd_le {L : List Bool} {n k p a q : Nat} (h : (rndD n k).run L p = some (a, q)) : a ≤ n / 2 ^ k + 1 ∧ a ≤ n + 1 := by
  have h1 := all_run (rndD_all n k) h
  have := Nat.div_le_self n (2 ^ k)
  omega
theorem run_map {α β : Type} {L : List Bool} {f : α → β} {t : DT α} {p : Nat} : (t.bind fun r => DT.ret (f r)).run L p = (t.run L p).map (fun x => (f x.1, x.2)) := by
  rw [run_bind]
  cases t.run L p with
  | none => rfl
  | some x => rfl
theorem scD_run {P : SP} {L : List Bool} {v s p : Nat} : (scD P v s).run L p = ((rndD v (s * modeOf P v s P.d 0)).run L p).map (fun r => ((r.1, modeOf P v s P.d 0), r.2)) := run_map
theorem upD_run {L : List Bool} {c : Cell} {s p : Nat} : (upD c s).run L p = ((rndD c.1 s).run L p).map (fun r => ((r.1, c.2 + 1), r.2)) := run_map
theorem reD_run {P : SP} {L : List Bool} {c : Cell} {w p : Nat} : (reD P w c).run L p = match (scD P (wth c w) (w + 1)).run L p with | some (c1, q) => if P.m < c1.1 then (upD c1 (w + 1)).run L q else some (c1, q) | none => none := by
  unfold reD
  rw [run_bind]
  cases (scD P (wth c w) (w + 1)).run L p with
  | none => rfl
  | some x =>
    obtain ⟨c1, q⟩ := x
    show (if P.m < c1.1 then upD c1 (w + 1) else .ret c1).run L q = if P.m < c1.1 then (upD c1 (w + 1)).run L q else some (c1, q)
    split <;> rfl
theorem rsD_own {P : SP} {L : List Bool} {w k p : Nat} {i : Int} {c own : Cell} {cs : List Cell} (hk : (k : Int) = i) : (rsD P w i (c :: cs) k own).run L p = match (scD P (wth own w) (w + 1)).run L p with | some (o, q) => ((rsD P w i cs (k + 1) o).run L q).map (fun r => ((c :: r.1.1, r.1.2), r.2)) | none => none := by
  rw [rsD.eq_2, if_pos hk, run_bind]
  cases (scD P (wth own w) (w + 1)).run L p with
  | none => rfl
  | some x => exact run_map
theorem rsD_other {P : SP} {L : List Bool} {w k p : Nat} {i : Int} {c own : Cell} {cs : List Cell} (hk : ¬ (k : Int) = i) : (rsD P w i (c :: cs) k own).run L p = match (reD P w c).run L p with | some (c1, q) => ((rsD P w i cs (k + 1) own).run L q).map (fun r => ((putS c1 :: r.1.1, r.1.2), r.2)) | none => none := by
  rw [rsD.eq_2, if_neg hk, run_bind]
  cases (reD P w c).run L p with
  | none => rfl
  | some x => exact run_map
theorem dead_next {α : Type} {L : List Bool} {t : DT α} {d : Bool} {p q : Nat} {a : α} (hp : p ≤ L.length) (hd : d = true → p = L.length) (h : t.run L p = some (a, q)) : q ≤ L.length ∧ (d = true → q = L.length) := by
  have := run_le hp h
  refine ⟨this.2, fun e => ?_⟩
  have := hd e
  omega
end Go.Proofs.Ytpkfddfkacijoaa
