import Derived.Test.YtpkfddfkacijoaaAf
import Derived.Test.YtpkfddfkacijoaaSd
namespace Go.Proofs.Ytpkfddfkacijoaa
open Go.Eng Go.Vx
set_option linter.unusedSimpArgs false
set_option linter.unusedVariables false
set_option maxRecDepth 100000
def qTr (t : DT Rat) (f : Nat) (s : Rat × Nat) : Rat × Nat := (s.1 + sumQr t f, s.2 + opQr t f)
theorem qTr_ask0 {g h : DT Rat} {s : Rat × Nat} : qTr (.ask g h) 0 s = (s.1, s.2 + 1) := by
  show (s.1 + 0, s.2 + 1) = _
  rw [show s.1 + 0 = s.1 by grind]
theorem qTr_ask {g h : DT Rat} {f : Nat} {s : Rat × Nat} : qTr (.ask g h) (f + 1) s = qTr h f (qTr g f s) := by
  show (s.1 + (sumQr g f + sumQr h f), s.2 + (opQr g f + opQr h f)) = (s.1 + sumQr g f + sumQr h f, s.2 + opQr g f + opQr h f)
  rw [show s.1 + (sumQr g f + sumQr h f) = s.1 + sumQr g f + sumQr h f by grind, Nat.add_assoc]
theorem qTr_ret {a : Rat} {f : Nat} {s : Rat × Nat} : qTr (.ret a) f s = (s.1 + a * vn (2 ^ f), s.2) := rfl
theorem subQ_ask {g h : DT Rat} : (DT.ask g h).sub [false] = g ∧ (DT.ask g h).sub [true] = h := ⟨by cases g <;> rfl, by cases h <;> rfl⟩
def alf {α : Type} (q : α → Prop) : DT α → Nat → Prop
  | .ret a, _ => q a
  | .ask _ _, 0 => True
  | .ask g h, f + 1 => alf q g f ∧ alf q h f
theorem run_shift {α : Type} {b : Bool} {L : List Bool} : ∀ {t : DT α} {p : Nat}, t.run (b :: L) (p + 1) = (t.run L p).map fun r => (r.1, r.2 + 1) := by
  intro t
  induction t with
  | ret a => intro p; rfl
  | ask g h ihg ihh =>
    intro p
    rw [run_ask, run_ask]
    have e : (b :: L).getD (p + 1) false = L.getD p false := by simp [List.getD_eq_getElem?_getD]
    rw [e, List.length_cons]
    by_cases hp : p < L.length
    · rw [if_pos (by omega), if_pos hp]
      split
      · exact ihh
      · exact ihg
    · rw [if_neg (by omega), if_neg hp]
      rfl
theorem alf_run {α : Type} {q : α → Prop} : ∀ {t : DT α} {f : Nat}, (∀ (L : List Bool) (a : α) (p : Nat), L.length ≤ f → t.run L 0 = some (a, p) → q a) → alf q t f := by
  intro t
  induction t with
  | ret a => intro f h; exact h [] a 0 (Nat.zero_le _) rfl
  | ask g k ihg ihk =>
    intro f h
    cases f with
    | zero => trivial
    | succ f =>
      refine ⟨ihg fun L a p hL hr => h (false :: L) a (p + 1) (by simp; omega) ?_, ihk fun L a p hL hr => h (true :: L) a (p + 1) (by simp; omega) ?_⟩
      · rw [run_ask, if_pos (by simp)]
        show g.run (false :: L) (0 + 1) = _
        rw [run_shift, hr]
        rfl
      · rw [run_ask, if_pos (by simp)]
        show k.run (true :: L) (0 + 1) = _
        rw [run_shift, hr]
        rfl
theorem alf_sub {α : Type} {q : α → Prop} : ∀ {L : List Bool} {t : DT α} {f : Nat}, alf q t (L.length + f) → alf q (t.sub L) f := by
  intro L
  induction L with
  | nil => intro t f h; rw [List.length_nil, Nat.zero_add] at h; cases t <;> exact h
  | cons b L ih =>
    intro t f h
    rw [List.length_cons, show L.length + 1 + f = L.length + f + 1 by omega] at h
    cases t with
    | ret a => exact h
    | ask g k =>
      cases b with
      | false => exact ih h.1
      | true => exact ih h.2
theorem sumQr_RS {B : Nat} : ∀ {t : DT Rat} {f : Nat}, alf (fun a => RS B a) t f → f ≤ 20 → RS ((B + 3) * 2 ^ f - 1) (sumQr t f) := by
  intro t
  induction t with
  | ret a =>
    intro f h hf
    have hp : 1 ≤ 2 ^ f := Nat.pow_pos (by decide)
    have h20 : 2 ^ f ≤ 2 ^ 20 := Nat.pow_le_pow_right (by decide) hf
    have hm : B + 3 ≤ (B + 3) * 2 ^ f := Nat.le_mul_of_pos_right (B + 3) hp
    exact (RS_mul h (RS_one (a := ((2 ^ f : Nat) : Int)) (by omega) (by omega))).mono (by omega)
  | ask g k ihg ihk =>
    intro f h hf
    cases f with
    | zero => exact (RS_one (a := 0) (by decide) (by decide)).mono (by rw [Nat.pow_zero]; omega)
    | succ f =>
      have hp : 1 ≤ 2 ^ f := Nat.pow_pos (by decide)
      have hm : B + 3 ≤ (B + 3) * 2 ^ f := Nat.le_mul_of_pos_right (B + 3) hp
      have e : (B + 3) * 2 ^ (f + 1) = (B + 3) * 2 ^ f + (B + 3) * 2 ^ f := by rw [Nat.pow_succ, ← Nat.mul_assoc]; omega
      exact (RS_add (ihg (f := f) h.1 (by omega)) (ihk (f := f) h.2 (by omega))).mono (by omega)
theorem play_leaf {fin : Nat × Nat → Rat} {L : List Bool} (hL : L.length + 1 ≤ 40) : ∀ {ks : List Nat} {N p : Nat} {x : Nat × Nat} {a : Rat} {q : Nat}, p ≤ L.length → x.2 ≤ N → (playQ fin ks N x).run L p = some (a, q) → ∃ y : Nat × Nat, a = fin y ∧ y.2 ≤ N + ks.length := by
  intro ks
  induction ks with
  | nil =>
    intro N p x a q hp hx h
    have h : some (fin x, p) = some (a, q) := h
    injection h with h
    injection h with h1 h2
    exact ⟨x, h1.symm, by simpa using hx⟩
  | cons k ks ih =>
    intro N p x a q hp hx h
    rw [run_playQ hL hp] at h
    cases hu : updL L (N + 1) k [x] p with
    | none => rw [hu] at h; cases h
    | some r =>
      obtain ⟨X', q'⟩ := r
      rw [hu] at h
      obtain ⟨k1, k2, k3⟩ := updL_ok hp hu
      have hle := updL_le (B := max x.1 k + 1) (X := [x]) (by omega) (fun y hy => by rw [List.mem_singleton.1 hy]; exact ⟨by omega, hx⟩) hu
      match X', k3 with
      | [x'], _ =>
        obtain ⟨y, h1, h2⟩ := ih k2 (hle x' (by simp)).2 h
        exact ⟨y, h1, by rw [List.length_cons]; omega⟩
theorem shA_n {k : Nat} (h : k < 63) : IntKind.i64.wrap (1 * 2 ^ k) = ((2 ^ k : Nat) : Int) := by
  have h1 : 2 ^ k ≤ 2 ^ 62 := Nat.pow_le_pow_right (by decide) (by omega)
  have h2 : (1 * 2 ^ k : Int) = ((2 ^ k : Nat) : Int) := by simp
  rw [h2]
  generalize 2 ^ k = x at *
  exact wrap_i64 ⟨by omega, by omega⟩
end Go.Proofs.Ytpkfddfkacijoaa
