import Derived.Test.YtdmdmdoeahhkiaaGreatDoorSd
namespace Go.Proofs.YtdmdmdoeahhkiaaGreatDoor
set_option linter.unusedSimpArgs false
set_option linter.unusedVariables false
variable {α : Type}
def DT.sub : DT α → List Bool → DT α
  | t, [] => t
  | .ret a, _ :: _ => .ret a
  | .ask f g, b :: bs => (if b then g else f).sub bs
theorem sub_ret (a : α) (L : List Bool) : (DT.ret a).sub L = .ret a := by cases L <;> rfl
theorem sub_snoc (b : Bool) : ∀ (L : List Bool) (t : DT α), t.sub (L ++ [b]) = (t.sub L).sub [b] := by
  intro L
  induction L with
  | nil => intro t; rfl
  | cons c L ih =>
    intro t
    cases t with
    | ret a => rw [sub_ret, sub_ret, sub_ret]
    | ask f g => exact ih _
theorem run_drop {L : List Bool} : ∀ (t : DT α) (p : Nat), (match t.run L p with | some (a, _) => t.sub (L.drop p) = .ret a | none => ∃ f g, t.sub (L.drop p) = .ask f g)
  | .ret a, p => by
    show (DT.ret a).sub (L.drop p) = .ret a
    exact sub_ret _ _
  | .ask f g, p => by
    rw [run_ask]
    by_cases h : p < L.length
    · rw [if_pos h]
      have e : L.drop p = L.getD p false :: L.drop (p + 1) := by
        rw [List.drop_eq_getElem_cons h]
        congr 1
        simp [List.getD_eq_getElem?_getD, h]
      rw [e]
      cases hb : L.getD p false with
      | true => exact run_drop g (p + 1)
      | false => exact run_drop f (p + 1)
    · rw [if_neg h, List.drop_eq_nil_of_le (by omega)]
      exact ⟨f, g, rfl⟩
theorem run_some {L : List Bool} {t : DT α} {a : α} {q : Nat} (h : t.run L 0 = some (a, q)) : t.sub L = .ret a := by
  have := run_drop (L := L) t 0
  rw [h] at this
  exact this
theorem run_none {L : List Bool} {t : DT α} (h : t.run L 0 = none) : ∃ f g, t.sub L = .ask f g := by
  have := run_drop (L := L) t 0
  rw [h] at this
  exact this
def wkS (val : α → Nat) : DT α → Nat → Nat
  | .ret a, f => val a * 2 ^ f
  | .ask _ _, 0 => 0
  | .ask g h, f + 1 => wkS val g f + wkS val h f
def wkO : DT α → Nat → Bool
  | .ret _, _ => false
  | .ask _ _, 0 => true
  | .ask g h, f + 1 => wkO g f || wkO h f
def wkA (q : α → Bool) : DT α → Nat → Bool
  | .ret a, _ => q a
  | .ask _ _, 0 => false
  | .ask g h, f + 1 => wkA q g f || wkA q h f
theorem wk_mean {val : α → Nat} : ∀ {t : DT α} {f : Nat}, wkO t f = false → vn (wkS val t f) = t.mean (fun a => vn (val a)) * vn (2 ^ f)
  | .ret a, f, h => by unfold wkS DT.mean; exact vn_mul _ _
  | .ask g k, 0, h => by unfold wkO at h; exact absurd h (by decide)
  | .ask g k, f + 1, h => by
    unfold wkO at h
    obtain ⟨h1, h2⟩ := Bool.or_eq_false_iff.1 h
    unfold wkS DT.mean
    rw [vn_add, wk_mean h1, wk_mean h2, Nat.pow_succ, vn_mul]
    have : vn 2 = 2 := rfl
    rw [this]
    grind
theorem wk_all {q : α → Bool} : ∀ {t : DT α} {f : Nat}, wkO t f = false → wkA q t f = false → t.all (fun a => q a = false)
  | .ret a, f, h, h2 => h2
  | .ask g k, 0, h, h2 => by unfold wkO at h; exact absurd h (by decide)
  | .ask g k, f + 1, h, h2 => by
    unfold wkO at h
    unfold wkA at h2
    obtain ⟨a1, a2⟩ := Bool.or_eq_false_iff.1 h
    obtain ⟨b1, b2⟩ := Bool.or_eq_false_iff.1 h2
    exact ⟨wk_all a1 b1, wk_all a2 b2⟩
theorem wkS_le {val : α → Nat} {B : Nat} : ∀ {t : DT α} {f : Nat}, t.all (fun a => val a ≤ B) → wkS val t f ≤ B * 2 ^ f
  | .ret a, f, h => Nat.mul_le_mul_right _ h
  | .ask g k, 0, h => Nat.zero_le _
  | .ask g k, f + 1, h => by
    unfold wkS
    have h1 := wkS_le (f := f) h.1
    have h2 := wkS_le (f := f) h.2
    rw [Nat.pow_succ, ← Nat.mul_assoc]
    omega
def actsD (P : SP) (x y z : Nat) : DT SS :=
  (addD P ([(0, 0), (0, 0)], 1, false) 0 x).bind fun a => (addD P a 1 y).bind fun b => (addD P b 0 z).bind fun c => mergeD P c c
theorem wl_zero (s : Nat) : ∀ j, wl [(0, 0), (0, 0)] s j = 0 := by
  intro j
  unfold wl wvS wth
  match j with
  | 0 => simp [vn]
  | 1 => simp [vn]
  | j + 2 => simp [vn]
theorem nf_merge {P : SP} {x y : SS} (h : (mergeD P x y).all nf) : nf x := by
  unfold mergeD at h
  rw [all_bind] at h
  have h2 := all_and h (mean_lv P 0 (y.2.1 - x.2.1) x).2
  cases e : x.2.2 with
  | false => exact e
  | true =>
    exact absurd (all_mono (fun r hr => by
      have h3 : r.2.2 = false := nf_mg hr.1
      rw [hr.2.2.2, e] at h3
      exact absurd h3 (by decide)) h2) all_false
theorem mean_acts (P : SP) (x y z : Nat) (h : (actsD P x y z).all nf) : (actsD P x y z).mean (fun r => wl r.1 r.2.1 0) = 2 * (vn x + vn z) ∧ (actsD P x y z).mean (fun r => wl r.1 r.2.1 1) = 2 * vn y := by
  have gen : ∀ j, j < 2 → (actsD P x y z).mean (fun r => wl r.1 r.2.1 j) = 2 * (((0 + if j = 0 then vn x else 0) + if j = 1 then vn y else 0) + if j = 0 then vn z else 0) := by
    intro j hj
    unfold actsD at h ⊢
    rw [all_bind] at h
    rw [mean_bind]
    have la := len_add P ([(0, 0), (0, 0)], 1, false) 0 x
    have ka : (addD P ([(0, 0), (0, 0)], 1, false) 0 x).all fun a => ((addD P a 1 y).bind fun b => (addD P b 0 z).bind fun c => mergeD P c c).mean (fun r => wl r.1 r.2.1 j) = 2 * (((wl a.1 a.2.1 j) + if j = 1 then vn y else 0) + if j = 0 then vn z else 0) ∧ nf a := by
      refine all_mono (fun a hh => ?_) (all_and h la)
      obtain ⟨h, hla, -⟩ := hh
      have hla : a.1.length = 2 := hla
      rw [all_bind] at h
      rw [mean_bind]
      have kb : (addD P a 1 y).all fun b => ((addD P b 0 z).bind fun c => mergeD P c c).mean (fun r => wl r.1 r.2.1 j) = 2 * (wl b.1 b.2.1 j + if j = 0 then vn z else 0) ∧ nf b := by
        refine all_mono (fun b hh => ?_) (all_and h (len_add P a 1 y))
        obtain ⟨h, hlb, -⟩ := hh
        rw [hla] at hlb
        rw [all_bind] at h
        rw [mean_bind]
        have kc : (addD P b 0 z).all fun c => (mergeD P c c).mean (fun r => wl r.1 r.2.1 j) = 2 * wl c.1 c.2.1 j ∧ nf c := by
          refine all_mono (fun c hh => ?_) (all_and h (len_add P b 0 z))
          obtain ⟨h, hlc, -⟩ := hh
          rw [hlb] at hlc
          refine ⟨?_, nf_merge h⟩
          rw [mean_merge P c c rfl rfl h (by omega)]
          grind
        have nfc := all_mono (fun c hc => hc.2) kc
        have nfb : nf b := by
          cases e : b.2.2 with
          | false => exact e
          | true => exact absurd (all_mono (fun r hr => by
              have h3 : r.2.2 = false := hr.1
              rw [hr.2.2 e] at h3
              exact absurd h3 (by decide)) (all_and nfc (len_add P b 0 z))) all_false
        refine ⟨?_, nfb⟩
        have h5 : (addD P b 0 z).mean (fun c => 2 * wl c.1 c.2.1 j) = (addD P b 0 z).mean (fun c => wl c.1 c.2.1 j) * 2 := mean_map fun c => Rat.mul_comm _ _
        rw [mean_congr (all_mono (fun c hc => hc.1) kc), h5, mean_addD P b 0 z (by omega) nfc j]
        exact Rat.mul_comm _ _
      have nfb := all_mono (fun c hc => hc.2) kb
      have nfa : nf a := by
        cases e : a.2.2 with
        | false => exact e
        | true => exact absurd (all_mono (fun r hr => by
            have h3 : r.2.2 = false := hr.1
            rw [hr.2.2 e] at h3
            exact absurd h3 (by decide)) (all_and nfb (len_add P a 1 y))) all_false
      refine ⟨?_, nfa⟩
      have h5 : (addD P a 1 y).mean (fun b => 2 * (wl b.1 b.2.1 j + if j = 0 then vn z else 0)) = ((addD P a 1 y).mean (fun b => wl b.1 b.2.1 j) + if j = 0 then vn z else 0) * 2 := by
        rw [mean_map (w := fun b : SS => wl b.1 b.2.1 j + if j = 0 then vn z else 0) (fun b => Rat.mul_comm _ _), mean_add, mean_const]
      rw [mean_congr (all_mono (fun c hc => hc.1) kb), h5, mean_addD P a 1 y (by omega) nfb j]
      exact Rat.mul_comm _ _
    have nfa := all_mono (fun c hc => hc.2) ka
    have h5 : (addD P ([(0, 0), (0, 0)], 1, false) 0 x).mean (fun a => 2 * (((wl a.1 a.2.1 j) + if j = 1 then vn y else 0) + if j = 0 then vn z else 0)) = (((addD P ([(0, 0), (0, 0)], 1, false) 0 x).mean (fun a => wl a.1 a.2.1 j) + if j = 1 then vn y else 0) + if j = 0 then vn z else 0) * 2 := by
      rw [mean_map (w := fun a : SS => ((wl a.1 a.2.1 j) + if j = 1 then vn y else 0) + if j = 0 then vn z else 0) (fun b => Rat.mul_comm _ _), mean_add, mean_const, mean_add, mean_const]
    rw [mean_congr (all_mono (fun c hc => hc.1) ka), h5, mean_addD P ([(0, 0), (0, 0)], 1, false) 0 x (by show 0 < 2; decide) nfa j]
    rw [show wl ([(0, 0), (0, 0)], 1, false).1 ([(0, 0), (0, 0)], 1, false).2.1 j = 0 from wl_zero 1 j]
    exact Rat.mul_comm _ _
  constructor
  · have := gen 0 (by decide)
    simp only [if_true, if_false] at this
    rw [this]
    grind
  · have := gen 1 (by decide)
    rw [this]
    simp only [if_true]
    grind
end Go.Proofs.YtdmdmdoeahhkiaaGreatDoor
