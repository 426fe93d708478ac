import Derived.Test.YtpkfddfkacijoaaGreatDoorAa
import Derived.Test.YtpkfddfkacijoaaGreatDoorTi
import Derived.Test.YtpkfddfkacijoaaGreatDoorAb
import Derived.Test.YtpkfddfkacijoaaGreatDoorQa
import Derived.Test.YtpkfddfkacijoaaGreatDoorWj
import Derived.Test.YtpkfddfkacijoaaGreatDoorE6
import Derived.Test.YtpkfddfkacijoaaGreatDoorE7
import Derived.Test.YtpkfddfkacijoaaGreatDoorE8
namespace Go.Proofs.YtpkfddfkacijoaaGreatDoor
set_option linter.unusedSimpArgs false
set_option linter.unusedVariables false
def updL (L : List Bool) (N key : Nat) : List (Nat × Nat) → Nat → Option (List (Nat × Nat) × Nat)
  | [], p => some ([], p)
  | x :: xs, p => if (belowX L N p).2.1 = 0 then (updL L N key xs (belowX L N p).2.2.1).map fun r => (stp key (belowX L N p).1 x :: r.1, r.2) else none
theorem belowX_ok {L : List Bool} {n p : Nat} (hn : 0 < n) (h : (belowX L n p).2.1 = 0) : (belowX L n p).2.2.2 = false ∧ (belowX L n p).1 < n := by
  rcases belowX_cases (L := L) (p := p) hn with e | ⟨x, q, hx, e⟩
  · rw [e] at h; exact absurd h (show ¬ (8 : Int) = 0 by decide)
  · rw [e]; exact ⟨rfl, hx⟩
theorem belowX_err {L : List Bool} {n p : Nat} (hn : 0 < n) (h : (belowX L n p).2.1 ≠ 0) : belowX L n p = (0, 8, L.length, true) := by
  rcases belowX_cases (L := L) (p := p) hn with e | ⟨x, q, hx, e⟩
  · exact e
  · rw [e] at h; exact absurd rfl h
theorem updL_ok {L : List Bool} {N key : Nat} : ∀ {X : List (Nat × Nat)} {p : Nat} {X' : List (Nat × Nat)} {q : Nat}, p ≤ L.length → updL L N key X p = some (X', q) → p ≤ q ∧ q ≤ L.length ∧ X'.length = X.length := by
  intro X
  induction X with
  | nil =>
    intro p X' q hp h
    unfold updL at h
    cases h
    exact ⟨Nat.le_refl _, hp, rfl⟩
  | cons x xs ih =>
    intro p X' q hp h
    unfold updL at h
    split at h
    · rename_i h0
      obtain ⟨e1, e2⟩ := belowX_end (L := L) (n := N) hp
      cases hr : updL L N key xs (belowX L N p).2.2.1 with
      | none => rw [hr] at h; cases h
      | some r =>
        obtain ⟨r1, r2⟩ := r
        rw [hr] at h
        cases h
        obtain ⟨a, b, c⟩ := ih e2 hr
        exact ⟨by omega, b, by simp [c]⟩
    · cases h
theorem updL_all {L : List Bool} {N key : Nat} (hN : 0 < N) {A B : Nat × Nat → Prop} (hAB : ∀ x a, a < N → A x → B (stp key a x)) : ∀ {X : List (Nat × Nat)} {p : Nat} {X' : List (Nat × Nat)} {q : Nat}, (∀ x ∈ X, A x) → updL L N key X p = some (X', q) → ∀ x ∈ X', B x := by
  intro X
  induction X with
  | nil =>
    intro p X' q _ h
    unfold updL at h
    cases h
    exact fun x hx => by cases hx
  | cons x xs ih =>
    intro p X' q hX h
    unfold updL at h
    split at h
    · rename_i h0
      cases hr : updL L N key xs (belowX L N p).2.2.1 with
      | none => rw [hr] at h; cases h
      | some r =>
        obtain ⟨r1, r2⟩ := r
        rw [hr] at h
        cases h
        intro y hy
        rcases List.mem_cons.1 hy with e | e
        · rw [e]; exact hAB x _ (belowX_ok hN h0).2 (hX x (by simp))
        · exact ih (fun z hz => hX z (by simp [hz])) hr y e
    · cases h
def alone (key N : Nat) (x : Nat × Nat) : Prop := x.1 = key ∧ 1 ≤ x.2 ∧ x.2 ≤ N
theorem updL_le {L : List Bool} {N key B : Nat} {X X' : List (Nat × Nat)} {p q : Nat} (hk : key < B) (hX : ∀ x ∈ X, x.1 < B ∧ x.2 ≤ N) (h : updL L (N + 1) key X p = some (X', q)) : ∀ x ∈ X', x.1 < B ∧ x.2 ≤ N + 1 := by
  refine updL_all (Nat.succ_pos N) (A := fun x => x.1 < B ∧ x.2 ≤ N) (fun x a ha hx => ?_) hX h
  unfold stp
  split
  · exact ⟨hk, by show 1 ≤ N + 1; omega⟩
  · split
    · exact ⟨hx.1, by show x.2 + 1 ≤ N + 1; omega⟩
    · exact ⟨hx.1, by omega⟩
end Go.Proofs.YtpkfddfkacijoaaGreatDoor

namespace Go.Proofs.YtpkfddfkacijoaaGreatDoor
set_option linter.unusedSimpArgs false
set_option linter.unusedVariables false
def ownA (K : Int) (P : Nat) : Prop := K = 2 ∧ P = 0 ∨ K = 1 ∧ 1 ≤ P ∧ P ≤ 4
def convOk (K : Int) (P : Nat) : Bool := (List.range 16).all fun r => r == 0 || decide (2 * gN K P r ≤ gN K P (r + 1) + gN K P (r - 1) ∧ gN K P (r - 1) ≤ gN K P r)
def gE (K : Int) (P N : Nat) : Rat := if K = 2 then (((gN K P N : Nat) : Int) : Rat) / ((268435456 : Int) : Rat) else (((gN K P N : Nat) : Int) : Rat)
end Go.Proofs.YtpkfddfkacijoaaGreatDoor

namespace Go.Proofs.YtpkfddfkacijoaaGreatDoor
open Go.Eng Go.Vx
set_option linter.unusedSimpArgs false
set_option linter.unusedVariables false
set_option maxRecDepth 100000
theorem rwhole_fn {x : Rat} (hx : RS 1000000 x) : Fn1 Tryz.prog 84 [RV x] [] (.lit (.bool (decide (x.den = 1)))) [] := by
  have hd := x.den_nz
  have hl : (wg (x.den - 1)).length ≤ 1000000 := Nat.le_trans (wg_mono (by omega)) hx.2
  have z := zero_fn (n := x.den - 1) (by omega)
  rw [show decide (x.den - 1 = 0) = decide (x.den = 1) by congr 1; exact propext ⟨fun h => by omega, fun h => by omega⟩] at z
  refine fn1N_of pl84 (by kernel_rfl) Tryz.call84 Tryz.func84 rfl (by kernel_rfl) rfl [.tmp 2] (by kernel_rfl) fun Q hQ => ?_
  repeat (first | (refine callV0 (z) rfl rfl ?_) | (refine runW ?_))
  exact endW [] hQ
theorem rtxt_fn {x : Rat} (hx : RS 5000 x) : Fn1 Tryz.prog 41 [RV x] [] (.lit (.string (bs (qS x)))) [] := by
  obtain ⟨hx1, hx2⟩ := hx
  have w := rwhole_fn (x := x) ⟨Nat.le_trans hx1 (by decide), Nat.le_trans hx2 (by decide)⟩
  have t := wtext_fn (x := x.num) (by omega)
  have dn := rden_fn (x := x) (by omega)
  have td := ntext_fn (n := x.den) (by omega)
  have s1 := decS_wg hx1
  have s2 := decS_wg hx2
  have s3 : (zS x.num).length ≤ (decS x.num.natAbs).length + 1 := by unfold zS; split <;> simp
  unfold qS
  by_cases h : x.den = 1
  · rw [if_pos h, List.append_nil]
    rw [decide_eq_true h] at w
    generalize zS x.num = sn at *
    refine fn1N_of pl41 (by kernel_rfl) Tryz.call41 Tryz.func41 rfl (by kernel_rfl) rfl [.tmp 2] (by kernel_rfl) fun Q hQ => ?_
    repeat (first | (refine callV0 (w) rfl rfl ?_) | (refine callV0 (t) rfl rfl ?_) | (refine runW ?_))
    exact endW [] hQ
  · rw [if_neg h]
    rw [decide_eq_false h] at w
    generalize zS x.num = sn at *
    refine fn1N_of pl41 (by kernel_rfl) Tryz.call41 Tryz.func41 rfl (by kernel_rfl) rfl [.tmp 2] (by kernel_rfl) fun Q hQ => ?_
    repeat (first | (refine callV0 (w) rfl rfl ?_) | (refine callV0 (t) rfl rfl ?_) | (refine callV0 (dn) rfl rfl ?_) | (refine callV0 (td) rfl rfl ?_) | (simp (maxSteps := 1000000) (disch := (first | omega | (simp only [lnA, List.length_map, List.length_range, true_and, and_true]; (try omega); done) | fail)) only [go_sem, List.append_assoc, List.cons_append, List.nil_append, Int.reduceEq, Int.reduceToNat, Nat.reduceAdd, Nat.reduceMul, Nat.reduceEqDiff, ↓reduceIte]))
    exact endW [] hQ
end Go.Proofs.YtpkfddfkacijoaaGreatDoor

namespace Go.Proofs.YtpkfddfkacijoaaGreatDoor
open Go.Eng Go.Vx
set_option linter.unusedSimpArgs false
set_option linter.unusedVariables false
set_option maxRecDepth 100000
theorem isB_pk3 (L : List Bool) : IsB (pk L) := by
  intro x hx
  unfold pk pkTo at hx
  obtain ⟨k, _, rfl⟩ := List.mem_map.1 hx
  have := byteV_lt L k
  omega
theorem bytesR_fn {L : List Bool} (hm : L.length < 1099511627776) : Fn1 Tryz.prog 11 [.ref 0 0 0 0] [some (wrC 1 L), some (wrR L)] (.row 1 ((pk L).map (ie .u8))) [some (wrC 1 L), some (wrR L)] := by
  refine fn1N_of pl11 (by kernel_rfl) Tryz.call11 Tryz.func11 rfl (by kernel_rfl) rfl [.tmp 2] (by kernel_rfl) fun Q hQ => ?_
  have hpl := pk_len L
  have e : List.take 0 (List.replicate (pk L).length (0 : Int)) ++ List.take (pk L).length (pk L) ++ List.drop (List.take (pk L).length (pk L)).length (List.replicate (pk L).length 0) = pk L := by simp
  simp (maxSteps := 1000000) (disch := (first | omega | (simp only [lnA, List.length_map, List.length_range, true_and, and_true]; (try omega); done) | fail)) only [go_sem, Int.reduceEq, Int.reduceToNat, Nat.reduceAdd, Nat.reduceMul, Nat.reduceEqDiff, ↓reduceIte]
  rw [e]
  exact endW [some 0, some 1] hQ
def three (k x : Nat) : List Bool := numBits x (k + 1) ++ deltaB (x ||| 1) ++ varB x
end Go.Proofs.YtpkfddfkacijoaaGreatDoor
