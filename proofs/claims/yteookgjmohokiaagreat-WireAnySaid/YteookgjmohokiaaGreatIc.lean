import Derived.Test.YteookgjmohokiaaGreatIb
namespace Go.Proofs.YteookgjmohokiaaGreat
open Go.Eng Go.Vx
set_option linter.unusedSimpArgs false
set_option linter.unusedVariables false
set_option maxRecDepth 100000
abbrev SR := Nat × Nat × Bool
def nuO (k a b : Nat) (s : SR) : Nat := numOf (rgB k a b s)
def nuA (k a b n : Nat) (l : List SR) : List Nat := l.map (nuO k a b) ++ List.replicate (n - l.length) 0
theorem nuO_lt (k a b : Nat) (s : SR) : nuO k a b s < 2 ^ wd k a b := by
  have := numOf_lt (rgB k a b s)
  rw [rgB_len] at this
  exact this
theorem nuA_len (k a b : Nat) {n : Nat} {l : List SR} (h : l.length ≤ n) : (nuA k a b n l).length = n := by
  unfold nuA
  rw [List.length_append, List.length_map, List.length_replicate]
  omega
theorem nuA_lt (k a b n : Nat) (l : List SR) : ∀ x ∈ nuA k a b n l, x < 2 ^ wd k a b := by
  intro x hx
  unfold nuA at hx
  rcases List.mem_append.1 hx with hx | hx
  · obtain ⟨s, _, rfl⟩ := List.mem_map.1 hx
    exact nuO_lt k a b s
  · rw [(List.mem_replicate.1 hx).2]
    exact Nat.pow_pos (by decide)
theorem nuA_set (k a b : Nat) {n : Nat} {l : List SR} {s : SR} (h : l.length < n) : (nuA k a b n l).set l.length (nuO k a b s) = nuA k a b n (l ++ [s]) := by
  unfold nuA
  rw [List.set_append, if_neg (by simp), List.length_map, Nat.sub_self]
  obtain ⟨q, hq⟩ : ∃ q, n - l.length = q + 1 := ⟨n - l.length - 1, by omega⟩
  rw [hq, List.replicate_succ, List.set_cons_zero, List.length_append, List.length_singleton, show n - (l.length + 1) = q by omega]
  simp
theorem nuA_full (k a b : Nat) {n : Nat} {l : List SR} (h : l.length = n) : nuA k a b n l = l.map (nuO k a b) := by
  unfold nuA
  rw [h, Nat.sub_self, List.replicate_zero, List.append_nil]
def crX (L : List Bool) (k a b : Nat) : Nat → Nat → Option (List SR) × Nat × Int
  | 0, p => (some [], p, 0)
  | n + 1, p => match rrX L k a b p with
    | (some s, q, _) => ((crX L k a b n q).1.map (s :: ·), (crX L k a b n q).2)
    | (none, q, e) => (none, q, e)
theorem rrX_le {L : List Bool} {k a b p : Nat} (h : p ≤ L.length) : (rrX L k a b p).2.1 ≤ L.length := by
  unfold rrX
  split
  · split <;> assumption
  · exact h
theorem rrX_err {L : List Bool} {k a b p : Nat} : ((rrX L k a b p).1 = none → (rrX L k a b p).2.2 ≠ 0) ∧ (∀ s, (rrX L k a b p).1 = some s → (rrX L k a b p).2.2 = 0 ∧ wellN k a b s) := by
  unfold rrX
  split
  · split
    · rename_i h
      refine ⟨fun h => (by cases h), fun s hs => ?_⟩
      cases hs
      exact ⟨rfl, h⟩
    · exact ⟨fun _ => (show (4 : Int) ≠ 0 by decide), fun s hs => (by cases hs)⟩
  · exact ⟨fun _ => (show (5 : Int) ≠ 0 by decide), fun s hs => (by cases hs)⟩
theorem crX_succ {L : List Bool} {k a b n p : Nat} : crX L k a b (n + 1) p = match rrX L k a b p with
    | (some s, q, _) => ((crX L k a b n q).1.map (s :: ·), (crX L k a b n q).2)
    | (none, q, e) => (none, q, e) := (rfl)
theorem crX_zero {L : List Bool} {k a b p : Nat} : crX L k a b 0 p = (some [], p, 0) := (rfl)
def crV (r : Option (List SR) × Nat × Int) : V := match r.1 with
  | some _ => .tup [.ref 1 0 0 0, .lit (.int .i64 0)]
  | none => .tup [.lit (.pointer none), .lit (.int .i64 r.2.2)]
def crS (k a b n : Nat) (B : List Int) (r : Option (List SR) × Nat × Int) : St := match r.1 with
  | some l => [some (rdC B r.2.1), some (caC 2 k a b), some (vcC 3 n (wd k a b)), some (vcR n (wd k a b) (packN (wd k a b) (l.map (nuO k a b))))]
  | none => [some (rdC B r.2.1)]
set_option maxHeartbeats 4000000 in
theorem cRead_fn {k a b n p : Nat} {B : List Int} (h : goodN k a b) (hn : 1 ≤ n ∧ n ≤ 256) (hI : IsB B) (hB : B.length ≤ 1099511627776) (hp : p ≤ 8 * B.length) :
    Fn1 Tryz.prog 69 [.ref 0 0 0 0, pR k a b, .lit (.int .i64 (n : Int))] [some (rdC B p)] (crV (crX (bitsOf B) k a b n p)) (crS k a b n B (crX (bitsOf B) k a b n p)) := by
  have hbl := bitsOf_len B
  have cn := cNew_fn h hn
  have hz : vcR n (wd k a b) 0 = vcR n (wd k a b) (packN (wd k a b) (nuA k a b n [])) := by
    show _ = vcR n (wd k a b) (packN (wd k a b) (List.replicate _ 0))
    rw [packN_rep]
  rw [hz] at cn
  clear hz
  refine fn1N_of pl69 (by kernel_rfl) Tryz.call69 Tryz.func69 rfl (by kernel_rfl) rfl [.tmp 6, .tmp 7] (by kernel_rfl) fun Q hQ => ?_
  refine runW ?_
  refine callW [] [] (cn) ?_
  refine runW ?_
  refine loopW (X := List SR × Nat) (st := fun y => ([(0, .ref 0 0 0 0), (4, .ref 1 0 0 0), (8, .ref 2 0 0 0), (22, .lit (.int .i64 (n : Int))), (23, .lit (.int .i64 (y.1.length : Int)))],
      [some (rdC B y.2), some (.cells [.lit (.int .i64 (k : Int)), .lit (.int .i64 (a : Int)), .lit (.int .i64 (b : Int))]), some (caC 3 k a b), some (vcC 4 n (wd k a b)), some (vcR n (wd k a b) (packN (wd k a b) (nuA k a b n y.1)))]))
    (inv := fun y => y.1.length ≤ n ∧ y.2 ≤ (bitsOf B).length ∧ crX (bitsOf B) k a b n p = ((crX (bitsOf B) k a b (n - y.1.length) y.2).1.map (y.1 ++ ·), (crX (bitsOf B) k a b (n - y.1.length) y.2).2)) (m := fun y => n - y.1.length)
    ([], p) [some 0, some 1, some 2, some 3, some 4] ⟨Nat.zero_le _, by omega, by simp⟩ ?_
  rintro ⟨l, q⟩ ⟨hl, hq, hr⟩
  dsimp only at hl hq hr ⊢
  by_cases hil : l.length < n
  · obtain ⟨c, hc⟩ : ∃ c, n - l.length = c + 1 := ⟨n - l.length - 1, by omega⟩
    rw [hc] at hr
    have rr := rRead_fn (p := q) h hI hB (by omega)
    have hle := rrX_le (L := bitsOf B) (k := k) (a := a) (b := b) hq
    have her := rrX_err (L := bitsOf B) (k := k) (a := a) (b := b) (p := q)
    rw [crX_succ] at hr
    generalize rrX (bitsOf B) k a b q = v at *
    obtain ⟨o, q2, e⟩ := v
    dsimp only at rr hle her
    cases o with
    | none =>
      have he := her.1 rfl
      dsimp only at he hr
      rw [hr] at hQ
      dsimp only [Option.map] at hQ
      unfold crV crS at hQ
      dsimp only at hQ
      refine runW ?_
      refine callW [some 0] [] (rr) ?_
      refine runW ?_
      exact endW [some 0] hQ
    | some s =>
      obtain ⟨he, hws⟩ := her.2 s rfl
      dsimp only at he hr
      subst he
      have st := cSet_fn (n := n) (i := l.length) (N := nuA k a b n l) (s := s) h hws hn.2 hil (nuA_len k a b hl) (nuA_lt k a b n l)
      rw [show numOf (rgB k a b s) = nuO k a b s from rfl, nuA_set k a b hil] at st
      refine runW ?_
      refine callW [some 0] [] (rr) ?_
      refine runW ?_
      refine callW [some 2, some 3, some 4] [] (st) ?_
      refine runW ?_
      refine NextV_of (l ++ [s], q2) [some 0, some 1, some 2, some 3, some 4] rfl ?_ ?_ ⟨by simp; omega, hle, ?_⟩ (by simp; omega)
      · (simp (disch := (first | omega | (simp only [lnA, List.length_map, List.length_range, true_and, and_true]; (try omega); done) | fail)) only [go_sem, Int.reduceEq, Int.reduceToNat, Nat.reduceAdd, Nat.reduceMul, Nat.reduceEqDiff, ↓reduceIte, true_and, and_true, and_self, List.drop_zero, List.take_length, Nat.le_refl, V.lit.injEq, Value.int.injEq, Value.bool.injEq]; try (first | omega | (simp; done) | (simp; omega)))
      · dsimp only
        rw [List.length_append, List.length_singleton]
        (simp (disch := (first | omega | (simp only [lnA, List.length_map, List.length_range, true_and, and_true]; (try omega); done) | fail)) only [go_sem, Int.reduceEq, Int.reduceToNat, Nat.reduceAdd, Nat.reduceMul, Nat.reduceEqDiff, ↓reduceIte, true_and, and_true, and_self, List.drop_zero, List.take_length, Nat.le_refl, V.lit.injEq, Value.int.injEq, Value.bool.injEq]; try (first | omega | (simp; done) | (simp; omega)))
      · dsimp only
        rw [hr, List.length_append, List.length_singleton, show n - (l.length + 1) = c by omega]
        generalize crX (bitsOf B) k a b c q2 = w
        obtain ⟨o, w2⟩ := w
        cases o with
        | none => rfl
        | some x => simp
  · have hln : l.length = n := by omega
    rw [hln, Nat.sub_self] at hr
    rw [crX_zero] at hr
    rw [hr] at hQ
    unfold crV crS at hQ
    dsimp only [Option.map] at hQ
    rw [List.append_nil, ← nuA_full k a b hln] at hQ
    refine runW ?_
    exact endW [some 0, some 2, some 3, some 4] hQ
end Go.Proofs.YteookgjmohokiaaGreat
