import Derived.Test.YteookgjmohokiaaGreatIj
import Derived.Test.YteookgjmohokiaaGreatHe
import Derived.Test.YteookgjmohokiaaGreatOc
namespace Go.Proofs.YteookgjmohokiaaGreat
open Go.Eng Go.Vx
set_option linter.unusedSimpArgs false
set_option linter.unusedVariables false
set_option maxRecDepth 100000
def nuP (k a b : Nat) (l : List SR) : Nat := packN (wd k a b) (l.map (nuO k a b))
def crP (k a b C : Nat) (l : List SR) : PV := .ptr 4 [[.ptr 3 [[.row 1 ((words (nwd C (wd k a b)) (nuP k a b l)).map (ie .u64)), .lit (.int .i64 (C : Int)), .lit (.int .i64 (wd k a b : Int))]] 0 0, .lit (.int .i64 (k : Int)), .lit (.int .i64 (a : Int)), .lit (.int .i64 (b : Int))]] 0 0
def crF (k a b n : Nat) (r : Option (List SR) × Nat × Int) : V := match r.1 with
  | some l => .tup [caP k a b n (wd k a b) (nuP k a b l), .lit (.int .i64 0)]
  | none => .tup [.lit (.pointer none), .lit (.int .i64 r.2.2)]
theorem cReadF_fn {k a b n p : Nat} {B : List Int} (h : goodN k a b) (hn : 1 ≤ n ∧ n ≤ 256) (hI : IsB B) (hB : B.length ≤ 1099511627776) (hp : p ≤ 8 * B.length) :
    Fn1 Tryz.prog 69 [.ref 0 0 0 0, pR k a b, .lit (.int .i64 (n : Int))] [some (rdC B p)] (crF k a b n (crX (bitsOf B) k a b n p)) [some (rdC B (crX (bitsOf B) k a b n p).2.1)] := by
  have cr := cRead_fn h hn hI hB hp
  generalize crX (bitsOf B) k a b n p = v at *
  obtain ⟨o, q, e⟩ := v
  cases o with
  | none => exact cr
  | some l =>
    unfold crV crS at cr
    dsimp only at cr
    change Fn1 _ _ _ _ (.tup [caP k a b n (wd k a b) (nuP k a b l), .lit (.int .i64 0)]) [some (rdC B q)]
    have hlw := words_len (nwd n (wd k a b)) (nuP k a b l)
    change Fn1 _ _ _ _ _ [some (rdC B q), some (caC 2 k a b), some (vcC 3 n (wd k a b)), some (vcR n (wd k a b) (nuP k a b l))] at cr
    generalize nuP k a b l = x at *
    exact tellW [some 0] (cr)
def rwP (k a b C : Nat) (r : RW) : List PV := [.lit (.int .u64 (r.1 : Int)), .lit (.int .u64 (r.2.1 : Int)), crP k a b C r.2.2]
def cmC (R C k a b : Nat) (l : List RW) (T : Nat) : Ob := .cells [.lit (.int .i64 (R : Int)), .lit (.int .i64 (C : Int)), .lit (.int .i64 (k : Int)), .lit (.int .i64 (a : Int)), .lit (.int .i64 (b : Int)), .row 3 (l.map (rwP k a b C)), .lit (.int .i64 (T : Int))]
def cmP (R C k a b : Nat) (l : List RW) (T : Nat) : V := .rref 7 [[.lit (.int .i64 (R : Int)), .lit (.int .i64 (C : Int)), .lit (.int .i64 (k : Int)), .lit (.int .i64 (a : Int)), .lit (.int .i64 (b : Int)), .row 3 (l.map (rwP k a b C)), .lit (.int .i64 (T : Int))]] 0 0
attribute [go_sem] cmC cmP
def cmV (r : Option (List RW × Nat) × Nat × Int) : V := match r.1 with
  | some _ => .tup [.ref 1 0 0 0, .lit (.int .i64 0)]
  | none => .tup [.lit (.pointer none), .lit (.int .i64 r.2.2)]
def cmS (R C k a b : Nat) (B : List Int) (r : Option (List RW × Nat) × Nat × Int) : St := match r.1 with
  | some x => [some (rdC B r.2.1), some (cmC R C k a b x.1 x.2)]
  | none => [some (rdC B r.2.1)]
set_option maxHeartbeats 4000000 in
theorem cmRead_fn {R C k a b p : Nat} {B : List Int} (hR : 1 ≤ R ∧ R ≤ 4) (hC : 1 ≤ C ∧ C ≤ 64) (h : goodN k a b) (hI : IsB B) (hB : B.length ≤ 1099511627776) (hp : p ≤ 8 * B.length) :
    Fn1 Tryz.prog 72 [.ref 0 0 0 0, .agg [.lit (.int .i64 (R : Int)), .lit (.int .i64 (C : Int)), .lit (.int .i64 (k : Int)), .lit (.int .i64 (a : Int)), .lit (.int .i64 (b : Int))]] [some (rdC B p)] (cmV (cmR (bitsOf B) R C k a b p)) (cmS R C k a b B (cmR (bitsOf B) R C k a b p)) := by
  have ck := cmCheck_fn (R := (R : Int)) (C := (C : Int)) ⟨by omega, by omega, by omega, by omega⟩ h
  have hbl := bitsOf_len B
  have vv := var_fn hI hB hp
  have hvq : (vX (bitsOf B) p).2.1 ≤ (bitsOf B).length := vXj_le _ _ _ _ (by omega)
  refine fn1N_of pl72 (by kernel_rfl) Tryz.call72 Tryz.func72 rfl (by kernel_rfl) rfl [.tmp 4, .tmp 5] (by kernel_rfl) fun Q hQ => ?_
  unfold cmR at hQ
  generalize vX (bitsOf B) p = v at *
  obtain ⟨T, q0, ev⟩ := v
  dsimp only at vv hvq hQ
  refine runW ?_
  refine callV0 (ck) rfl rfl ?_
  refine runW ?_
  refine callW [some 0] [] (vv) ?_
  by_cases he : ev = 0
  · subst he
    rw [if_pos rfl] at hQ
    by_cases hT : 1099511627776 < T
    · rw [if_pos hT] at hQ
      unfold cmV cmS at hQ
      dsimp only at hQ
      refine runW ?_
      exact endW [some 0] hQ
    · rw [if_neg hT] at hQ
      refine runW ?_
      refine loopW (X := List RW × Nat) (st := fun y => ([(0, .ref 0 0 0 0), (3, .ref 1 0 0 0), (9, .ref 2 0 0 0), (38, .lit (.int .i64 (R : Int))), (39, .lit (.int .i64 (y.1.length : Int)))],
          [some (rdC B y.2), some (.cells [.lit (.int .i64 (R : Int)), .lit (.int .i64 (C : Int)), .lit (.int .i64 (k : Int)), .lit (.int .i64 (a : Int)), .lit (.int .i64 (b : Int))]), some (.cells [.lit (.int .i64 (R : Int)), .lit (.int .i64 (C : Int)), .lit (.int .i64 (k : Int)), .lit (.int .i64 (a : Int)), .lit (.int .i64 (b : Int)), .sl 3 3 0 y.1.length, .lit (.int .i64 (T : Int))]), some (.row 3 (y.1.map (rwP k a b C)))]))
        (inv := fun y => y.1.length ≤ R ∧ y.2 ≤ (bitsOf B).length ∧ rowsX (bitsOf B) k a b C R q0 = ((rowsX (bitsOf B) k a b C (R - y.1.length) y.2).1.map (y.1 ++ ·), (rowsX (bitsOf B) k a b C (R - y.1.length) y.2).2)) (m := fun y => R - y.1.length)
        ([], q0) [some 0, some 1, some 2, none] ⟨Nat.zero_le _, hvq, by simp⟩ ?_
      rintro ⟨l, q⟩ ⟨hl, hq, hr⟩
      dsimp only at hl hq hr ⊢
      by_cases hil : l.length < R
      · obtain ⟨c, hc⟩ : ∃ c, R - l.length = c + 1 := ⟨R - l.length - 1, by omega⟩
        rw [hc, rowsX_succ] at hr
        have hA := numOf_take_lt ((bitsOf B).drop q) 61
        have hB2 := numOf_take_lt ((bitsOf B).drop (q + 61)) 61
        have rw1 := rowX_le (k := k) (a := a) (b := b) (C := C) hq
        have rs := fun r => rowX_some (L := bitsOf B) (k := k) (a := a) (b := b) (C := C) (p := q) (r := r)
        unfold rowX at hr rw1 rs
        have r1 := brnum_fn (B := B) (p := q) (w := 61) hI hB (by decide)
        have r2 := brnum_fn (B := B) (p := q + 61) (w := 61) hI hB (by decide)
        rw [show ((61 : Nat) : Int) = 61 from rfl] at r1 r2
        generalize hga : numOf (((bitsOf B).drop q).take 61) = A at *
        generalize hgb : numOf (((bitsOf B).drop (q + 61)).take 61) = D at *
        clear hga hgb
        refine runW ?_
        refine loopW (X := Nat × Nat × Nat × Nat) (st := fun x => ([(0, .ref 0 0 0 0), (3, .ref 1 0 0 0), (9, .ref 2 0 0 0), (10, .ref 4 0 0 0), (38, .lit (.int .i64 (R : Int))), (39, .lit (.int .i64 (l.length : Int))), (43, .agg [.ref 4 0 0 0, .ref 4 0 0 1]), (44, .lit (.int .i64 (x.1 : Int)))],
            [some (rdC B x.2.2.2), some (.cells [.lit (.int .i64 (R : Int)), .lit (.int .i64 (C : Int)), .lit (.int .i64 (k : Int)), .lit (.int .i64 (a : Int)), .lit (.int .i64 (b : Int))]), some (.cells [.lit (.int .i64 (R : Int)), .lit (.int .i64 (C : Int)), .lit (.int .i64 (k : Int)), .lit (.int .i64 (a : Int)), .lit (.int .i64 (b : Int)), .sl 3 3 0 l.length, .lit (.int .i64 (T : Int))]), some (.row 3 (l.map (rwP k a b C))), some (.cells [.lit (.int .u64 (x.2.1 : Int)), .lit (.int .u64 (x.2.2.1 : Int))])]))
          (inv := fun x => x = (0, 0, 0, q) ∨ (q + 61 ≤ (bitsOf B).length ∧ x = (1, A, 0, q + 61)) ∨ (q + 122 ≤ (bitsOf B).length ∧ x = (2, A, D, q + 122))) (m := fun x => 2 - x.1)
          (0, 0, 0, q) [some 0, some 1, some 2, some 3, some 4] (.inl rfl) ?_
        rintro x (rfl | ⟨h61, rfl⟩ | ⟨h122, rfl⟩)
        · by_cases h61 : q + 61 ≤ (bitsOf B).length
          · have r1 := r1 (by omega)
            refine runW ?_
            refine callW [some 0] [] (r1) ?_
            refine runW ?_
            refine nextW (1, A, 0, q + 61) [some 0, some 1, some 2, some 3, some 4] (.inr (.inl ⟨h61, rfl⟩)) (show 2 - 1 < 2 - 0 by decide)
          · have rn := rnumE_fn (B := B) (p := q) (w := 61) hI hB (by decide) (by omega) (by omega)
            rw [show ((61 : Nat) : Int) = 61 from rfl] at rn
            rw [if_neg h61] at hr
            rw [hr] at hQ
            unfold cmV cmS at hQ
            dsimp only [Option.map] at hQ
            refine runW ?_
            refine callW [some 0] [] (rn) ?_
            refine runW ?_
            exact endW [some 0] hQ
        · by_cases h122 : q + 122 ≤ (bitsOf B).length
          · have r2 := r2 (by omega)
            refine runW ?_
            refine callW [some 0] [] (r2) ?_
            refine runW ?_
            refine nextW (2, A, D, q + 122) [some 0, some 1, some 2, some 3, some 4] (.inr (.inr ⟨h122, rfl⟩)) (show 2 - 2 < 2 - 1 by decide)
          · have rn := rnumE_fn (B := B) (p := q + 61) (w := 61) hI hB (by decide) (by omega) (by omega)
            rw [show ((61 : Nat) : Int) = 61 from rfl] at rn
            rw [if_pos h61, if_neg h122] at hr
            rw [hr] at hQ
            unfold cmV cmS at hQ
            dsimp only [Option.map] at hQ
            refine runW ?_
            refine callW [some 0] [] (rn) ?_
            refine runW ?_
            exact endW [some 0] hQ
        · rw [if_pos (by omega), if_pos h122] at hr rw1 rs
          have hc := hCheck_fn (A := A) (B := D)
          by_cases hok : A < 2305843009213693951 ∧ D < 2305843009213693951
          · rw [if_pos hok] at hr hc rw1 rs
            have cr := cReadF_fn (n := C) (p := q + 122) h ⟨hC.1, by omega⟩ hI hB (by omega)
            have hle := crX_le (L := bitsOf B) (k := k) (a := a) (b := b) (n := C) h122
            have hno := crX_none (L := bitsOf B) (k := k) (a := a) (b := b) (n := C) (p := q + 122)
            generalize crX (bitsOf B) k a b C (q + 122) = w at *
            obtain ⟨o, q2, e⟩ := w
            cases o with
            | none =>
              have hno := hno rfl
              unfold crF at cr
              dsimp only [Option.map] at cr hr hno
              rw [hr] at hQ
              unfold cmV cmS at hQ
              dsimp only [Option.map] at hQ
              refine runW ?_
              refine callV0 (hc) rfl rfl ?_
              refine runW ?_
              refine callW [some 0] [] (cr) ?_
              refine runW ?_
              exact endW [some 0] hQ
            | some m =>
              have rs := rs _ rfl
              unfold crF at cr
              dsimp only [Option.map] at cr hr rs hle
              refine runW ?_
              refine callV0 (hc) rfl rfl ?_
              refine runW ?_
              refine callW [some 0] [] (cr) ?_
              refine runW ?_
              refine NextV_of (l ++ [(A, D, m)], q2) [some 0, some 1, some 2, some 6] rfl ?_ ?_ ⟨by rw [List.length_append]; exact hil, hle, ?_⟩ (by dsimp only; rw [List.length_append, List.length_singleton]; omega)
              · dsimp only
                rw [List.map_append, List.length_append, List.length_singleton]
                simp only [List.map_cons, List.map_nil, rwP, crP]
                (simp (disch := (first | omega | (simp only [lnA, List.length_map, List.length_range, true_and, and_true]; (try omega); done) | fail)) only [go_sem, Int.reduceEq, Int.reduceToNat, Nat.reduceAdd, Nat.reduceMul, Nat.reduceEqDiff, ↓reduceIte, true_and, and_true, and_self, List.drop_zero, List.take_length, Nat.le_refl, V.lit.injEq, Value.int.injEq, Value.bool.injEq]; try (first | omega | (simp; done) | (simp; omega)))
              · dsimp only
                rw [List.length_append, List.length_singleton]
                (simp (disch := (first | omega | (simp only [lnA, List.length_map, List.length_range, true_and, and_true]; (try omega); done) | fail)) only [go_sem, Int.reduceEq, Int.reduceToNat, Nat.reduceAdd, Nat.reduceMul, Nat.reduceEqDiff, ↓reduceIte, true_and, and_true, and_self, List.drop_zero, List.take_length, Nat.le_refl, V.lit.injEq, Value.int.injEq, Value.bool.injEq]; try (first | omega | (simp; done) | (simp; omega)))
              · dsimp only
                rw [hr, List.length_append, List.length_singleton, show R - (l.length + 1) = c by omega]
                generalize rowsX (bitsOf B) k a b C c q2 = w
                obtain ⟨o, w2⟩ := w
                cases o with
                | none => rfl
                | some x => simp
          · rw [if_neg hok] at hr hc
            dsimp only at hr
            rw [hr] at hQ
            unfold cmV cmS at hQ
            dsimp only [Option.map] at hQ
            refine runW ?_
            refine callV0 (hc) rfl rfl ?_
            refine runW ?_
            exact endW [some 0] hQ
      · have hln : l.length = R := by omega
        rw [hln, Nat.sub_self, rowsX_zero] at hr
        rw [hr] at hQ
        unfold cmV cmS at hQ
        dsimp only [Option.map] at hQ
        rw [List.append_nil] at hQ
        refine runW ?_
        exact endW [some 0, some 2] hQ
  · rw [if_neg he] at hQ
    unfold cmV cmS at hQ
    dsimp only at hQ
    refine runW ?_
    exact endW [some 0] hQ
end Go.Proofs.YteookgjmohokiaaGreat
