import Derived.Test.YtpkfddfkacijoaaGreatDoorOi
import Derived.Test.YtpkfddfkacijoaaGreatDoorSn
import Derived.Test.YtpkfddfkacijoaaGreatDoorJb
namespace Go.Proofs.YtpkfddfkacijoaaGreatDoor
open Go.Eng Go.Vx
set_option linter.unusedSimpArgs false
set_option linter.unusedVariables false
set_option maxRecDepth 100000
def wrP (L : List Bool) : V := .rref 2 [[.row 1 ((pk L).map (ie .u8)), .lit (.int .i64 (L.length : Int))]] 0 0
attribute [go_sem] wrP
theorem wlenP_fn {L : List Bool} : Fn1 Tryz.prog 14 [wrP L] [] (.lit (.int .i64 (L.length : Int))) [] := by
 refine fn1N_of pl14 (by kernel_rfl) Tryz.call14 Tryz.func14 rfl (by kernel_rfl) rfl [.tmp 2] (by kernel_rfl) fun Q hQ => ?_
 simp (maxSteps := 1000000) (disch := (first | omega | (simp only [lnA, List.length_map, List.length_range, true_and, and_true]; (try omega); done) | fail)) only [go_sem, Int.reduceEq, Int.reduceToNat, Nat.reduceAdd, Nat.reduceMul, Nat.reduceEqDiff, ↓reduceIte]
 exact endW [] hQ
theorem bytesF_fn {L : List Bool} (hm : L.length < 1099511627776) : Fn1 Tryz.prog 11 [wrP L] [] (.sl 0 1 0 (pk L).length) [some (wrR L)] := by
 refine fn1N_of pl11 (by kernel_rfl) Tryz.call11 Tryz.func11 rfl (by kernel_rfl) rfl [.tmp 2] (by kernel_rfl) fun Q hQ => ?_
 have hpl := pk_len L
 simp (maxSteps := 1000000) (disch := (first | omega | (simp only [lnA, List.length_map, List.length_range, true_and, and_true]; (try omega); done) | fail)) only [go_sem, Int.reduceEq, Int.reduceToNat, Nat.reduceAdd, Nat.reduceMul, Nat.reduceEqDiff, ↓reduceIte]
 exact endW [some 0] hQ
theorem ownI_fn {a b c : Int} : Fn1 Tryz.prog 27 [.agg [.lit (.int .i64 a), .lit (.int .i64 b), .lit (.int .i64 c)]] [] (.agg [.lit (.int .i64 a), .lit (.int .i64 b), .lit (.int .i64 c)]) [] := by
 refine fn1N_of pl27 (by kernel_rfl) Tryz.call27 Tryz.func27 rfl (by kernel_rfl) rfl [.cell 2 73] (by kernel_rfl) fun Q hQ => ?_
 simp (maxSteps := 1000000) (disch := (first | omega | (simp only [lnA, List.length_map, List.length_range, true_and, and_true]; (try omega); done) | fail)) only [go_sem, Int.reduceEq, Int.reduceToNat, Nat.reduceAdd, Nat.reduceMul, Nat.reduceEqDiff, ↓reduceIte]
 exact endW [] hQ
theorem snewI_fn {a b c : Int} (h : goodS a b c) : ∃ s : Ob, Fn1 Tryz.prog 34 [.agg [.lit (.int .i64 a), .lit (.int .i64 b), .lit (.int .i64 c)], .lit (.int .i64 3)] [] (.tup [.ref 0 0 0 0, .lit (.int .i64 0)]) [some s] := by
 obtain ⟨M, rfl⟩ := Int.eq_ofNat_of_zero_le (show 0 ≤ a by have := h.1; omega)
 obtain ⟨D, rfl⟩ := Int.eq_ofNat_of_zero_le (show 0 ≤ b by have := h.2.1; omega)
 obtain ⟨S, rfl⟩ := Int.eq_ofNat_of_zero_le (show 0 ≤ c by have := h.2.2; omega)
 exact ⟨_, snew_fn (M := M) (D := D) (S := S) (n := 3) h (by decide)⟩
@[go_sem] theorem pk_nil : pk [] = [] := rfl
def coS (i : Nat) : List Bool := (List.range i).map fun j => decide (j % 3 = 1)
theorem coS_len (i : Nat) : (coS i).length = i := by simp [coS]
theorem coS_succ (i : Nat) : coS (i + 1) = coS i ++ [decide (i % 3 = 1)] := by simp [coS, List.range_succ]
set_option maxHeartbeats 16000000 in
theorem sacWrites_fn {a b c : Int} {l : List (Int × Int)} {B0 : List Int} (hl : l.length ≤ 9223372036854775807) (hI0 : IsB B0) (hB0 : B0.length ≤ 9223372036854775807) :
  Fn1 Tryz.prog 4 [.agg [.lit (.int .i64 a), .lit (.int .i64 b), .lit (.int .i64 c)], .row 2 (l.map aV), .row 1 (B0.map (ie .u8))] [] (.lit (.bool true)) [] := by
 obtain ⟨M, D, S, hw, hM4, hS3, hsm⟩ := small19_fn (a := a) (b := b) (c := c)
 have hpw := hw.pw
 obtain ⟨n, hn, hn1, hn4⟩ : ∃ n : Nat, 1 + (l.length : Int) % 4 = (n : Int) ∧ 1 ≤ n ∧ n ≤ 4 := ⟨1 + l.length % 4, by omega, by omega, by omega⟩
 have hp := plays19_fn (l := l) (L := coS 60) hw (n := n) ⟨hn1, by omega⟩ hl (by rw [coS_len]; decide)
 have hIt : IsB (B0.take 30) := fun x hx => hI0 x (List.mem_of_mem_take hx)
 have htl : (B0.take 30).length ≤ 30 := by simp; omega
 have hgd := hw.good
 refine fn1N_of pl4 (by kernel_rfl) Tryz.call4 Tryz.func4 rfl (by kernel_rfl) rfl [.tmp 6] (by kernel_rfl) fun Q hQ => ?_
 simp (maxSteps := 1000000) (disch := (first | omega | (simp only [lnA, List.length_map, List.length_range, true_and, and_true]; (try omega); done) | fail)) only [go_sem, Int.reduceEq, Int.reduceToNat, Nat.reduceAdd, Nat.reduceMul, Nat.reduceEqDiff, ↓reduceIte]
 refine callV0 (awake19_fn) rfl rfl ?_
 simp (maxSteps := 1000000) (disch := (first | omega | (simp only [lnA, List.length_map, List.length_range, true_and, and_true]; (try omega); done) | fail)) only [go_sem, Int.reduceEq, Int.reduceToNat, Nat.reduceAdd, Nat.reduceMul, Nat.reduceEqDiff, ↓reduceIte]
 refine callV0 (hsm) rfl rfl ?_
 simp (maxSteps := 1000000) (disch := (first | omega | (simp only [lnA, List.length_map, List.length_range, true_and, and_true]; (try omega); done) | fail)) only [go_sem, Int.reduceEq, Int.reduceToNat, Nat.reduceAdd, Nat.reduceMul, Nat.reduceEqDiff, ↓reduceIte]
 refine LoopV_of (X := Nat) (st := fun i => ([(1, .row 2 (l.map aV)), (2, .row 1 (B0.map (ie .u8))), (3, .ref 0 0 0 0), (7, .ref 1 0 0 0), (8, .sl 2 1 0 i), (29, .lit (.int .i64 (i : Int)))],
   [some (.cells [.lit (.int .i64 a), .lit (.int .i64 b), .lit (.int .i64 c)]), some (.cells [.lit (.int .i64 (M : Int)), .lit (.int .i64 (D : Int)), .lit (.int .i64 (S : Int))]), some (.row 1 ((coS i).map be))]))
  (inv := fun i => i ≤ 60) (m := fun i => 60 - i) 0 [some 0, some 1, none] rfl (by simp only [show (coS 0).map be = [] from rfl]; (simp (disch := (first | omega | (simp only [lnA, List.length_map, List.length_range, true_and, and_true]; (try omega); done) | fail)) only [go_sem, Int.reduceEq, Int.reduceToNat, Nat.reduceAdd, Nat.reduceMul, Nat.reduceEqDiff, ↓reduceIte, true_and, and_true, and_self, List.drop_zero, List.take_length, Nat.le_refl, V.lit.injEq, Value.int.injEq, Value.bool.injEq]; try (first | omega | (simp; done) | (simp; omega)))) (by simp (disch := (first | omega | (simp only [lnA, List.length_map, List.length_range, true_and, and_true]; (try omega); done) | fail)) only [go_sem, Int.reduceEq, Int.reduceToNat, Nat.reduceAdd, Nat.reduceMul, Nat.reduceEqDiff, ↓reduceIte, true_and, and_true, and_self, List.drop_zero, List.take_length, Nat.le_refl, V.lit.injEq, Value.int.injEq, Value.bool.injEq]; try (first | omega | (simp; done) | (simp; omega))) (Nat.zero_le _) ?_
 intro i hi
 have hcl := coS_len i
 by_cases hil : i < 60
 ·
  have hcs := coS_succ i
  have hd2 : decide ((i : Int) % 3 = 1) = decide (i % 3 = 1) := by rw [decide_eq_decide]; omega
  simp (maxSteps := 1000000) (disch := (first | omega | (simp only [lnA, List.length_map, List.length_range, true_and, and_true]; (try omega); done) | fail)) only [go_sem, Int.reduceEq, Int.reduceToNat, Nat.reduceAdd, Nat.reduceMul, Nat.reduceEqDiff, ↓reduceIte]
  refine NextV_of (i + 1) [some 0, some 1, some 4] rfl (by dsimp only; rw [hcs, ← hd2]; (simp (disch := (first | omega | (simp only [lnA, List.length_map, List.length_range, true_and, and_true]; (try omega); done) | fail)) only [go_sem, Int.reduceEq, Int.reduceToNat, Nat.reduceAdd, Nat.reduceMul, Nat.reduceEqDiff, ↓reduceIte, true_and, and_true, and_self, List.drop_zero, List.take_length, Nat.le_refl, V.lit.injEq, Value.int.injEq, Value.bool.injEq]; try (first | omega | (simp; done) | (simp; omega)))) (by simp (disch := (first | omega | (simp only [lnA, List.length_map, List.length_range, true_and, and_true]; (try omega); done) | fail)) only [go_sem, Int.reduceEq, Int.reduceToNat, Nat.reduceAdd, Nat.reduceMul, Nat.reduceEqDiff, ↓reduceIte, true_and, and_true, and_self, List.drop_zero, List.take_length, Nat.le_refl, V.lit.injEq, Value.int.injEq, Value.bool.injEq]; try (first | omega | (simp; done) | (simp; omega))) hil (by omega)
 obtain rfl : i = 60 := by omega
 simp (maxSteps := 1000000) (disch := (first | omega | (simp only [lnA, List.length_map, List.length_range, true_and, and_true]; (try omega); done) | fail)) only [go_sem, hn, Int.reduceEq, Int.reduceToNat, Nat.reduceAdd, Nat.reduceMul, Nat.reduceEqDiff, ↓reduceIte]
 refine callR [] [2] (hp) ?_
 rintro ⟨st, pt, pt2, dt⟩ ⟨hok, hX, hpt⟩
 dsimp only at hok hX hpt
 have hoS := okS_of hok
 obtain ⟨ho1, ho2, ho3, ho4, ho5⟩ := id hoS
 have hM16 : M ≤ 16 := by omega
 have hD4 : D ≤ 4 := by have := hw.d2; omega
 have hlen := sacB_len M D st
 have hlen2 : st.1.length * (M + D) ≤ 4 * 20 := Nat.mul_le_mul (by omega) (by omega)
 have aw := swrite_fn (M := M) (D := D) (S := S) (st := st) (L := []) hM16 hD4 (by omega) (fun c hc => ⟨(ho2 c hc).1, (ho2 c hc).2.1⟩) ⟨ho3, by omega⟩ (by decide)
 rw [List.nil_append] at aw
 have rw1 := rswrite_fn (M := M) (D := D) (S := S) (st := st) (L := coS 60) (p := pt) (e := 0) hM16 hD4 (by omega) (fun c hc => ⟨(ho2 c hc).1, (ho2 c hc).2.1⟩) ⟨ho3, by omega⟩
 have by1 := bytesF_fn (L := sacB M D st) (by omega)
 have hpl := pk_len (sacB M D st)
 have hplB : (pk (sacB M D st)).length ≤ 300 := by omega
 have rd := read_fn (B := pk (sacB M D st)) (by omega)
 have ow := own19_fn (M := M) (D := D) (S := S)
 have ln := slen_fn (M := M) (D := D) (S := S) (st := st) (by omega)
 rw [hX] at ln
 have ar := sread_fn (M := M) (D := D) (S := S) (n := n) (p := 0) hgd ⟨hn1, by omega⟩ (isB_pk3 (sacB M D st)) (by omega) (Nat.zero_le _)
 have hbk := srR_back (A := []) (R := List.replicate (8 * (((sacB M D st).length + 7) / 8) - (sacB M D st).length) false) (by omega) hoS
 rw [List.nil_append, ← bitsOf_pk, List.length_nil, hX] at hbk
 rw [hbk] at ar
 unfold srV srS at ar
 dsimp only at ar
 have sm := ssame_fn (M := M) (D := D) (S := S) (x := st) (by omega)
 have wl := wlenP_fn (L := sacB M D st)
 have rb := refBytes_fn (L := sacB M D st) (by omega)
 have rs := refSame_fn (A := pk (sacB M D st)) (B := pk (sacB M D st)) (by omega) (by omega)
 rw [decide_eq_true rfl] at rs
 clear hbk hp
 simp (maxSteps := 1000000) (disch := (first | omega | (simp only [lnA, List.length_map, List.length_range, true_and, and_true]; (try omega); done) | fail)) only [go_sem, Int.reduceEq, Int.reduceToNat, Nat.reduceAdd, Nat.reduceMul, Nat.reduceEqDiff, ↓reduceIte]
 refine callW [some 3, some 6, none] [] (aw) ?_
 simp (maxSteps := 1000000) (disch := (first | omega | (simp only [lnA, List.length_map, List.length_range, true_and, and_true]; (try omega); done) | fail)) only [go_sem, Int.reduceEq, Int.reduceToNat, Nat.reduceAdd, Nat.reduceMul, Nat.reduceEqDiff, ↓reduceIte]
 refine callV0 (rw1) rfl rfl ?_
 simp (maxSteps := 1000000) (disch := (first | omega | (simp only [lnA, List.length_map, List.length_range, true_and, and_true]; (try omega); done) | fail)) only [go_sem, Int.reduceEq, Int.reduceToNat, Nat.reduceAdd, Nat.reduceMul, Nat.reduceEqDiff, ↓reduceIte]
 refine callF (by1) ?_
 simp (maxSteps := 1000000) (disch := (first | omega | (simp only [lnA, List.length_map, List.length_range, true_and, and_true]; (try omega); done) | fail)) only [go_sem, Int.reduceEq, Int.reduceToNat, Nat.reduceAdd, Nat.reduceMul, Nat.reduceEqDiff, ↓reduceIte]
 refine callW [] [9] (rd) ?_
 simp (maxSteps := 1000000) (disch := (first | omega | (simp only [lnA, List.length_map, List.length_range, true_and, and_true]; (try omega); done) | fail)) only [go_sem, Int.reduceEq, Int.reduceToNat, Nat.reduceAdd, Nat.reduceMul, Nat.reduceEqDiff, ↓reduceIte]
 refine callV0 (ow) rfl rfl ?_
 simp (maxSteps := 1000000) (disch := (first | omega | (simp only [lnA, List.length_map, List.length_range, true_and, and_true]; (try omega); done) | fail)) only [go_sem, Int.reduceEq, Int.reduceToNat, Nat.reduceAdd, Nat.reduceMul, Nat.reduceEqDiff, ↓reduceIte]
 refine callT (ln) ?_
 simp (maxSteps := 1000000) (disch := (first | omega | (simp only [lnA, List.length_map, List.length_range, true_and, and_true]; (try omega); done) | fail)) only [go_sem, Int.reduceEq, Int.reduceToNat, Nat.reduceAdd, Nat.reduceMul, Nat.reduceEqDiff, ↓reduceIte]
 refine callW [some 10] [] (ar) ?_
 simp (maxSteps := 1000000) (disch := (first | omega | (simp only [lnA, List.length_map, List.length_range, true_and, and_true]; (try omega); done) | fail)) only [go_sem, Int.reduceEq, Int.reduceToNat, Nat.reduceAdd, Nat.reduceMul, Nat.reduceEqDiff, ↓reduceIte]
 refine callT (wl) ?_
 simp (maxSteps := 1000000) (disch := (first | omega | (simp only [lnA, List.length_map, List.length_range, true_and, and_true]; (try omega); done) | fail)) only [go_sem, Int.reduceEq, Int.reduceToNat, Nat.reduceAdd, Nat.reduceMul, Nat.reduceEqDiff, ↓reduceIte]
 refine callF (by1) ?_
 simp (maxSteps := 1000000) (disch := (first | omega | (simp only [lnA, List.length_map, List.length_range, true_and, and_true]; (try omega); done) | fail)) only [go_sem, Int.reduceEq, Int.reduceToNat, Nat.reduceAdd, Nat.reduceMul, Nat.reduceEqDiff, ↓reduceIte]
 refine callV0 (rb) rfl rfl ?_
 simp (maxSteps := 1000000) (disch := (first | omega | (simp only [lnA, List.length_map, List.length_range, true_and, and_true]; (try omega); done) | fail)) only [go_sem, Int.reduceEq, Int.reduceToNat, Nat.reduceAdd, Nat.reduceMul, Nat.reduceEqDiff, ↓reduceIte]
 refine callW [] [12] (rs) ?_
 simp (maxSteps := 1000000) (disch := (first | omega | (simp only [lnA, List.length_map, List.length_range, true_and, and_true]; (try omega); done) | fail)) only [go_sem, Int.reduceEq, Int.reduceToNat, Nat.reduceAdd, Nat.reduceMul, Nat.reduceEqDiff, ↓reduceIte]
 refine callT (sm) ?_
 by_cases hlen : 30 < B0.length
 case' pos =>
  simp (maxSteps := 1000000) (disch := (first | omega | (simp only [lnA, List.length_map, List.length_range, true_and, and_true]; (try omega); done) | fail)) only [go_sem, Int.reduceEq, Int.reduceToNat, Nat.reduceAdd, Nat.reduceMul, Nat.reduceEqDiff, ↓reduceIte]
  obtain ⟨B, hBe⟩ : ∃ B, B = B0.take 30 := ⟨_, rfl⟩
  have hI : IsB B := by rw [hBe]; exact hIt
  have hB : B.length ≤ 30 := by rw [hBe]; exact htl
  rw [← hBe]
 case' neg =>
  simp (maxSteps := 1000000) (disch := (first | omega | (simp only [lnA, List.length_map, List.length_range, true_and, and_true]; (try omega); done) | fail)) only [go_sem, Int.reduceEq, Int.reduceToNat, Nat.reduceAdd, Nat.reduceMul, Nat.reduceEqDiff, ↓reduceIte]
  obtain ⟨B, hBe⟩ : ∃ B, B = B0 := ⟨_, rfl⟩
  have hI : IsB B := by rw [hBe]; exact hI0
  have hB : B.length ≤ 30 := by rw [hBe]; omega
  rw [← hBe]
 all_goals
  clear hBe htl hIt hlen aw by1 rd ar sm hpl hplB rw1 rb rs wl
  have hbl := bitsOf_len B
  have rd := read_fn (B := B) (by omega)
  have ar := sread_fn (M := M) (D := D) (S := S) (n := n) (p := 0) hgd ⟨hn1, by omega⟩ hI (by omega) (Nat.zero_le _)
  have rbs := refBits_fn (B := B) hI (by omega)
  have rr := rsread_fn (M := M) (D := D) (S := S) (n := n) (L := bitsOf B) hgd ⟨hn1, by omega⟩ (by omega)
  refine callW [] [] (rd) ?_
  simp (maxSteps := 1000000) (disch := (first | omega | (simp only [lnA, List.length_map, List.length_range, true_and, and_true]; (try omega); done) | fail)) only [go_sem, Int.reduceEq, Int.reduceToNat, Nat.reduceAdd, Nat.reduceMul, Nat.reduceEqDiff, ↓reduceIte]
  refine callV0 (ow) rfl rfl ?_
  simp (maxSteps := 1000000) (disch := (first | omega | (simp only [lnA, List.length_map, List.length_range, true_and, and_true]; (try omega); done) | fail)) only [go_sem, Int.reduceEq, Int.reduceToNat, Nat.reduceAdd, Nat.reduceMul, Nat.reduceEqDiff, ↓reduceIte]
  refine callT (ln) ?_
  simp (maxSteps := 1000000) (disch := (first | omega | (simp only [lnA, List.length_map, List.length_range, true_and, and_true]; (try omega); done) | fail)) only [go_sem, Int.reduceEq, Int.reduceToNat, Nat.reduceAdd, Nat.reduceMul, Nat.reduceEqDiff, ↓reduceIte]
  cases ho : (srR (bitsOf B) M D S n 0).1 with
  | none =>
   have he := srR_none ho
   have eV : srV (srR (bitsOf B) M D S n 0) = .tup [.lit (.pointer none), .lit (.int .i64 (srR (bitsOf B) M D S n 0).2.2)] := by unfold srV; rw [ho]
   have eS : srS M D S B (srR (bitsOf B) M D S n 0) = [some (rdC B (srR (bitsOf B) M D S n 0).2.1)] := by unfold srS; rw [ho]
   rw [eV, eS] at ar
   unfold rrV at rr
   rw [ho] at rr
   dsimp only at rr
   generalize (srR (bitsOf B) M D S n 0).2.1 = q at *
   generalize (srR (bitsOf B) M D S n 0).2.2 = e at *
   refine callW [some 13] [] (ar) ?_
   simp (maxSteps := 1000000) (disch := (first | omega | (simp only [lnA, List.length_map, List.length_range, true_and, and_true]; (try omega); done) | fail)) only [go_sem, Int.reduceEq, Int.reduceToNat, Nat.reduceAdd, Nat.reduceMul, Nat.reduceEqDiff, ↓reduceIte]
   refine callV0 (rbs) rfl rfl ?_
   simp (maxSteps := 1000000) (disch := (first | omega | (simp only [lnA, List.length_map, List.length_range, true_and, and_true]; (try omega); done) | fail)) only [go_sem, Int.reduceEq, Int.reduceToNat, Nat.reduceAdd, Nat.reduceMul, Nat.reduceEqDiff, ↓reduceIte]
   refine callT (ln) ?_
   simp (maxSteps := 1000000) (disch := (first | omega | (simp only [lnA, List.length_map, List.length_range, true_and, and_true]; (try omega); done) | fail)) only [go_sem, Int.reduceEq, Int.reduceToNat, Nat.reduceAdd, Nat.reduceMul, Nat.reduceEqDiff, ↓reduceIte]
   refine callV0 (rr) rfl rfl ?_
   rcases he with he | he
   ·
    subst he
    simp (maxSteps := 1000000) (disch := (first | omega | (simp only [lnA, List.length_map, List.length_range, true_and, and_true]; (try omega); done) | fail)) only [go_sem, Int.reduceEq, Int.reduceToNat, Nat.reduceAdd, Nat.reduceMul, Nat.reduceEqDiff, ↓reduceIte]
    exact endW [] hQ
   ·
    subst he
    simp (maxSteps := 1000000) (disch := (first | omega | (simp only [lnA, List.length_map, List.length_range, true_and, and_true]; (try omega); done) | fail)) only [go_sem, Int.reduceEq, Int.reduceToNat, Nat.reduceAdd, Nat.reduceMul, Nat.reduceEqDiff, ↓reduceIte]
    exact endW [] hQ
  | some Y =>
   obtain ⟨hw1, hw2, hok2, hw3⟩ := srR_way (Nat.zero_le _) ho
   have hql := srR_le (M := M) (D := D) (S := S) (n := n) (p := 0) (Nat.zero_le (bitsOf B).length)
   have eV : srV (srR (bitsOf B) M D S n 0) = .tup [.ref 1 0 0 0, .lit (.int .i64 0)] := by unfold srV; rw [ho]
   have eS : srS M D S B (srR (bitsOf B) M D S n 0) = [some (rdC B (srR (bitsOf B) M D S n 0).2.1), some (saC M D S Y)] := by unfold srS; rw [ho]
   rw [eV, eS] at ar
   unfold rrV at rr
   rw [ho] at rr
   dsimp only at rr
   generalize (srR (bitsOf B) M D S n 0).2.1 = q at *
   have hsok := okS_to hok2
   have hYl : Y.1.length ≤ 256 := by have := hok2.1; omega
   have hi2 := is19_fn (M := M) (D := D) (S := S) (p := 0) (st := Y) (L := []) (e := 0) hw hYl hsok.c hsok.s1 hsok.s2
   have lf := leftP_fn (B := B) (p := q) (by omega) (by omega)
   have gd := rgood_fn (M := a) (D := b) (S := c)
   have ow2 := ownI_fn (a := a) (b := b) (c := c)
   clear hw1 hw2 hw3 hok2 hsok
   refine callW [some 13] [] (ar) ?_
   simp (maxSteps := 1000000) (disch := (first | omega | (simp only [lnA, List.length_map, List.length_range, true_and, and_true]; (try omega); done) | fail)) only [go_sem, Int.reduceEq, Int.reduceToNat, Nat.reduceAdd, Nat.reduceMul, Nat.reduceEqDiff, ↓reduceIte]
   refine callV0 (rbs) rfl rfl ?_
   simp (maxSteps := 1000000) (disch := (first | omega | (simp only [lnA, List.length_map, List.length_range, true_and, and_true]; (try omega); done) | fail)) only [go_sem, Int.reduceEq, Int.reduceToNat, Nat.reduceAdd, Nat.reduceMul, Nat.reduceEqDiff, ↓reduceIte]
   refine callT (ln) ?_
   simp (maxSteps := 1000000) (disch := (first | omega | (simp only [lnA, List.length_map, List.length_range, true_and, and_true]; (try omega); done) | fail)) only [go_sem, Int.reduceEq, Int.reduceToNat, Nat.reduceAdd, Nat.reduceMul, Nat.reduceEqDiff, ↓reduceIte]
   refine callV0 (rr) rfl rfl ?_
   simp (maxSteps := 1000000) (disch := (first | omega | (simp only [lnA, List.length_map, List.length_range, true_and, and_true]; (try omega); done) | fail)) only [go_sem, Int.reduceEq, Int.reduceToNat, Nat.reduceAdd, Nat.reduceMul, Nat.reduceEqDiff, ↓reduceIte]
   refine callV0 (ow2) rfl rfl ?_
   by_cases hg : goodS a b c
   ·
    obtain ⟨sn, hnw⟩ := snewI_fn hg
    rw [decide_eq_true hg] at gd
    simp (maxSteps := 1000000) (disch := (first | omega | (simp only [lnA, List.length_map, List.length_range, true_and, and_true]; (try omega); done) | fail)) only [go_sem, Int.reduceEq, Int.reduceToNat, Nat.reduceAdd, Nat.reduceMul, Nat.reduceEqDiff, ↓reduceIte]
    refine callW [] [] (hnw) ?_
    simp (maxSteps := 1000000) (disch := (first | omega | (simp only [lnA, List.length_map, List.length_range, true_and, and_true]; (try omega); done) | fail)) only [go_sem, Int.reduceEq, Int.reduceToNat, Nat.reduceAdd, Nat.reduceMul, Nat.reduceEqDiff, ↓reduceIte]
    refine callT (hi2) ?_
    simp (maxSteps := 1000000) (disch := (first | omega | (simp only [lnA, List.length_map, List.length_range, true_and, and_true]; (try omega); done) | fail)) only [go_sem, Int.reduceEq, Int.reduceToNat, Nat.reduceAdd, Nat.reduceMul, Nat.reduceEqDiff, ↓reduceIte]
    refine callT (lf) ?_
    simp (maxSteps := 1000000) (disch := (first | omega | (simp only [lnA, List.length_map, List.length_range, true_and, and_true]; (try omega); done) | fail)) only [go_sem, Int.reduceEq, Int.reduceToNat, Nat.reduceAdd, Nat.reduceMul, Nat.reduceEqDiff, ↓reduceIte]
    refine callV0 (gd) rfl rfl ?_
    simp (maxSteps := 1000000) (disch := (first | omega | (simp only [lnA, List.length_map, List.length_range, true_and, and_true]; (try omega); done) | fail)) only [go_sem, Int.reduceEq, Int.reduceToNat, Nat.reduceAdd, Nat.reduceMul, Nat.reduceEqDiff, ↓reduceIte]
    exact endW [] hQ
   ·
    have hnw := snewE_fn (M := a) (D := b) (S := c) (n := 3) (fun h => hg h.1)
    rw [decide_eq_false hg] at gd
    simp (maxSteps := 1000000) (disch := (first | omega | (simp only [lnA, List.length_map, List.length_range, true_and, and_true]; (try omega); done) | fail)) only [go_sem, Int.reduceEq, Int.reduceToNat, Nat.reduceAdd, Nat.reduceMul, Nat.reduceEqDiff, ↓reduceIte]
    refine callV0 (hnw) rfl rfl ?_
    simp (maxSteps := 1000000) (disch := (first | omega | (simp only [lnA, List.length_map, List.length_range, true_and, and_true]; (try omega); done) | fail)) only [go_sem, Int.reduceEq, Int.reduceToNat, Nat.reduceAdd, Nat.reduceMul, Nat.reduceEqDiff, ↓reduceIte]
    refine callT (hi2) ?_
    simp (maxSteps := 1000000) (disch := (first | omega | (simp only [lnA, List.length_map, List.length_range, true_and, and_true]; (try omega); done) | fail)) only [go_sem, Int.reduceEq, Int.reduceToNat, Nat.reduceAdd, Nat.reduceMul, Nat.reduceEqDiff, ↓reduceIte]
    refine callT (lf) ?_
    simp (maxSteps := 1000000) (disch := (first | omega | (simp only [lnA, List.length_map, List.length_range, true_and, and_true]; (try omega); done) | fail)) only [go_sem, Int.reduceEq, Int.reduceToNat, Nat.reduceAdd, Nat.reduceMul, Nat.reduceEqDiff, ↓reduceIte]
    refine callV0 (gd) rfl rfl ?_
    simp (maxSteps := 1000000) (disch := (first | omega | (simp only [lnA, List.length_map, List.length_range, true_and, and_true]; (try omega); done) | fail)) only [go_sem, Int.reduceEq, Int.reduceToNat, Nat.reduceAdd, Nat.reduceMul, Nat.reduceEqDiff, ↓reduceIte]
    exact endW [] hQ
end Go.Proofs.YtpkfddfkacijoaaGreatDoor
