import Derived.Test.YtpkfddfkacijoaaGreatDoorSt
namespace Go.Proofs.YtpkfddfkacijoaaGreatDoor
open Go.Eng Go.Vx
set_option linter.unusedSimpArgs false
set_option linter.unusedVariables false
set_option maxRecDepth 100000
theorem modeOf_go {P : SP} {v s m : Nat} (h1 : m < P.d) (h2 : P.m < v / 2 ^ (s * m)) : modeOf P v s (P.d - m) m = modeOf P v s (P.d - (m + 1)) (m + 1) := by
 obtain ⟨f, hf⟩ : ∃ f, P.d - m = f + 1 := ⟨P.d - m - 1, by omega⟩
 rw [hf, show P.d - (m + 1) = f by omega, modeOf.eq_2, if_pos ⟨h1, h2⟩]
theorem modeOf_end {P : SP} {v s m : Nat} (h0 : m ≤ P.d) (h : ¬ (m < P.d ∧ P.m < v / 2 ^ (s * m))) : modeOf P v s (P.d - m) m = m := by
 cases hf : P.d - m with
 | zero => rfl
 | succ f => rw [modeOf.eq_2, if_neg h]
def clC (c : Cell) : List V := [.lit (.int .i64 (c.1 : Int)), .lit (.int .i64 (c.2 : Int))]
def z9C : List V := [.lit (.int .i64 0), .lit (.int .i64 0), .lit (.int .i64 0), .lit (.slice none 0 0), .lit (.int .i64 0), .lit (.bool false), .lit (.slice none 0 0), .lit (.int .i64 0), .lit (.int .i64 0)]
def z2C : List V := [.lit (.int .i64 0), .lit (.int .i64 0)]
attribute [go_sem] clC z9C z2C
theorem rs_step {P : SP} {L : List Bool} {w : Nat} {i : Int} {cs Y : List Cell} {own0 own : Cell} {k p p0 : Nat} {e e0 : Int} (hk : k < Y.length)
  (h : rsR P L w i cs 0 own0 p0 e0 = ((Y.take k ++ (rsR P L w i (Y.drop k) k own p e).1.1, (rsR P L w i (Y.drop k) k own p e).1.2), (rsR P L w i (Y.drop k) k own p e).2)) {st : (Cell × Cell) × Nat × Int} (hst : stR P L w i k Y[k] own p e = st) :
  rsR P L w i cs 0 own0 p0 e0 = (((Y.set k st.1.1).take (k + 1) ++ (rsR P L w i ((Y.set k st.1.1).drop (k + 1)) (k + 1) st.1.2 st.2.1 st.2.2).1.1, (rsR P L w i ((Y.set k st.1.1).drop (k + 1)) (k + 1) st.1.2 st.2.1 st.2.2).1.2), (rsR P L w i ((Y.set k st.1.1).drop (k + 1)) (k + 1) st.1.2 st.2.1 st.2.2).2) := by
 have hdr : Y.drop k = Y[k] :: Y.drop (k + 1) := List.drop_eq_getElem_cons hk
 have e1 : (Y.set k st.1.1).drop (k + 1) = Y.drop (k + 1) := by rw [List.drop_set_of_lt (by omega)]
 have e2 : (Y.set k st.1.1).take (k + 1) = Y.take k ++ [st.1.1] := by
  rw [List.take_succ_eq_append_getElem (by simpa using hk), List.take_set_of_le (Nat.le_refl k)]
  simp
 rw [h, e1, e2, hdr, rsR.eq_2, hst]
 simp
set_option maxHeartbeats 8000000 in
theorem rresc_fn {M D S w p0 : Nat} {cs : List Cell} {f : Bool} {L : List Bool} {i : Int} {own0 : Cell} {e0 : Int} (hw : WB M D S) (hL : L.length ≤ 1048576) (hp0 : p0 ≤ L.length) (hs1 : 1 ≤ w) (hs : w ≤ 4) (hX : cs.length ≤ 256)
  (hl : ∀ c ∈ cs, LOk (SPof M D S) c) (hc : e0 = 0 → ∀ c ∈ cs, COk (SPof M D S) c) (ho : LOk (SPof M D S) own0) (hoi : e0 = 0 → 0 ≤ i → (SPof M D S).m < own0.1) :
  Fn1 Tryz.prog 131 [rsV M D S (cs, w, f) L p0 e0, .lit (.int .i64 i), cA own0] []
  (.tup [rsV M D S ((rsR (SPof M D S) L w i cs 0 own0 p0 e0).1.1, w + 1, f) L (rsR (SPof M D S) L w i cs 0 own0 p0 e0).2.1 (rsR (SPof M D S) L w i cs 0 own0 p0 e0).2.2, cA (rsR (SPof M D S) L w i cs 0 own0 p0 e0).1.2]) [] := by
 have hpw := hw.pw
 have hPm : (SPof M D S).m = 2 ^ M - 1 := rfl
 have hPd : (SPof M D S).d = 2 ^ D - 1 := rfl
 have hM1 : 1 ≤ 2 ^ M := Nat.pow_pos (by decide)
 have hD1 : 1 ≤ 2 ^ D := Nat.pow_pos (by decide)
 have hm255 := hpw.m255
 have hd3 := hpw.d3
 have t1 := two_fn (k := M) (by have := hw.m8; omega)
 have t2 := two_fn (k := D) (by have := hw.d2; omega)
 have hw1 : (w : Int) + 1 = ((w + 1 : Nat) : Int) := by omega
 generalize hP : SPof M D S = P at *
 generalize hMM : 2 ^ M = MM at *
 generalize hDD : 2 ^ D = DD at *
 refine fn1N_of pl131 (by kernel_rfl) Tryz.call131 Tryz.func131 rfl (by kernel_rfl) rfl [.cell 6 66, .cell 7 132] (by kernel_rfl) fun Q hQ => ?_
 simp (maxSteps := 1000000) (disch := (first | omega | (simp only [lnA, List.length_map, List.length_range, true_and, and_true]; (try omega); done) | fail)) only [go_sem, hw1, Int.reduceEq, Int.reduceToNat, Nat.reduceAdd, Nat.reduceMul, Nat.reduceEqDiff, ↓reduceIte]
 refine loopW (X := Nat × List Cell × Cell × Nat × Int) (st := fun y => ([(1, .lit (.int .i64 i)), (3, .ref 0 0 0 0), (5, .ref 1 0 0 0), (6, .ref 2 0 0 0), (7, .ref 3 0 0 0), (8, .lit (.int .i64 (w : Int))), (9, .lit (.int .i64 (y.1 : Int)))],
   [some (.cells (rsC M D S (y.2.1, w + 1, f) L y.2.2.2.1 y.2.2.2.2)), some (.cells (clC y.2.2.1)), some (.cells z9C), some (.cells z2C)]))
  (inv := fun y => y.1 ≤ cs.length ∧ y.2.1.length = cs.length ∧ y.2.2.2.1 ≤ L.length ∧ LOk P y.2.2.1 ∧ (y.2.2.2.2 = 0 → (y.1 : Int) ≤ i → P.m < y.2.2.1.1) ∧ (∀ c ∈ y.2.1.drop y.1, LOk P c) ∧ (y.2.2.2.2 = 0 → ∀ c ∈ y.2.1.drop y.1, COk P c) ∧
   rsR P L w i cs 0 own0 p0 e0 = ((y.2.1.take y.1 ++ (rsR P L w i (y.2.1.drop y.1) y.1 y.2.2.1 y.2.2.2.1 y.2.2.2.2).1.1, (rsR P L w i (y.2.1.drop y.1) y.1 y.2.2.1 y.2.2.2.1 y.2.2.2.2).1.2), (rsR P L w i (y.2.1.drop y.1) y.1 y.2.2.1 y.2.2.2.1 y.2.2.2.2).2))
  (m := fun y => cs.length - y.1) (0, cs, own0, p0, e0) [some 0, some 1, some 2, some 3] ⟨Nat.zero_le _, rfl, hp0, ho, fun h1 h2 => hoi h1 (by simpa using h2), by simpa using hl, by simpa using hc, by simp⟩ ?_
 rintro ⟨k, Y, own, p, e⟩ ⟨hk, hY, hp, hown, howi, hlo, hco, hrs⟩
 dsimp only at hk hY hp hown howi hlo hco hrs ⊢
 by_cases hkl : k < cs.length
 ·
  have hkY : k < Y.length := by omega
  have hdr : Y.drop k = Y[k] :: Y.drop (k + 1) := List.drop_eq_getElem_cons hkY
  have hget : Y.getD k default = Y[k] := by rw [List.getD_eq_getElem?_getD, List.getElem?_eq_getElem hkY]; rfl
  have hYl : LOk P Y[k] := hlo _ (by rw [hdr]; exact List.mem_cons_self)
  have hYc : e = 0 → COk P Y[k] := fun h => hco h _ (by rw [hdr]; exact List.mem_cons_self)
  have hstp := fun (st : (Cell × Cell) × Nat × Int) (h : stR P L w i k Y[k] own p e = st) => rs_step hkY hrs h
  have hsok := stR_ok hpw (L := L) (w := w) (i := i) (k := k) (c := Y[k]) (own := own) (p := p) (e := e) hs1 hYl hYc hown (fun h hk => howi h (by omega))
  have hserr := stR_err (P := P) (L := L) (w := w) (i := i) (k := k) (c := Y[k]) (own := own) (p := p) (e := e)
  have hrest : ∀ z, ∀ c ∈ (Y.set k z).drop (k + 1), LOk P c := fun z c hc2 => by
   rw [List.drop_set_of_lt (by omega)] at hc2
   exact hlo c (by rw [hdr]; exact List.mem_cons_of_mem _ hc2)
  have hrest2 : ∀ z, e = 0 → ∀ c ∈ (Y.set k z).drop (k + 1), COk P c := fun z he c hc2 => by
   rw [List.drop_set_of_lt (by omega)] at hc2
   exact hco he c (by rw [hdr]; exact List.mem_cons_of_mem _ hc2)
  have hlen : ∀ z, (Y.set k z).length = cs.length := fun z => by rw [List.length_set]; exact hY
  generalize hyk : Y[k] = yc at *
  by_cases hki : (k : Int) = i
  ·
   -- the cell that isn't put yet
   have hwo := rworth_fn (c := own) (s := w) hown.1 (by have := sm_le (s := w) (m := own.2) hs (by have := hown.2; omega); omega) (Nat.le_trans (wth_le hown.1 (by have := hown.2; omega) hs) (by decide))
   have hvl := wth_le (c := own) (s := w) hown.1 (by have := hown.2; omega) hs
   have hst : stR P L w i k yc own p e = ((yc, (scR P L (wth own w) (w + 1) p e).1), (scR P L (wth own w) (w + 1) p e).2) := by unfold stR; rw [if_pos hki]
   rw [hst] at hsok hserr
   have hnx := hstp _ hst
   have hself : Y.set k yc = Y := by rw [← hyk]; exact List.set_getElem_self _
   dsimp only at hnx hsok hserr
   rw [hself] at hnx
   have hr1 := hrest yc
   have hr2 := hrest2 yc
   rw [hself] at hr1 hr2
   unfold scR at hnx hsok hserr
   dsimp only at hnx hsok hserr
   clear hst hstp hrest hrest2
   generalize hv : wth own w = v at *
   generalize hmd : modeOf P v (w + 1) P.d 0 = md at *
   simp (maxSteps := 1000000) (disch := (first | omega | (simp only [lnA, List.length_map, List.length_range, true_and, and_true]; (try omega); done) | fail)) only [go_sem, hget, hki, Int.reduceEq, Int.reduceToNat, Nat.reduceAdd, Nat.reduceMul, Nat.reduceEqDiff, ↓reduceIte]
   refine callV0 (hwo) rfl rfl ?_
   refine runW ?_
   refine loopW (X := Nat) (st := fun m => ([(1, .lit (.int .i64 i)), (3, .ref 0 0 0 0), (5, .ref 1 0 0 0), (6, .ref 2 0 0 0), (7, .ref 3 0 0 0), (8, .lit (.int .i64 (w : Int))), (9, .lit (.int .i64 (k : Int))), (10, .ref 4 0 0 0), (11, .lit (.int .i64 (v : Int))), (12, .lit (.int .i64 (m : Int)))],
    [some (.cells (rsC M D S (Y, w + 1, f) L p e)), some (.cells (clC own)), some (.cells z9C), some (.cells z2C), some (.cells (clC own))]))
    (inv := fun m => m ≤ P.d ∧ modeOf P v (w + 1) (P.d - m) m = md) (m := fun m => P.d - m) 0 [some 0, some 1, some 2, some 3, some 4] ⟨Nat.zero_le _, hmd⟩ ?_
   rintro m ⟨hm1, hm2⟩
   have hsm : (w + 1) * m ≤ 5 * 3 := Nat.mul_le_mul (by omega) (by omega)
   have t3 := two_fn (k := (w + 1) * m) (by omega)
   have hme : ((w + 1 : Nat) : Int) * (m : Int) = (((w + 1) * m : Nat) : Int) := by simp
   have hpw : 1 ≤ 2 ^ ((w + 1) * m) := Nat.pow_pos (by decide)
   have hdv : (v : Int) / ((2 ^ ((w + 1) * m) : Nat) : Int) = ((v / 2 ^ ((w + 1) * m) : Nat) : Int) := rfl
   by_cases hgo : m < P.d ∧ P.m < v / 2 ^ ((w + 1) * m)
   ·
    obtain ⟨hgo1, hgo2⟩ := hgo
    rw [modeOf_go hgo1 hgo2] at hm2
    generalize 2 ^ ((w + 1) * m) = pw at *
    generalize v / pw = q at *
    generalize (w + 1) * m = sm at *
    refine runW ?_
    refine callV0 (t2) rfl rfl ?_
    simp (maxSteps := 1000000) (disch := (first | omega | (simp only [lnA, List.length_map, List.length_range, true_and, and_true]; (try omega); done) | fail)) only [go_sem, hme, Int.reduceEq, Int.reduceToNat, Nat.reduceAdd, Nat.reduceMul, Nat.reduceEqDiff, ↓reduceIte]
    refine callV0 (t3) rfl rfl ?_
    simp (maxSteps := 1000000) (disch := (first | omega | (simp only [lnA, List.length_map, List.length_range, true_and, and_true]; (try omega); done) | fail)) only [go_sem, hdv, Int.reduceEq, Int.reduceToNat, Nat.reduceAdd, Nat.reduceMul, Nat.reduceEqDiff, ↓reduceIte]
    refine callV0 (t1) rfl rfl ?_
    refine runW ?_
    refine nextW (m + 1) [some 0, some 1, some 2, some 3, some 4] ⟨by omega, hm2⟩ (by omega)
   ·
    have hmm : m = md := by rw [← hm2]; exact (modeOf_end hm1 hgo).symm
    subst hmm
    clear hm2
    have hrun : True := trivial
    by_cases hgo1 : m < P.d
    ·
     have hgo2 : ¬ P.m < v / 2 ^ ((w + 1) * m) := fun h => hgo ⟨hgo1, h⟩
     generalize hpwe : 2 ^ ((w + 1) * m) = pw at *
     generalize hqe : v / pw = q at *
     refine runW ?_
     refine callV0 (t2) rfl rfl ?_
     simp (maxSteps := 1000000) (disch := (first | omega | (simp only [lnA, List.length_map, List.length_range, true_and, and_true]; (try omega); done) | fail)) only [go_sem, hme, Int.reduceEq, Int.reduceToNat, Nat.reduceAdd, Nat.reduceMul, Nat.reduceEqDiff, ↓reduceIte]
     refine callV0 (t3) rfl rfl ?_
     simp (maxSteps := 1000000) (disch := (first | omega | (simp only [lnA, List.length_map, List.length_range, true_and, and_true]; (try omega); done) | fail)) only [go_sem, hdv, Int.reduceEq, Int.reduceToNat, Nat.reduceAdd, Nat.reduceMul, Nat.reduceEqDiff, ↓reduceIte]
     refine callV0 (t1) rfl rfl ?_
     simp (maxSteps := 1000000) (disch := (first | omega | (simp only [lnA, List.length_map, List.length_range, true_and, and_true]; (try omega); done) | fail)) only [go_sem, hme, Int.reduceEq, Int.reduceToNat, Nat.reduceAdd, Nat.reduceMul, Nat.reduceEqDiff, ↓reduceIte]
     have rr := rround_fn (M := M) (D := D) (S := S) (st := (Y, w + 1, f)) (L := L) (p := p) (n := v) (k := (w + 1) * m) (e := e) hL hp (by omega) (by omega)
     have hrq := rnR_q (L := L) (n := v) (k := (w + 1) * m) (p := p) (e := e) hp
     generalize rnR L v ((w + 1) * m) p e = x at *
     obtain ⟨x1, x2, x3⟩ := x
     dsimp only at rr hrq hnx hsok hserr
     have hz : x3 = 0 → e = 0 := fun h0 => Classical.byContradiction fun he => by
      have := hserr he
      injection this with _ h3
      omega
     refine callV0 (rr) rfl rfl ?_
     simp (maxSteps := 1000000) (disch := (first | omega | (simp only [lnA, List.length_map, List.length_range, true_and, and_true]; (try omega); done) | fail)) only [go_sem, hki, Int.reduceEq, Int.reduceToNat, Nat.reduceAdd, Nat.reduceMul, Nat.reduceEqDiff, ↓reduceIte]
     refine nextW (k + 1, Y, (x1, m), x2, x3) [some 0, some 1, some 2, some 3] ⟨by dsimp only; omega, hY, hrq.1, hsok.2, fun _ h2 => absurd h2 (by dsimp only; omega), hr1, fun h => hr2 (hz h), hnx⟩ (by dsimp only; omega)
    ·
     generalize hpwe : 2 ^ ((w + 1) * m) = pw at *
     generalize hqe : v / pw = q at *
     refine runW ?_
     refine callV0 (t2) rfl rfl ?_
     simp (maxSteps := 1000000) (disch := (first | omega | (simp only [lnA, List.length_map, List.length_range, true_and, and_true]; (try omega); done) | fail)) only [go_sem, hme, Int.reduceEq, Int.reduceToNat, Nat.reduceAdd, Nat.reduceMul, Nat.reduceEqDiff, ↓reduceIte]
     have rr := rround_fn (M := M) (D := D) (S := S) (st := (Y, w + 1, f)) (L := L) (p := p) (n := v) (k := (w + 1) * m) (e := e) hL hp (by omega) (by omega)
     have hrq := rnR_q (L := L) (n := v) (k := (w + 1) * m) (p := p) (e := e) hp
     generalize rnR L v ((w + 1) * m) p e = x at *
     obtain ⟨x1, x2, x3⟩ := x
     dsimp only at rr hrq hnx hsok hserr
     have hz : x3 = 0 → e = 0 := fun h0 => Classical.byContradiction fun he => by
      have := hserr he
      injection this with _ h3
      omega
     refine callV0 (rr) rfl rfl ?_
     simp (maxSteps := 1000000) (disch := (first | omega | (simp only [lnA, List.length_map, List.length_range, true_and, and_true]; (try omega); done) | fail)) only [go_sem, hki, Int.reduceEq, Int.reduceToNat, Nat.reduceAdd, Nat.reduceMul, Nat.reduceEqDiff, ↓reduceIte]
     refine nextW (k + 1, Y, (x1, m), x2, x3) [some 0, some 1, some 2, some 3] ⟨by dsimp only; omega, hY, hrq.1, hsok.2, fun _ h2 => absurd h2 (by dsimp only; omega), hr1, fun h => hr2 (hz h), hnx⟩ (by dsimp only; omega)
  ·
   have hwo := rworth_fn (c := yc) (s := w) hYl.1 (by have := sm_le (s := w) (m := yc.2) hs (by have := hYl.2; omega); omega) (Nat.le_trans (wth_le hYl.1 (by have := hYl.2; omega) hs) (by decide))
   have hvl := wth_le (c := yc) (s := w) hYl.1 (by have := hYl.2; omega) hs
   have hst : stR P L w i k yc own p e = ((putS (reR P L w yc p e).1, own), (reR P L w yc p e).2) := by unfold stR; rw [if_neg hki]
   unfold reR scR upR at hst
   dsimp only at hst
   generalize hv : wth yc w = v at *
   generalize hmd : modeOf P v (w + 1) P.d 0 = md at *
   simp (maxSteps := 1000000) (disch := (first | omega | (simp only [lnA, List.length_map, List.length_range, true_and, and_true]; (try omega); done) | fail)) only [go_sem, hget, decide_eq_false hki, Int.reduceEq, Int.reduceToNat, Nat.reduceAdd, Nat.reduceMul, Nat.reduceEqDiff, ↓reduceIte]
   refine callV0 (hwo) rfl rfl ?_
   refine runW ?_
   refine loopW (X := Nat) (st := fun m => ([(1, .lit (.int .i64 i)), (3, .ref 0 0 0 0), (5, .ref 1 0 0 0), (6, .ref 2 0 0 0), (7, .ref 3 0 0 0), (8, .lit (.int .i64 (w : Int))), (9, .lit (.int .i64 (k : Int))), (10, .ref 4 0 0 0), (11, .lit (.int .i64 (v : Int))), (12, .lit (.int .i64 (m : Int)))],
    [some (.cells (rsC M D S (Y, w + 1, f) L p e)), some (.cells (clC own)), some (.cells z9C), some (.cells z2C), some (.cells (clC yc))]))
    (inv := fun m => m ≤ P.d ∧ modeOf P v (w + 1) (P.d - m) m = md) (m := fun m => P.d - m) 0 [some 0, some 1, some 2, some 3, some 4] ⟨Nat.zero_le _, hmd⟩ ?_
   rintro m ⟨hm1, hm2⟩
   have hsm : (w + 1) * m ≤ 5 * 3 := Nat.mul_le_mul (by omega) (by omega)
   have t3 := two_fn (k := (w + 1) * m) (by omega)
   have hme : ((w + 1 : Nat) : Int) * (m : Int) = (((w + 1) * m : Nat) : Int) := by simp
   have hpw : 1 ≤ 2 ^ ((w + 1) * m) := Nat.pow_pos (by decide)
   have hdv : (v : Int) / ((2 ^ ((w + 1) * m) : Nat) : Int) = ((v / 2 ^ ((w + 1) * m) : Nat) : Int) := rfl
   by_cases hgo : m < P.d ∧ P.m < v / 2 ^ ((w + 1) * m)
   ·
    obtain ⟨hgo1, hgo2⟩ := hgo
    rw [modeOf_go hgo1 hgo2] at hm2
    generalize 2 ^ ((w + 1) * m) = pw at *
    generalize v / pw = q at *
    generalize (w + 1) * m = sm at *
    refine runW ?_
    refine callV0 (t2) rfl rfl ?_
    simp (maxSteps := 1000000) (disch := (first | omega | (simp only [lnA, List.length_map, List.length_range, true_and, and_true]; (try omega); done) | fail)) only [go_sem, hme, Int.reduceEq, Int.reduceToNat, Nat.reduceAdd, Nat.reduceMul, Nat.reduceEqDiff, ↓reduceIte]
    refine callV0 (t3) rfl rfl ?_
    simp (maxSteps := 1000000) (disch := (first | omega | (simp only [lnA, List.length_map, List.length_range, true_and, and_true]; (try omega); done) | fail)) only [go_sem, hdv, Int.reduceEq, Int.reduceToNat, Nat.reduceAdd, Nat.reduceMul, Nat.reduceEqDiff, ↓reduceIte]
    refine callV0 (t1) rfl rfl ?_
    refine runW ?_
    refine nextW (m + 1) [some 0, some 1, some 2, some 3, some 4] ⟨by omega, hm2⟩ (by omega)
   ·
    have hmm : m = md := by rw [← hm2]; exact (modeOf_end hm1 hgo).symm
    subst hmm
    clear hm2
    have hrun : True := trivial
    by_cases hgo1 : m < P.d
    ·
     have hgo2 : ¬ P.m < v / 2 ^ ((w + 1) * m) := fun h => hgo ⟨hgo1, h⟩
     generalize hpwe : 2 ^ ((w + 1) * m) = pw at *
     generalize hqe : v / pw = q at *
     refine runW ?_
     refine callV0 (t2) rfl rfl ?_
     simp (maxSteps := 1000000) (disch := (first | omega | (simp only [lnA, List.length_map, List.length_range, true_and, and_true]; (try omega); done) | fail)) only [go_sem, hme, Int.reduceEq, Int.reduceToNat, Nat.reduceAdd, Nat.reduceMul, Nat.reduceEqDiff, ↓reduceIte]
     refine callV0 (t3) rfl rfl ?_
     simp (maxSteps := 1000000) (disch := (first | omega | (simp only [lnA, List.length_map, List.length_range, true_and, and_true]; (try omega); done) | fail)) only [go_sem, hdv, Int.reduceEq, Int.reduceToNat, Nat.reduceAdd, Nat.reduceMul, Nat.reduceEqDiff, ↓reduceIte]
     refine callV0 (t1) rfl rfl ?_
     simp (maxSteps := 1000000) (disch := (first | omega | (simp only [lnA, List.length_map, List.length_range, true_and, and_true]; (try omega); done) | fail)) only [go_sem, hme, Int.reduceEq, Int.reduceToNat, Nat.reduceAdd, Nat.reduceMul, Nat.reduceEqDiff, ↓reduceIte]
     have rr := rround_fn (M := M) (D := D) (S := S) (st := (Y, w + 1, f)) (L := L) (p := p) (n := v) (k := (w + 1) * m) (e := e) hL hp (by omega) (by omega)
     have hrq := rnR_q (L := L) (n := v) (k := (w + 1) * m) (p := p) (e := e) hp
     have hrl := rnR_le (L := L) (n := v) (k := (w + 1) * m) (p := p) (e := e)
     generalize rnR L v ((w + 1) * m) p e = x at *
     obtain ⟨x1, x2, x3⟩ := x
     dsimp only at rr hrq hrl hst
     by_cases hbig : P.m < x1
     ·
      rw [if_pos hbig] at hst
      have rr2 := rround_fn (M := M) (D := D) (S := S) (st := (Y, w + 1, f)) (L := L) (p := x2) (n := x1) (k := w + 1) (e := x3) hL hrq.1 (by omega) (by omega)
      have hrq2 := rnR_q (L := L) (n := x1) (k := w + 1) (p := x2) (e := x3) hrq.1
      generalize rnR L x1 (w + 1) x2 x3 = z at *
      obtain ⟨z1, z2, z3⟩ := z
      dsimp only at rr2 hrq2 hst
      have pt := rput_fn (M := M) (D := D) (S := S) (i := k) (st := (Y, w + 1, f)) (L := L) (p := z2) (e := z3) (c := (z1, m + 1)) hkY (by dsimp only; omega)
      rw [hst] at hsok hserr
      have hnx := hstp _ hst
      dsimp only at hnx hsok hserr pt
      have hz : z3 = 0 → e = 0 := fun h0 => Classical.byContradiction fun he => by
       have := hserr he
       injection this with _ h3
       omega
      refine callV0 (rr) rfl rfl ?_
      simp (maxSteps := 1000000) (disch := (first | omega | (simp only [lnA, List.length_map, List.length_range, true_and, and_true]; (try omega); done) | fail)) only [go_sem, decide_eq_false hki, Int.reduceEq, Int.reduceToNat, Nat.reduceAdd, Nat.reduceMul, Nat.reduceEqDiff, ↓reduceIte]
      refine callV0 (t1) rfl rfl ?_
      refine runW ?_
      refine callV0 (rr2) rfl rfl ?_
      refine runW ?_
      refine callV0 (pt) rfl rfl ?_
      refine runW ?_
      refine nextW (k + 1, Y.set k (putS (z1, m + 1)), own, z2, z3) [some 0, some 1, some 2, some 3] ⟨by dsimp only; omega, hlen _, hrq2.1, hown, fun h1 h2 => howi (hz h1) (by dsimp only at h2; omega), hrest _, fun h => hrest2 _ (hz h), hnx⟩ (by dsimp only; omega)
     ·
      rw [if_neg hbig] at hst
      have pt := rput_fn (M := M) (D := D) (S := S) (i := k) (st := (Y, w + 1, f)) (L := L) (p := x2) (e := x3) (c := (x1, m)) hkY (by dsimp only; omega)
      rw [hst] at hsok hserr
      have hnx := hstp _ hst
      dsimp only at hnx hsok hserr pt
      have hz : x3 = 0 → e = 0 := fun h0 => Classical.byContradiction fun he => by
       have := hserr he
       injection this with _ h3
       omega
      refine callV0 (rr) rfl rfl ?_
      simp (maxSteps := 1000000) (disch := (first | omega | (simp only [lnA, List.length_map, List.length_range, true_and, and_true]; (try omega); done) | fail)) only [go_sem, decide_eq_false hki, Int.reduceEq, Int.reduceToNat, Nat.reduceAdd, Nat.reduceMul, Nat.reduceEqDiff, ↓reduceIte]
      refine callV0 (t1) rfl rfl ?_
      refine runW ?_
      refine callV0 (pt) rfl rfl ?_
      refine runW ?_
      refine nextW (k + 1, Y.set k (putS (x1, m)), own, x2, x3) [some 0, some 1, some 2, some 3] ⟨by dsimp only; omega, hlen _, hrq.1, hown, fun h1 h2 => howi (hz h1) (by dsimp only at h2; omega), hrest _, fun h => hrest2 _ (hz h), hnx⟩ (by dsimp only; omega)
    ·
     generalize hpwe : 2 ^ ((w + 1) * m) = pw at *
     generalize hqe : v / pw = q at *
     refine runW ?_
     refine callV0 (t2) rfl rfl ?_
     simp (maxSteps := 1000000) (disch := (first | omega | (simp only [lnA, List.length_map, List.length_range, true_and, and_true]; (try omega); done) | fail)) only [go_sem, hme, Int.reduceEq, Int.reduceToNat, Nat.reduceAdd, Nat.reduceMul, Nat.reduceEqDiff, ↓reduceIte]
     have rr := rround_fn (M := M) (D := D) (S := S) (st := (Y, w + 1, f)) (L := L) (p := p) (n := v) (k := (w + 1) * m) (e := e) hL hp (by omega) (by omega)
     have hrq := rnR_q (L := L) (n := v) (k := (w + 1) * m) (p := p) (e := e) hp
     have hrl := rnR_le (L := L) (n := v) (k := (w + 1) * m) (p := p) (e := e)
     generalize rnR L v ((w + 1) * m) p e = x at *
     obtain ⟨x1, x2, x3⟩ := x
     dsimp only at rr hrq hrl hst
     by_cases hbig : P.m < x1
     ·
      rw [if_pos hbig] at hst
      have rr2 := rround_fn (M := M) (D := D) (S := S) (st := (Y, w + 1, f)) (L := L) (p := x2) (n := x1) (k := w + 1) (e := x3) hL hrq.1 (by omega) (by omega)
      have hrq2 := rnR_q (L := L) (n := x1) (k := w + 1) (p := x2) (e := x3) hrq.1
      generalize rnR L x1 (w + 1) x2 x3 = z at *
      obtain ⟨z1, z2, z3⟩ := z
      dsimp only at rr2 hrq2 hst
      have pt := rput_fn (M := M) (D := D) (S := S) (i := k) (st := (Y, w + 1, f)) (L := L) (p := z2) (e := z3) (c := (z1, m + 1)) hkY (by dsimp only; omega)
      rw [hst] at hsok hserr
      have hnx := hstp _ hst
      dsimp only at hnx hsok hserr pt
      have hz : z3 = 0 → e = 0 := fun h0 => Classical.byContradiction fun he => by
       have := hserr he
       injection this with _ h3
       omega
      refine callV0 (rr) rfl rfl ?_
      simp (maxSteps := 1000000) (disch := (first | omega | (simp only [lnA, List.length_map, List.length_range, true_and, and_true]; (try omega); done) | fail)) only [go_sem, decide_eq_false hki, Int.reduceEq, Int.reduceToNat, Nat.reduceAdd, Nat.reduceMul, Nat.reduceEqDiff, ↓reduceIte]
      refine callV0 (t1) rfl rfl ?_
      refine runW ?_
      refine callV0 (rr2) rfl rfl ?_
      refine runW ?_
      refine callV0 (pt) rfl rfl ?_
      refine runW ?_
      refine nextW (k + 1, Y.set k (putS (z1, m + 1)), own, z2, z3) [some 0, some 1, some 2, some 3] ⟨by dsimp only; omega, hlen _, hrq2.1, hown, fun h1 h2 => howi (hz h1) (by dsimp only at h2; omega), hrest _, fun h => hrest2 _ (hz h), hnx⟩ (by dsimp only; omega)
     ·
      rw [if_neg hbig] at hst
      have pt := rput_fn (M := M) (D := D) (S := S) (i := k) (st := (Y, w + 1, f)) (L := L) (p := x2) (e := x3) (c := (x1, m)) hkY (by dsimp only; omega)
      rw [hst] at hsok hserr
      have hnx := hstp _ hst
      dsimp only at hnx hsok hserr pt
      have hz : x3 = 0 → e = 0 := fun h0 => Classical.byContradiction fun he => by
       have := hserr he
       injection this with _ h3
       omega
      refine callV0 (rr) rfl rfl ?_
      simp (maxSteps := 1000000) (disch := (first | omega | (simp only [lnA, List.length_map, List.length_range, true_and, and_true]; (try omega); done) | fail)) only [go_sem, decide_eq_false hki, Int.reduceEq, Int.reduceToNat, Nat.reduceAdd, Nat.reduceMul, Nat.reduceEqDiff, ↓reduceIte]
      refine callV0 (t1) rfl rfl ?_
      refine runW ?_
      refine callV0 (pt) rfl rfl ?_
      refine runW ?_
      refine nextW (k + 1, Y.set k (putS (x1, m)), own, x2, x3) [some 0, some 1, some 2, some 3] ⟨by dsimp only; omega, hlen _, hrq.1, hown, fun h1 h2 => howi (hz h1) (by dsimp only at h2; omega), hrest _, fun h => hrest2 _ (hz h), hnx⟩ (by dsimp only; omega)
 ·
  obtain rfl : k = cs.length := by omega
  have hdr : Y.drop cs.length = [] := List.drop_eq_nil_of_le (by omega)
  have htk : Y.take cs.length = Y := List.take_of_length_le (by omega)
  rw [hdr, htk] at hrs
  have hrs2 : rsR P L w i cs 0 own0 p0 e0 = ((Y, own), p, e) := by rw [hrs]; simp [rsR]
  rw [hrs2] at hQ
  refine runW ?_
  exact endW [] hQ
end Go.Proofs.YtpkfddfkacijoaaGreatDoor
