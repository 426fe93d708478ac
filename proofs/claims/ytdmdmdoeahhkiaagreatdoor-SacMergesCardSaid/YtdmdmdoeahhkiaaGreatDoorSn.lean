import Derived.Test.YtdmdmdoeahhkiaaGreatDoorSp
import Derived.Test.YtdmdmdoeahhkiaaGreatDoorSm
import Derived.Test.YtdmdmdoeahhkiaaGreatDoorSi
namespace Go.Proofs.YtdmdmdoeahhkiaaGreatDoor
set_option linter.unusedSimpArgs false
set_option linter.unusedVariables false
theorem lvD_all {P : SP} (hP : PB P) : ∀ (k : Nat) (st : SS), SOk P st → st.2.1 + k ≤ P.s → (lvD P k st).all (fun r => SOk P r ∧ r.1.length = st.1.length ∧ r.2.1 = st.2.1 + k ∧ r.2.2 = st.2.2) := by
  intro k
  induction k with
  | zero => intro st h _; exact ⟨h, rfl, rfl, rfl⟩
  | succ k ih =>
    intro st h hk
    unfold lvD
    rw [all_bind]
    refine all_mono (fun r hr => ?_) (all_and (rsD_all hP h.s1 (-1 : Int) st.1 0 (0, 0) h.c (fun h => absurd h (by decide))) (mean_rs P st.2.1 (-1 : Int) st.1 0 (0, 0)).2.2.2)
    obtain ⟨⟨h1, -⟩, h2⟩ := hr
    have h3 := h.s1
    refine all_mono (fun q hq => ?_) (ih (r.1, st.2.1 + 1, st.2.2) ⟨h1, by dsimp only; omega, by dsimp only; omega, fun hf => by have := h.f hf; omega⟩ (by dsimp only; omega))
    obtain ⟨q1, q2, q3, q4⟩ := hq
    dsimp only at q2 q3 q4
    exact ⟨q1, by omega, by omega, q4⟩
theorem togD_all {P : SP} (hP : PW P) {x y : SS} {i : Nat} (hx : SOk P x) (hy : SOk P y) : (togD x y i).all (fun c => c.1 ≤ 16777216 ∧ c.2 ≤ P.d) := by
  have h1 := getD_ok hx.c i
  have h2 := getD_ok hy.c i
  have hd := hP.d3
  have hm := hP.m255
  have hs := hP.s4
  have hxs := hx.s2
  unfold togD
  generalize x.1.getD i (0, 0) = c1 at *
  generalize y.1.getD i (0, 0) = c2 at *
  obtain ⟨a1, a2, -⟩ := h1
  obtain ⟨b1, b2, -⟩ := h2
  have w1 := wth_le (c := c1) (s := x.2.1) (A := 255) (by omega) (by omega) (by omega)
  have w2 := wth_le (c := c2) (s := x.2.1) (A := 255) (by omega) (by omega) (by omega)
  have le := fun (n k : Nat) => Nat.div_le_self n (2 ^ k)
  rw [all_bind]
  refine all_mono (fun a ha => ?_) (rndD_all _ _)
  rw [all_bind]
  refine all_mono (fun b hb => ?_) (rndD_all _ _)
  have l1 := le (wth c1 x.2.1) (x.2.1 * max c1.2 c2.2)
  have l2 := le (wth c2 x.2.1) (x.2.1 * max c1.2 c2.2)
  have ha1 := ha.1
  have hb1 := hb.1
  generalize wth c1 x.2.1 / 2 ^ (x.2.1 * max c1.2 c2.2) = u1 at *
  generalize wth c2 x.2.1 / 2 ^ (x.2.1 * max c1.2 c2.2) = u2 at *
  exact ⟨show a + b ≤ _ by omega, show max c1.2 c2.2 ≤ _ by omega⟩
theorem mg_run {P : SP} {L : List Bool} {k i p : Nat} {x y : SS} : (mgD P (k + 1) i x y).run L p = match (lvD P (x.2.1 - y.2.1) y).run L p with
    | some (y1, q) => (match (togD x y1 i).run L q with
      | some (c, q2) => (match (fitD P i (fuelF P x.2.1 c.2) x c).run L q2 with | some (x1, q3) => (mgD P k (i + 1) x1 y1).run L q3 | none => none)
      | none => none)
    | none => none := by
  rw [mgD.eq_2, run_bind]
  cases (lvD P (x.2.1 - y.2.1) y).run L p with
  | none => rfl
  | some r =>
    dsimp only
    rw [run_bind]
    cases (togD x r.1 i).run L r.2 with
    | none => rfl
    | some s =>
      dsimp only
      rw [run_bind]
      cases (fitD P i (fuelF P x.2.1 s.1.2) x s.1).run L s.2 with
      | none => rfl
      | some t => rfl
theorem merge_run {P : SP} {L : List Bool} {p : Nat} {x y : SS} : (mergeD P x y).run L p = match (lvD P (y.2.1 - x.2.1) x).run L p with | some (x1, q) => (mgD P x.1.length 0 x1 y).run L q | none => none := by
  unfold mergeD
  rw [run_bind]
  cases (lvD P (y.2.1 - x.2.1) x).run L p with
  | none => rfl
  | some r => rfl
theorem mgD_all {P : SP} (hP : PW P) : ∀ (k i : Nat) (x y : SS), SOk P x → SOk P y → (mgD P k i x y).all (fun r => r.1.length = x.1.length ∧ (∀ c ∈ r.1, COk P c) ∧ 1 ≤ r.2.1 ∧ r.2.1 ≤ P.s) := by
  intro k
  induction k with
  | zero => intro i x y hx _; exact ⟨rfl, hx.c, hx.s1, hx.s2⟩
  | succ k ih =>
    intro i x y hx hy
    unfold mgD
    rw [all_bind]
    have e1 := hx.s2
    have e2 := hy.s2
    refine all_mono (fun y1 h1 => ?_) (lvD_all hP.toPB (x.2.1 - y.2.1) y hy (by omega))
    rw [all_bind]
    refine all_mono (fun c hc => ?_) (togD_all hP hx h1.1)
    rw [all_bind]
    refine all_mono (fun x1 h2 => ?_) (all_and (fitD_all hP.toPB i _ x c hx hc.2 (need_le _ _ _)) (len_fit P i (fuelF P x.2.1 c.2) x c))
    refine all_mono (fun r hr => ?_) (ih (i + 1) x1 y1 h2.1.1 h1.1)
    exact ⟨hr.1.trans h2.2.1, hr.2⟩
def mergeR (M D S : Nat) (L : List Bool) (d : Bool) (x y : SS) (p : Nat) : SS × Int × Nat × Bool := outG x L d ((mergeD (SPof M D S) x y).run L p)
end Go.Proofs.YtdmdmdoeahhkiaaGreatDoor

namespace Go.Proofs.YtdmdmdoeahhkiaaGreatDoor
open Go.Eng Go.Vx
set_option linter.unusedSimpArgs false
set_option linter.unusedVariables false
set_option maxRecDepth 100000
theorem saddI_fn {M D S p : Nat} {i n : Int} {st : SS} {d : Bool} {L : List Bool} (hX : st.1.length ≤ 256) (hi : i < 0 ∨ (st.1.length : Int) ≤ i) :
    Fn1 Tryz.prog 33 [.ref 0 0 0 0, .ref 1 0 0 0, .lit (.int .i64 i), .lit (.int .i64 n)] [some (saC M D S st), some (tpC L p d)] (.lit (.int .i64 1)) [some (saC M D S st), some (tpC L p d)] := by
  have g := sgetE_fn (M := M) (D := D) (S := S) hi hX
  refine fn1N_of pl33 (by kernel_rfl) Tryz.call33 Tryz.func33 rfl (by kernel_rfl) rfl [.tmp 8] (by kernel_rfl) fun Q hQ => ?_
  refine runW ?_
  refine callT (g) ?_
  refine runW ?_
  exact endW [some 0, some 1] hQ
theorem saddN_fn {M D S p i : Nat} {n : Int} {st : SS} {d : Bool} {L : List Bool} (hX : st.1.length ≤ 256) (hi : i < st.1.length) (hn : n < 0 ∨ 1048576 < n) :
    Fn1 Tryz.prog 33 [.ref 0 0 0 0, .ref 1 0 0 0, .lit (.int .i64 (i : Int)), .lit (.int .i64 n)] [some (saC M D S st), some (tpC L p d)] (.lit (.int .i64 2)) [some (saC M D S st), some (tpC L p d)] := by
  have hgi : st.1[i]? = some (st.1.getD i (0, 0)) := by rw [List.getD_eq_getElem?_getD, List.getElem?_eq_getElem hi]; rfl
  have g := sget_fn (M := M) (D := D) (S := S) hgi hX
  refine fn1N_of pl33 (by kernel_rfl) Tryz.call33 Tryz.func33 rfl (by kernel_rfl) rfl [.tmp 8] (by kernel_rfl) fun Q hQ => ?_
  by_cases h0 : n < 0
  · refine runW ?_
    refine callT (g) ?_
    refine runW ?_
    exact endW [some 0, some 1] hQ
  · have h1 : 1048576 < n := by omega
    refine runW ?_
    refine callT (g) ?_
    refine runW ?_
    exact endW [some 0, some 1] hQ
theorem small19_fn {a b c : Int} : ∃ M D S : Nat, WB M D S ∧ M ≤ 4 ∧ S ≤ 3 ∧ Fn1 Tryz.prog 29 [.agg [.lit (.int .i64 a), .lit (.int .i64 b), .lit (.int .i64 c)]] [] (pA M D S) [] := by
  obtain ⟨M, hM⟩ : ∃ m : Nat, 1 + a % 4 = (m : Int) := ⟨(1 + a % 4).toNat, by omega⟩
  obtain ⟨D, hD⟩ : ∃ m : Nat, 1 + b % 2 = (m : Int) := ⟨(1 + b % 2).toNat, by omega⟩
  obtain ⟨S, hS⟩ : ∃ m : Nat, 1 + c % 256 % 3 = (m : Int) := ⟨(1 + c % 256 % 3).toNat, by omega⟩
  have m1 : bitK .and .i64 a 3 = a % 4 := bitK_mask (k := .i64) (j := 2) (a := a) (by decide)
  have m2 : bitK .and .i64 b 1 = b % 2 := bitK_mask (k := .i64) (j := 1) (a := b) (by decide)
  have m3 : bitK .and .i64 c 255 = c % 256 := bitK_mask (k := .i64) (j := 8) (a := c) (by decide)
  refine ⟨M, D, S, ⟨by omega, by omega, by omega, by omega, by omega, by omega⟩, by omega, by omega, ?_⟩
  refine fn1N_of pl29 (by kernel_rfl) Tryz.call29 Tryz.func29 rfl (by kernel_rfl) rfl [.cell 2 59] (by kernel_rfl) fun Q hQ => ?_
  simp (maxSteps := 1000000) (disch := (first | omega | (simp only [lnA, List.length_map, List.length_range, true_and, and_true]; (try omega); done) | fail)) only [go_sem, m1, m2, m3, hM, hD, hS, Int.reduceEq, Int.reduceToNat, Nat.reduceAdd, Nat.reduceMul, Nat.reduceEqDiff, ↓reduceIte]
  exact endW [] hQ
theorem own19_fn {M D S : Nat} : Fn1 Tryz.prog 31 [pA M D S] [] (pA M D S) [] := by
  refine fn1N_of pl31 (by kernel_rfl) Tryz.call31 Tryz.func31 rfl (by kernel_rfl) rfl [.cell 2 65] (by kernel_rfl) fun Q hQ => ?_
  refine runW ?_
  exact endW [] hQ
theorem WB.good {M D S : Nat} (h : WB M D S) : goodS M D S := ⟨⟨by have := h.m1; omega, by have := h.m8; omega⟩, ⟨by have := h.d1; omega, by have := h.d2; omega⟩, by have := h.s1; omega, by have := h.s4; omega⟩
theorem aw19a : addR 2 1 2 [] false ([(0, 0)], 1, false) 0 3 0 = (([(3, 0)], 1, false), 0, 0, false) := by rfl
theorem aw19b : addR 2 1 2 [true] false ([(3, 0)], 1, false) 0 2 0 = (([(2, 1)], 1, false), 0, 1, false) := by rfl
theorem ok0 {P : SP} (h : PB P) {n : Nat} : SOk P (List.replicate n (0, 0), 1, false) := ⟨fun c hc => by
  rw [List.eq_of_mem_replicate hc]
  exact ⟨Nat.zero_le _, Nat.zero_le _, fun _ => rfl⟩, Nat.le_refl _, h.s1, fun h => by cases h⟩
theorem awake19_fn : Fn1 Tryz.prog 28 [] [] (.lit (.bool true)) [] := by
  have w : WB 2 1 2 := ⟨by decide, by decide, by decide, by decide, by decide, by decide⟩
  have hn := snew_fn (n := 1) w.good (by decide)
  rw [show List.replicate 1 ((0 : Nat), (0 : Nat)) = [(0, 0)] from rfl] at hn
  have a1 := sadd_fn (st := ([(0, 0)], 1, false)) (L := []) (p := 0) (d := false) (i := 0) (n := 3) w (by decide) (by decide) (fun h => by cases h) (by decide) (by decide) (ok0 w.pw.toPB (n := 1)) (by decide)
  rw [aw19a] at a1
  have ok1 : SOk (SPof 2 1 2) ([(3, 0)], 1, false) := ⟨fun c hc => by
    rw [List.mem_singleton.1 hc]
    exact ⟨by decide, by decide, by decide⟩, by decide, by decide, fun h => by cases h⟩
  have a2 := sadd_fn (st := ([(3, 0)], 1, false)) (L := [true]) (p := 0) (d := false) (i := 0) (n := 2) w (by decide) (by decide) (fun h => by cases h) (by decide) (by decide) ok1 (by decide)
  rw [aw19b] at a2
  have t1 := newT_fn (L := []) (by decide)
  have t2 := newT_fn (L := [true]) (by decide)
  have g := sget_fn (M := 2) (D := 1) (S := 2) (st := ([(2, 1)], 1, false)) (i := 0) (c := (2, 1)) rfl (by decide)
  have v := svalueL_fn (M := 2) (D := 1) (S := 2) (st := ([(2, 1)], 1, false)) (i := 0) (c := (2, 1)) rfl (by decide) (by decide) (by decide)
  rw [show wth (2, 1) ([(2, 1)], 1, false).2.1 = 4 from rfl] at v
  have tx := ntext_fn (n := 4) (Nat.le_trans (wg_one (by decide)) (by decide))
  rw [show decS 4 = [52] by rw [decS_small (by decide)]; decide] at tx
  simp only [pA, saC, saP, tpC, cA, List.map_cons, List.map_nil, cV_eq, Int.cast_ofNat_Int, List.length_nil] at hn a1 a2 t1 t2 g v
  refine fn1N_of pl28 (by kernel_rfl) Tryz.call28 Tryz.func28 rfl (by kernel_rfl) rfl [.tmp 0] (by kernel_rfl) fun Q hQ => ?_
  refine runW ?_
  refine callW [] [] (hn) ?_
  refine runW ?_
  refine callW [] [] (t1) ?_
  refine runW ?_
  refine callW [some 0, some 1] [] (a1) ?_
  refine runW ?_
  refine callW [] [2] (t2) ?_
  refine runW ?_
  refine callW [some 0, some 3] [] (a2) ?_
  refine runW ?_
  refine callT (g) ?_
  refine runW ?_
  refine callW [some 0] [] (v) ?_
  refine runW ?_
  refine callV0 (tx) rfl rfl ?_
  refine runW ?_
  exact endW [] hQ
end Go.Proofs.YtdmdmdoeahhkiaaGreatDoor
