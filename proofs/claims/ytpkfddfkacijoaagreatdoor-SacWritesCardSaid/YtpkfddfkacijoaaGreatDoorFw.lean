import Derived.Test.YtpkfddfkacijoaaGreatDoorSc
import Derived.Test.YtpkfddfkacijoaaGreatDoorSa
import Derived.Test.YtpkfddfkacijoaaGreatDoorZ3
import Derived.Test.YtpkfddfkacijoaaGreatDoorFa
import Derived.Test.YtpkfddfkacijoaaGreatDoorE8
import Derived.Test.YtpkfddfkacijoaaGreatDoorE6
import Derived.Test.YtpkfddfkacijoaaGreatDoorVx
import Derived.Test.YtpkfddfkacijoaaGreatDoorE7
namespace Go.Proofs.YtpkfddfkacijoaaGreatDoor
set_option linter.unusedVariables false
def nf (r : SS) : Prop := r.2.2 = false
theorem len_fit (P : SP) (i : Nat) : ∀ (f : Nat) (st : SS) (c : Cell), (fitD P i f st c).all (fun r => r.1.length = st.1.length ∧ (st.2.2 = true → r.2.2 = true)) := by
 intro f
 induction f with
 | zero => intro st c; exact ⟨rfl, fun _ => rfl⟩
 | succ f ih =>
  intro st c
  unfold fitD
  split
  ·
   exact ⟨List.length_set, fun h => h⟩
  ·
   split
   ·
    rw [all_bind]; exact all_true fun c1 => ih st c1
   ·
    split
    ·
     rw [all_bind]
     refine all_mono (fun r hr => all_mono (fun q hq => ⟨hq.1.trans hr, hq.2⟩) (ih (r.1, st.2.1 + 1, st.2.2) r.2)) (mean_rs P st.2.1 i st.1 0 c).2.2.2
    ·
     exact ⟨List.length_set, fun _ => rfl⟩
theorem len_add (P : SP) (st : SS) (i n : Nat) : (addD P st i n).all (fun r => r.1.length = st.1.length ∧ (st.2.2 = true → r.2.2 = true)) := by
 unfold addD
 rw [all_bind]
 exact all_true fun a => len_fit P i _ st _
def lvD (P : SP) : Nat → SS → DT SS
 | 0, st => .ret st
 | k + 1, st => (rsD P st.2.1 (-1) st.1 0 (0, 0)).bind fun r => lvD P k (r.1, st.2.1 + 1, st.2.2)
def togD (x y : SS) (i : Nat) : DT Cell :=
 (rndD (wth (x.1.getD i (0, 0)) x.2.1) (x.2.1 * max (x.1.getD i (0, 0)).2 (y.1.getD i (0, 0)).2)).bind fun n =>
 (rndD (wth (y.1.getD i (0, 0)) x.2.1) (x.2.1 * max (x.1.getD i (0, 0)).2 (y.1.getD i (0, 0)).2)).bind fun m => .ret (n + m, max (x.1.getD i (0, 0)).2 (y.1.getD i (0, 0)).2)
def mgD (P : SP) : Nat → Nat → SS → SS → DT SS
 | 0, _, x, y => .ret (x.1, x.2.1, x.2.2 || y.2.2)
 | k + 1, i, x, y => (lvD P (x.2.1 - y.2.1) y).bind fun y1 => (togD x y1 i).bind fun c => (fitD P i (fuelF P x.2.1 c.2) x c).bind fun x1 => mgD P k (i + 1) x1 y1
def mergeD (P : SP) (x y : SS) : DT SS := (lvD P (y.2.1 - x.2.1) x).bind fun x1 => mgD P x.1.length 0 x1 y
end Go.Proofs.YtpkfddfkacijoaaGreatDoor

namespace Go.Proofs.YtpkfddfkacijoaaGreatDoor
set_option linter.unusedVariables false
theorem ratR_run {L : List Bool} {k : Nat} : ∀ {f r p F : Nat}, f ≤ k → r ≠ 0 → r < 2 ^ k → 2 ^ (k - f) ∣ r → p ≤ L.length → L.length + 1 - p ≤ F →
  ratR L (2 ^ k) F r p = match (ratD (2 ^ k) f r).run L p with | some (b, q) => (b, 0, q, false) | none => (false, 8, L.length, true) := by
 intro f
 induction f with
 | zero =>
  intro r p F _ h0 h1 h2
  exact absurd (Nat.eq_zero_of_dvd_of_lt h2 (by simpa using h1)) h0
 | succ f ih =>
  intro r p F hk h0 h1 h2 hp hF
  obtain ⟨F, rfl⟩ : ∃ G, F = G + 1 := ⟨F - 1, by omega⟩
  have h3 := half_lt hk h2
  have hdk : 2 ^ (k - f) ∣ 2 ^ k := Nat.pow_dvd_pow 2 (by omega)
  rw [ratR_succ]
  unfold ratD
  generalize hD : 2 ^ k = D at *
  by_cases hge : D ≤ r + r
  ·
   rw [if_pos hge, if_pos hge, run_ask]
   simp only [decide_eq_true hge]
   by_cases hpl : p < L.length
   ·
    rw [if_pos hpl, if_pos hpl]
    cases hb : L.getD p false with
    | true =>
     by_cases hz : r + r - D = 0
     ·
      rw [if_neg (by simp [hz]), if_pos rfl, if_pos hz]
      rfl
     ·
      rw [if_pos ⟨rfl, hz⟩, if_pos rfl, if_neg hz]
      exact ih (by omega) hz (by omega) (Nat.dvd_sub h3 hdk) (by omega) (by omega)
    | false =>
     rw [if_neg (by simp), if_neg (by simp)]
     rfl
   ·
    rw [if_neg hpl, if_neg hpl]
  ·
   rw [if_neg hge, if_neg hge, run_ask]
   simp only [decide_eq_false hge]
   have hz : r + r ≠ 0 := by omega
   by_cases hpl : p < L.length
   ·
    rw [if_pos hpl, if_pos hpl]
    cases hb : L.getD p false with
    | true =>
     rw [if_neg (by simp), if_pos rfl]
     rfl
    | false =>
     rw [if_pos ⟨rfl, hz⟩, if_neg (by simp), if_neg hz]
     exact ih (by omega) hz (by omega) h3 (by omega) (by omega)
   ·
    rw [if_neg hpl, if_neg hpl]
theorem rndX_run {L : List Bool} {n k p : Nat} (hp : p ≤ L.length) : rndX L n (2 ^ k) p = match (rndD n k).run L p with | some (a, q) => ((a : Int), 0, q, false) | none => (0, 8, L.length, true) := by
 have hpos : 0 < 2 ^ k := Nat.pow_pos (by decide)
 have hlt := Nat.mod_lt n hpos
 unfold rndX rndD ratX
 rw [if_neg (by omega)]
 by_cases hz : n % 2 ^ k = 0
 ·
  rw [if_pos hz, if_pos hz]
  simp [DT.run]
 ·
  rw [if_neg hz, if_neg hz, if_neg (by omega)]
  have h := ratR_run (L := L) (k := k) (f := k) (r := n % 2 ^ k) (p := p) (F := L.length + 1 - p) (Nat.le_refl k) hz hlt (by rw [Nat.sub_self]; exact Nat.one_dvd _) hp (Nat.le_refl _)
  rw [h, run_bind]
  cases hr : (ratD (2 ^ k) k (n % 2 ^ k)).run L p with
  | none => simp
  | some x =>
   obtain ⟨b, q⟩ := x
   cases b <;> simp [bit, DT.run]
theorem ratD_end {L : List Bool} {D k r : Nat} : (ratD D (k + 1) r).run L L.length = none := by
 unfold ratD
 split
 ·
  rw [run_ask, if_neg (Nat.lt_irrefl _)]
 ·
  rw [run_ask, if_neg (Nat.lt_irrefl _)]
theorem rndD_end {L : List Bool} {n k : Nat} : (rndD n k).run L L.length = if n % 2 ^ k = 0 then some (n / 2 ^ k, L.length) else none := by
 unfold rndD
 have hpos : 0 < 2 ^ k := Nat.pow_pos (by decide)
 have hlt := Nat.mod_lt n hpos
 by_cases hz : n % 2 ^ k = 0
 ·
  rw [if_pos hz, if_pos hz]
  rfl
 ·
  rw [if_neg hz, if_neg hz, run_bind]
  cases k with
  | zero => omega
  | succ k => rw [ratD_end]
end Go.Proofs.YtpkfddfkacijoaaGreatDoor

namespace Go.Proofs.YtpkfddfkacijoaaGreatDoor
open Go.Eng Go.Vx
set_option linter.unusedSimpArgs false
set_option linter.unusedVariables false
set_option maxRecDepth 100000
def out10 (p : Nat) (r : Bool × Int × Nat × Bool) : V := .agg [.lit (.bool r.1), .lit (.int .i64 ((r.2.2.1 : Int) - (p : Int))), .lit (.int .i64 r.2.1)]
attribute [go_sem] out10
theorem two_div {r D : Nat} (h : r < D) : (2 * (r : Int)) / (D : Int) = (if D ≤ r + r then 1 else 0 : Nat) ∧ (2 * (r : Int)) % (D : Int) = ((if D ≤ r + r then r + r - D else r + r : Nat) : Int) := by
 split
 ·
  refine (Int.ediv_emod_unique (by omega)).2 ⟨?_, by omega, by omega⟩
  simp; omega
 ·
  refine (Int.ediv_emod_unique (by omega)).2 ⟨?_, by omega, by omega⟩
  simp; omega
theorem refRatio_fn {L : List Bool} {p P D : Nat} (hD : D ≠ 0) (hPD : P ≤ D) (hD2 : D ≤ 4294967296) (hp : p ≤ L.length) (hL : L.length ≤ 1048576) : Fn1 Tryz.prog 158 [.row 1 (L.map be), .lit (.int .i64 (p : Int)), .lit (.int .i64 (P : Int)), .lit (.int .i64 (D : Int))] [] (out10 p (ratX L P D p)) [] := by
 refine fn1N_of pl158 (by kernel_rfl) Tryz.call158 Tryz.func158 rfl (by kernel_rfl) rfl [.cell 8 223] (by kernel_rfl) fun Q hQ => ?_
 unfold ratX at hQ
 rw [if_neg (by omega)] at hQ
 by_cases h1 : P = 0
 ·
  rw [if_pos h1] at hQ
  have hne : decide ((P : Int) = (D : Int)) = false := decide_eq_false (by omega)
  simp (maxSteps := 1000000) (disch := (first | omega | (simp only [lnA, List.length_map, List.length_range, true_and, and_true]; (try omega); done) | fail)) only [go_sem, hne, Int.reduceEq, Int.reduceToNat, Nat.reduceAdd, Nat.reduceMul, Nat.reduceEqDiff, ↓reduceIte]
  exact endW [] hQ
 ·
  rw [if_neg h1] at hQ
  by_cases h2 : P = D
  ·
   rw [if_pos h2] at hQ
   refine runW ?_
   exact endW [] hQ
  ·
   rw [if_neg h2] at hQ
   refine runW ?_
   refine loopW (X := Nat × Nat) (st := fun z => ([(0, .row 1 (L.map be)), (1, .lit (.int .i64 (p : Int))), (2, .lit (.int .i64 (z.2 : Int))), (3, .lit (.int .i64 (D : Int))), (8, .ref 0 0 0 0), (9, .lit (.int .i64 (z.1 : Int)))], [some (.cells [.lit (.bool false), .lit (.int .i64 0), .lit (.int .i64 0)])]))
    (inv := fun z => p + z.1 ≤ L.length ∧ z.2 < D ∧ ratR L D (L.length + 1 - p) P p = ratR L D (L.length + 1 - (p + z.1)) z.2 (p + z.1)) (m := fun z => L.length - z.1) (0, P) [some 0] ⟨by simpa using hp, by simp only; omega, rfl⟩ ?_
   rintro ⟨i, r⟩ ⟨hi, hr, hv⟩
   simp only at hi hr hv ⊢
   obtain ⟨f, hf⟩ : ∃ f, L.length + 1 - (p + i) = f + 1 := ⟨L.length - (p + i), by omega⟩
   rw [hf, ratR_succ] at hv
   by_cases hl : p + i < L.length
   ·
    rw [if_pos hl] at hv
    have hx : ((p : Int) + (i : Int)).toNat = p + i := by omega
    obtain ⟨d1, d2⟩ := two_div hr
    generalize hb : L.getD (p + i) false = b at *
    by_cases hd : D ≤ r + r
    ·
     rw [if_pos hd, decide_eq_true hd] at hv
     rw [if_pos hd] at d1 d2
     cases b
     ·
      rw [if_neg (by simp)] at hv
      rw [hv] at hQ
      simp (maxSteps := 1000000) (disch := (first | omega | (simp only [lnA, List.length_map, List.length_range, true_and, and_true]; (try omega); done) | fail)) only [go_sem, hx, hb, d1, d2, Int.reduceEq, Int.reduceToNat, Nat.reduceAdd, Nat.reduceMul, Nat.reduceEqDiff, ↓reduceIte]
      exact endW [] hQ
     ·
      by_cases hz : r + r - D = 0
      ·
       rw [if_neg (fun h => h.2 hz)] at hv
       rw [hv] at hQ
       simp (maxSteps := 1000000) (disch := (first | omega | (simp only [lnA, List.length_map, List.length_range, true_and, and_true]; (try omega); done) | fail)) only [go_sem, hx, hb, d1, d2, Int.reduceEq, Int.reduceToNat, Nat.reduceAdd, Nat.reduceMul, Nat.reduceEqDiff, ↓reduceIte]
       exact endW [] hQ
      ·
       rw [if_pos ⟨rfl, hz⟩] at hv
       simp (maxSteps := 1000000) (disch := (first | omega | (simp only [lnA, List.length_map, List.length_range, true_and, and_true]; (try omega); done) | fail)) only [go_sem, hx, hb, d1, d2, Int.reduceEq, Int.reduceToNat, Nat.reduceAdd, Nat.reduceMul, Nat.reduceEqDiff, ↓reduceIte]
       refine nextW (i + 1, r + r - D) [some 0] ⟨by simp only; omega, by simp only; omega, ?_⟩ (by simp only; omega)
       simp only
       rw [hv, show L.length + 1 - (p + (i + 1)) = f by omega, Nat.add_assoc]
    ·
     rw [if_neg hd, decide_eq_false hd] at hv
     rw [if_neg hd] at d1 d2
     cases b
     ·
      by_cases hz : r + r = 0
      ·
       rw [if_neg (fun h => h.2 hz)] at hv
       rw [hv] at hQ
       simp (maxSteps := 1000000) (disch := (first | omega | (simp only [lnA, List.length_map, List.length_range, true_and, and_true]; (try omega); done) | fail)) only [go_sem, hx, hb, d1, d2, Int.reduceEq, Int.reduceToNat, Nat.reduceAdd, Nat.reduceMul, Nat.reduceEqDiff, ↓reduceIte]
       exact endW [] hQ
      ·
       rw [if_pos ⟨rfl, hz⟩] at hv
       simp (maxSteps := 1000000) (disch := (first | omega | (simp only [lnA, List.length_map, List.length_range, true_and, and_true]; (try omega); done) | fail)) only [go_sem, hx, hb, d1, d2, Int.reduceEq, Int.reduceToNat, Nat.reduceAdd, Nat.reduceMul, Nat.reduceEqDiff, ↓reduceIte]
       refine nextW (i + 1, r + r) [some 0] ⟨by simp only; omega, by simp only; omega, ?_⟩ (by simp only; omega)
       simp only
       rw [hv, show L.length + 1 - (p + (i + 1)) = f by omega, Nat.add_assoc]
     ·
      rw [if_neg (by simp)] at hv
      rw [hv] at hQ
      simp (maxSteps := 1000000) (disch := (first | omega | (simp only [lnA, List.length_map, List.length_range, true_and, and_true]; (try omega); done) | fail)) only [go_sem, hx, hb, d1, d2, Int.reduceEq, Int.reduceToNat, Nat.reduceAdd, Nat.reduceMul, Nat.reduceEqDiff, ↓reduceIte]
      exact endW [] hQ
   ·
    rw [if_neg hl] at hv
    rw [hv] at hQ
    refine runW ?_
    exact endW [] hQ
end Go.Proofs.YtpkfddfkacijoaaGreatDoor

namespace Go.Proofs.YtpkfddfkacijoaaGreatDoor
open Go.Eng Go.Vx
set_option linter.unusedSimpArgs false
set_option linter.unusedVariables false
set_option maxRecDepth 100000
def okR (L : List Bool) (p : Nat) (r : Bool × Int × Nat × Bool) : Prop := r = (false, 8, L.length, true) ∨ ∃ b e q, r = (b, e, q, false) ∧ e ≠ 8 ∧ p ≤ q ∧ q ≤ L.length
theorem okR_rat {L : List Bool} {P D p : Nat} (hp : p ≤ L.length) : okR L p (ratX L P D p) := by
 by_cases h : D = 0 ∨ D < P
 ·
  refine .inr ⟨false, 2, p, ?_, by decide, Nat.le_refl _, hp⟩
  unfold ratX; rw [if_pos h]
 ·
  rcases ratX_cases (L := L) (p := p) h hp with e | ⟨b, q, e, h1, h2⟩
  ·
   exact .inl e
  ·
   exact .inr ⟨b, 0, q, e, by decide, h1, h2⟩
end Go.Proofs.YtpkfddfkacijoaaGreatDoor

namespace Go.Proofs.YtpkfddfkacijoaaGreatDoor
open Go.Eng Go.Vx
set_option linter.unusedSimpArgs false
set_option linter.unusedVariables false
set_option maxRecDepth 100000
theorem num_nonnegR {A B : Nat} (hB : B ≠ 0) : ¬ (((A : Int) : Rat) / ((B : Int) : Rat)).num < 0 := by
 have h := frac_eq (p := (A : Int)) (q := (B : Int)) (by omega)
 rw [decide_eq_false (show ¬ (A : Int) < 0 by omega), decide_eq_false (show ¬ (B : Int) < 0 by omega)] at h
 rw [← h]
 exact mk_nonneg hB
theorem RS_one {a : Int} (h0 : -9223372036854775808 ≤ a) (h1 : a ≤ 9223372036854775807) : RS 1 (a : Rat) := RS_int (wg_int h0 h1) (by decide)
end Go.Proofs.YtpkfddfkacijoaaGreatDoor

namespace Go.Proofs.YtpkfddfkacijoaaGreatDoor
open Go.Eng Go.Vx
set_option linter.unusedSimpArgs false
set_option linter.unusedVariables false
set_option maxRecDepth 100000
end Go.Proofs.YtpkfddfkacijoaaGreatDoor

namespace Go.Proofs.YtpkfddfkacijoaaGreatDoor
open Go.Eng Go.Vx
set_option linter.unusedSimpArgs false
set_option linter.unusedVariables false
set_option maxRecDepth 100000
end Go.Proofs.YtpkfddfkacijoaaGreatDoor
