import Derived.Test.YtpkfddfkacijoaaGreatDoorE7
import Derived.Test.YtpkfddfkacijoaaGreatDoorE8
import Derived.Test.YtpkfddfkacijoaaGreatDoorFw
import Derived.Test.YtpkfddfkacijoaaGreatDoorRb
import Derived.Test.YtpkfddfkacijoaaGreatDoorD3
import Derived.Test.YtpkfddfkacijoaaGreatDoorN1
import Derived.Test.YtpkfddfkacijoaaGreatDoorSf
import Derived.Test.YtpkfddfkacijoaaGreatDoorNi
import Derived.Test.YtpkfddfkacijoaaGreatDoorFa
namespace Go.Proofs.YtpkfddfkacijoaaGreatDoor
open Go.Eng
set_option linter.unusedSimpArgs false
set_option linter.unusedVariables false
theorem cut_take {L : List Bool} (p w : Nat) : L.drop p = (L.drop p).take w ++ L.drop (p + w) := by
 rw [← List.drop_drop, List.take_append_drop]
theorem numBits_of {L : List Bool} {p w : Nat} (h : p + w ≤ L.length) : numBits (numOf ((L.drop p).take w)) w = (L.drop p).take w := by
 have hl : ((L.drop p).take w).length = w := by simp; omega
 have := numBits_numOf ((L.drop p).take w)
 rw [hl] at this
 exact this
end Go.Proofs.YtpkfddfkacijoaaGreatDoor

namespace Go.Proofs.YtpkfddfkacijoaaGreatDoor
open Go.Eng Go.Vx
set_option linter.unusedSimpArgs false
set_option linter.unusedVariables false
set_option maxRecDepth 100000
def rndN (L : List Bool) (n d p : Nat) : Nat × Int × Nat × Bool :=
 (if (ratX L (n % d) d p).2.1 = 0 then n / d + (if (ratX L (n % d) d p).1 then 1 else 0) else 0, (ratX L (n % d) d p).2.1, (ratX L (n % d) d p).2.2.1, (ratX L (n % d) d p).2.2.2)
theorem rndX_N (L : List Bool) (n d p : Nat) : rndX L n d p = (((rndN L n d p).1 : Int), (rndN L n d p).2) := by
 unfold rndX rndN
 simp only
 split <;> simp
theorem ratX_ge {L : List Bool} {P D p : Nat} (hp : p ≤ L.length) : p ≤ (ratX L P D p).2.2.1 := by
 rcases okR_rat (L := L) (P := P) (D := D) hp with e | ⟨b, e, q, h, _, h2, _⟩
 ·
  rw [e]; exact hp
 ·
  rw [h]; exact h2
theorem refRound_fn {L : List Bool} {p P D : Nat} (hD : D ≠ 0) (hD2 : D ≤ 4294967296) (hP : P ≤ 1099511627776) (hp : p ≤ L.length) (hL : L.length ≤ 1048576) : Fn1 Tryz.prog 130 [.row 1 (L.map be), .lit (.int .i64 (p : Int)), .lit (.int .i64 (P : Int)), .lit (.int .i64 (D : Int))] []
  (outV (rndN L P D p).1 ((rndN L P D p).2.2.1 - p) (rndN L P D p).2.1) [] := by
 have hm : (P : Int) % (D : Int) = ((P % D : Nat) : Int) := rfl
 have hq : (P : Int) / (D : Int) = ((P / D : Nat) : Int) := rfl
 have hml := Nat.mod_lt P (show 0 < D by omega)
 have hql := Nat.div_le_self P D
 have hr := refRatio_fn (L := L) (p := p) (P := P % D) (D := D) hD (by omega) hD2 hp hL
 have hge := ratX_ge (L := L) (P := P % D) (D := D) hp
 refine fn1N_of pl130 (by kernel_rfl) Tryz.call130 Tryz.func130 rfl (by kernel_rfl) rfl [.cell 8 156] (by kernel_rfl) fun Q hQ => ?_
 unfold rndN at hQ
 generalize ratX L (P % D) D p = r at *
 obtain ⟨r1, r2, r3, r4⟩ := r
 simp only at hge hr hQ
 generalize P / D = n at *
 dsimp only [out10] at hr
 rw [show (r3 : Int) - (p : Int) = ((r3 - p : Nat) : Int) by omega] at hr
 simp (maxSteps := 1000000) (disch := (first | omega | (simp only [lnA, List.length_map, List.length_range, true_and, and_true]; (try omega); done) | fail)) only [go_sem, hm, Int.reduceEq, Int.reduceToNat, Nat.reduceAdd, Nat.reduceMul, Nat.reduceEqDiff, ↓reduceIte]
 refine callV0 (hr) rfl rfl ?_
 by_cases h2 : r2 = 0
 ·
  rw [if_pos h2] at hQ
  subst h2
  cases r1
  ·
   simp (maxSteps := 1000000) (disch := (first | omega | (simp only [lnA, List.length_map, List.length_range, true_and, and_true]; (try omega); done) | fail)) only [go_sem, hq, Int.reduceEq, Int.reduceToNat, Nat.reduceAdd, Nat.reduceMul, Nat.reduceEqDiff, ↓reduceIte]
   exact endW [] hQ
  ·
   simp (maxSteps := 1000000) (disch := (first | omega | (simp only [lnA, List.length_map, List.length_range, true_and, and_true]; (try omega); done) | fail)) only [go_sem, hq, Int.reduceEq, Int.reduceToNat, Nat.reduceAdd, Nat.reduceMul, Nat.reduceEqDiff, ↓reduceIte]
   exact endW [] hQ
 ·
  rw [if_neg h2] at hQ
  refine runW ?_
  exact endW [] hQ
def okN (L : List Bool) (p : Nat) (r : Nat × Int × Nat × Bool) : Prop := r = (0, 8, L.length, true) ∨ ∃ n e q, r = (n, e, q, false) ∧ e ≠ 8 ∧ p ≤ q ∧ q ≤ L.length
end Go.Proofs.YtpkfddfkacijoaaGreatDoor

namespace Go.Proofs.YtpkfddfkacijoaaGreatDoor
open Go.Eng Go.Vx
set_option linter.unusedSimpArgs false
set_option linter.unusedVariables false
set_option maxRecDepth 100000
theorem cmpI_gt {a b : Nat} (h : b < a) : cmpI a b = 1 := by unfold cmpI; rw [if_neg (by omega), if_pos h]
end Go.Proofs.YtpkfddfkacijoaaGreatDoor

namespace Go.Proofs.YtpkfddfkacijoaaGreatDoor
set_option linter.unusedSimpArgs false
set_option linter.unusedVariables false
structure PW (P : SP) : Prop extends PB P where
 m255 : P.m ≤ 255
 d3 : P.d ≤ 3
 s4 : P.s ≤ 4
theorem wth_le {c : Cell} {s A : Nat} (hc : c.1 ≤ A) (hm : c.2 ≤ 3) (hs : s ≤ 4) : wth c s ≤ A * 4096 := by
 unfold wth
 have h1 : s * c.2 ≤ 4 * 3 := Nat.mul_le_mul hs hm
 have h2 : 2 ^ (s * c.2) ≤ 2 ^ 12 := Nat.pow_le_pow_right (by decide) (by omega)
 exact Nat.mul_le_mul hc h2
theorem mode_le {P : SP} {v s : Nat} : modeOf P v s P.d 0 ≤ P.d := (modeOf_spec (P := P) (v := v) (s := s) (f := P.d) (m := 0) (by omega)).1
theorem sm_le {s m : Nat} (hs : s ≤ 4) (hm : m ≤ 3) : s * m ≤ 12 := by
 have := Nat.mul_le_mul hs hm
 omega
theorem rnd_le {L : List Bool} {n k p a q : Nat} (h : (rndD n k).run L p = some (a, q)) : a ≤ n / 2 ^ k + 1 ∧ a ≤ n + 1 := by
 have h1 := all_run (rndD_all n k) h
 have := Nat.div_le_self n (2 ^ k)
 omega
theorem run_map {α β : Type} {L : List Bool} {f : α → β} {t : DT α} {p : Nat} : (t.bind fun r => DT.ret (f r)).run L p = (t.run L p).map (fun x => (f x.1, x.2)) := by
 rw [run_bind]
 cases t.run L p with
 | none => rfl
 | some x => rfl
theorem scD_run {P : SP} {L : List Bool} {v s p : Nat} : (scD P v s).run L p = ((rndD v (s * modeOf P v s P.d 0)).run L p).map (fun r => ((r.1, modeOf P v s P.d 0), r.2)) := run_map
theorem upD_run {L : List Bool} {c : Cell} {s p : Nat} : (upD c s).run L p = ((rndD c.1 s).run L p).map (fun r => ((r.1, c.2 + 1), r.2)) := run_map
theorem reD_run {P : SP} {L : List Bool} {c : Cell} {w p : Nat} : (reD P w c).run L p = match (scD P (wth c w) (w + 1)).run L p with | some (c1, q) => if P.m < c1.1 then (upD c1 (w + 1)).run L q else some (c1, q) | none => none := by
 unfold reD
 rw [run_bind]
 cases (scD P (wth c w) (w + 1)).run L p with
 | none => rfl
 | some x =>
  obtain ⟨c1, q⟩ := x
  show (if P.m < c1.1 then upD c1 (w + 1) else .ret c1).run L q = if P.m < c1.1 then (upD c1 (w + 1)).run L q else some (c1, q)
  split <;> rfl
theorem rsD_own {P : SP} {L : List Bool} {w k p : Nat} {i : Int} {c own : Cell} {cs : List Cell} (hk : (k : Int) = i) : (rsD P w i (c :: cs) k own).run L p = match (scD P (wth own w) (w + 1)).run L p with | some (o, q) => ((rsD P w i cs (k + 1) o).run L q).map (fun r => ((c :: r.1.1, r.1.2), r.2)) | none => none := by
 rw [rsD.eq_2, if_pos hk, run_bind]
 cases (scD P (wth own w) (w + 1)).run L p with
 | none => rfl
 | some x => exact run_map
theorem rsD_other {P : SP} {L : List Bool} {w k p : Nat} {i : Int} {c own : Cell} {cs : List Cell} (hk : ¬ (k : Int) = i) : (rsD P w i (c :: cs) k own).run L p = match (reD P w c).run L p with | some (c1, q) => ((rsD P w i cs (k + 1) own).run L q).map (fun r => ((putS c1 :: r.1.1, r.1.2), r.2)) | none => none := by
 rw [rsD.eq_2, if_neg hk, run_bind]
 cases (reD P w c).run L p with
 | none => rfl
 | some x => exact run_map
theorem dead_next {α : Type} {L : List Bool} {t : DT α} {d : Bool} {p q : Nat} {a : α} (hp : p ≤ L.length) (hd : d = true → p = L.length) (h : t.run L p = some (a, q)) : q ≤ L.length ∧ (d = true → q = L.length) := by
 have := run_le hp h
 refine ⟨this.2, fun e => ?_⟩
 have := hd e
 omega
end Go.Proofs.YtpkfddfkacijoaaGreatDoor

namespace Go.Proofs.YtpkfddfkacijoaaGreatDoor
open Go.Eng
set_option linter.unusedSimpArgs false
set_option linter.unusedVariables false
theorem log_ok : ∀ b : Fin 65, 1 ≤ b.val → 2 ^ b.val ≤ 10 ^ (b.val * 78913 / 262144 + 1) ∧ (b.val * 78913 / 262144 = 0 ∨ 10 ^ (b.val * 78913 / 262144 - 1) ≤ 2 ^ (b.val - 1)) ∧ b.val * 78913 / 262144 < 20 := by decide +kernel
theorem nd10_log {d : Nat} (h0 : d ≠ 0) (h : d < 18446744073709551616) : nd10 d = bl d * 78913 / 262144 + (if 10 ^ (bl d * 78913 / 262144) ≤ d then 1 else 0) ∧ bl d * 78913 / 262144 < 20 := by
 have h1 := bl_lt d
 have h2 := bl_le (n := d) h0
 have h3 := bl_le_of (n := d) (k := 64) (by omega)
 have h4 : 1 ≤ bl d := by
  rcases Nat.eq_zero_or_pos (bl d) with e | e
  ·
   rw [e] at h1; simp at h1; omega
  ·
   exact e
 obtain ⟨k1, k2, k3⟩ := log_ok ⟨bl d, by omega⟩ h4
 simp only at k1 k2 k3
 refine ⟨?_, k3⟩
 generalize bl d * 78913 / 262144 = k at *
 by_cases hc : 10 ^ k ≤ d
 ·
  rw [if_pos hc]
  exact nd10_eq (by omega) (Nat.lt_of_lt_of_le h1 k1) (.inl (by rw [Nat.add_sub_cancel]; exact hc))
 ·
  rw [if_neg hc, Nat.add_zero]
  have hk : k ≠ 0 := fun e => by subst e; simp at hc; omega
  exact nd10_eq (by omega) (by omega) (.inl (Nat.le_trans (k2.resolve_left hk) h2))
end Go.Proofs.YtpkfddfkacijoaaGreatDoor

namespace Go.Proofs.YtpkfddfkacijoaaGreatDoor
open Go.Eng Go.Vx
set_option linter.unusedSimpArgs false
set_option linter.unusedVariables false
set_option maxRecDepth 100000
theorem log10_fn {x : Nat} (hx : x ≤ 64) : Fn1 Tryz.prog 167 [.lit (.int .i64 (x : Int))] [] (.lit (.int .i64 ((x * 78913 / 262144 : Nat) : Int))) [] := by
 refine fn1N_of pl167 (by kernel_rfl) Tryz.call167 Tryz.func167 rfl (by kernel_rfl) rfl [.tmp 2] (by kernel_rfl) fun Q hQ => ?_
 refine runW ?_
 exact endW [] hQ
theorem bool2_fn {b : Bool} : Fn1 Tryz.prog 168 [.lit (.bool b)] [] (.lit (.int .i64 (if b then 1 else 0))) [] := by
 refine fn1N_of pl168 (by kernel_rfl) Tryz.call168 Tryz.func168 rfl (by kernel_rfl) rfl [.tmp 2] (by kernel_rfl) fun Q hQ => ?_
 cases b
 ·
  refine runW ?_
  exact endW [] hQ
 ·
  refine runW ?_
  exact endW [] hQ
theorem numDigits_fn {d : Nat} (h0 : d ≠ 0) (h : d < 18446744073709551616) : Fn1 Tryz.prog 151 [.lit (.int .u64 (d : Int))] [] (.lit (.int .i64 (nd10 d : Int))) [] := by
 refine fn1N_of pl151 (by kernel_rfl) Tryz.call151 Tryz.func151 rfl (by kernel_rfl) rfl [.tmp 2] (by kernel_rfl) fun Q hQ => ?_
 obtain ⟨h1, h2⟩ := nd10_log h0 h
 have hb := bl_le_of (n := d) (k := 64) (by omega)
 have hl := log10_fn hb
 rw [h1] at hQ
 generalize bl d * 78913 / 262144 = k at *
 have hidx := fun (F : Bool → V → Prop) => idxV_lay (P := Tryz.prog) (t := 232) (len := 20) (et := 50) (m := k) (kd := .i64) (F := F) (g := 2) (by kernel_rfl) h2
 have hag : agOf Tryz.prog 50 = some none := by kernel_rfl
 refine runW ?_
 refine callV0 (len64_fn h) rfl rfl ?_
 refine runW ?_
 refine callV0 (hl) rfl rfl ?_
 simp (maxSteps := 1000000) (disch := (first | omega | (simp only [lnA, List.length_map, List.length_range, true_and, and_true]; (try omega); done) | fail)) only [go_sem, hidx, ldV_of hag, layK_pow h2, Int.reduceEq, Int.reduceToNat, Nat.reduceAdd, Nat.reduceMul, Nat.reduceEqDiff, ↓reduceIte]
 by_cases hc : 10 ^ k ≤ d
 ·
  rw [if_pos hc] at hQ
  have hd : decide (((10 ^ k : Nat) : Int) ≤ (d : Int)) = true := decide_eq_true (by omega)
  simp (maxSteps := 1000000) (disch := (first | omega | (simp only [lnA, List.length_map, List.length_range, true_and, and_true]; (try omega); done) | fail)) only [go_sem, hd, Int.reduceEq, Int.reduceToNat, Nat.reduceAdd, Nat.reduceMul, Nat.reduceEqDiff, ↓reduceIte]
  refine callV0 (bool2_fn (b := true)) rfl rfl ?_
  refine runW ?_
  exact endW [] hQ
 ·
  rw [if_neg hc] at hQ
  have hd : decide (((10 ^ k : Nat) : Int) ≤ (d : Int)) = false := decide_eq_false (by omega)
  simp (maxSteps := 1000000) (disch := (first | omega | (simp only [lnA, List.length_map, List.length_range, true_and, and_true]; (try omega); done) | fail)) only [go_sem, hd, Int.reduceEq, Int.reduceToNat, Nat.reduceAdd, Nat.reduceMul, Nat.reduceEqDiff, ↓reduceIte]
  refine callV0 (bool2_fn (b := false)) rfl rfl ?_
  refine runW ?_
  exact endW [] hQ
end Go.Proofs.YtpkfddfkacijoaaGreatDoor
