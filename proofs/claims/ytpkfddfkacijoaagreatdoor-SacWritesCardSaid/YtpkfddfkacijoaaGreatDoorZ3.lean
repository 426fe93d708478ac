import Derived.Test.YtpkfddfkacijoaaGreatDoorVx
import Derived.Test.YtpkfddfkacijoaaGreatDoorFa
import Derived.Test.YtpkfddfkacijoaaGreatDoorNi
namespace Go.Proofs.YtpkfddfkacijoaaGreatDoor
open Go.Eng Go.Vx
set_option linter.unusedSimpArgs false
set_option linter.unusedVariables false
set_option maxRecDepth 100000
theorem chanceG_fn {x : Rat} {L : List Bool} {p p' : Nat} {d d' r1 : Bool} {r2 : Int} (hx : ¬ x.num < 0) (hs : RS 400000 x)
  (hr : Fn1 Tryz.prog 165 [.ref 0 0 0 0, NV x.num.natAbs, NV x.den] [some (tpC L p d)] (.tup [.lit (.bool r1), .lit (.int .i64 r2)]) [some (tpC L p' d')]) :
  Fn1 Tryz.prog 146 [.ref 0 0 0 0, RV x] [some (tpC L p d)] (.tup [.lit (.bool r1), .lit (.int .i64 r2)]) [some (tpC L p' d')] := by
 obtain ⟨hs1, hs2⟩ := hs
 have e : RV x = .agg [.row 1 ((nl (wg x.num.natAbs)).map (ie .u64)), .lit (.bool false), .row 1 ((nl (wg (x.den - 1))).map (ie .u64))] := by unfold RV; rw [decide_eq_false hx]
 have ew : WV x.num = .agg [.row 1 ((nl (wg x.num.natAbs)).map (ie .u64)), .lit (.bool false)] := by unfold WV; rw [decide_eq_false hx]
 have h1 := rnum_fn (x := x)
 have h2 := wneg_fn (z := x.num)
 have h3 := wabs_fn (z := x.num)
 have h4 := rden_fn (x := x) (by omega)
 rw [e] at h1 h4 ⊢
 rw [ew] at h1 h2 h3
 rw [decide_eq_false hx] at h2
 refine fn1N_of pl146 (by kernel_rfl) Tryz.call146 Tryz.func146 rfl (by kernel_rfl) rfl [.tmp 4, .tmp 5] (by kernel_rfl) fun Q hQ => ?_
 refine runW ?_
 refine callV0 (h1) rfl rfl ?_
 refine runW ?_
 refine callV0 (h2) rfl rfl ?_
 refine runW ?_
 refine callV0 (h1) rfl rfl ?_
 refine runW ?_
 refine callV0 (h3) rfl rfl ?_
 refine runW ?_
 refine callV0 (h4) rfl rfl ?_
 refine runW ?_
 refine callW [some 0] [] (hr) ?_
 refine runW ?_
 exact endW [some 0] hQ
end Go.Proofs.YtpkfddfkacijoaaGreatDoor

namespace Go.Proofs.YtpkfddfkacijoaaGreatDoor
open Go.Eng Go.Vx
set_option linter.unusedSimpArgs false
set_option linter.unusedVariables false
set_option maxRecDepth 100000
theorem ratR_scale {L : List Bool} {D g : Nat} (hg : 0 < g) : ∀ f r p, ratR L (g * D) f (g * r) p = ratR L D f r p
 | 0, _, _ => rfl
 | f + 1, r, p => by
  rw [ratR_succ, ratR_succ]
  have e1 : g * r + g * r = g * (r + r) := by rw [Nat.mul_add]
  have e2 : (g * D ≤ g * (r + r)) = (D ≤ r + r) := propext ⟨fun h => Nat.le_of_mul_le_mul_left h hg, fun h => Nat.mul_le_mul_left g h⟩
  have e3 : (if D ≤ r + r then g * (r + r) - g * D else g * (r + r)) = g * (if D ≤ r + r then r + r - D else r + r) := by
   split
   ·
    rw [Nat.mul_sub]
   ·
    rfl
  have e4 : ∀ z, (g * z ≠ 0) = (z ≠ 0) := fun z => propext ⟨fun h e => h (by rw [e, Nat.mul_zero]), fun h => Nat.mul_ne_zero (by omega) h⟩
  simp only [e1, e2, e3, e4, ratR_scale hg f]
theorem ratX_scale {L : List Bool} {P D g p : Nat} (hg : 0 < g) : ratX L (g * P) (g * D) p = ratX L P D p := by
 unfold ratX
 have e1 : (g * D = 0) = (D = 0) := propext ⟨fun h => (Nat.mul_eq_zero.1 h).resolve_left (by omega), fun h => by rw [h, Nat.mul_zero]⟩
 have e2 : (g * P = 0) = (P = 0) := propext ⟨fun h => (Nat.mul_eq_zero.1 h).resolve_left (by omega), fun h => by rw [h, Nat.mul_zero]⟩
 have e3 : (g * D < g * P) = (D < P) := propext ⟨fun h => Nat.lt_of_mul_lt_mul_left h, fun h => Nat.mul_lt_mul_of_pos_left h hg⟩
 have e4 : (g * P = g * D) = (P = D) := propext ⟨fun h => Nat.eq_of_mul_eq_mul_left hg h, fun h => by rw [h]⟩
 simp only [e1, e2, e3, e4, ratR_scale hg]
theorem ratX_mk {L : List Bool} {n d p : Nat} (hd : d ≠ 0) : ratX L (mkRat (n : Int) d).num.natAbs (mkRat (n : Int) d).den p = ratX L n d p := by
 rw [mkRat_numG hd, mkRat_denG hd, sg_abs, Int.natAbs_natCast]
 have hg : 0 < Nat.gcd n d := Nat.gcd_pos_of_pos_right _ (by omega)
 have h := ratX_scale (L := L) (P := n / Nat.gcd n d) (D := d / Nat.gcd n d) (p := p) hg
 rw [Nat.mul_div_cancel' (Nat.gcd_dvd_left n d), Nat.mul_div_cancel' (Nat.gcd_dvd_right n d)] at h
 exact h.symm
theorem mk_nonneg {n d : Nat} (hd : d ≠ 0) : ¬ (mkRat (n : Int) d).num < 0 := by
 rw [mkRat_numG hd, decide_eq_false (show ¬ (n : Int) < 0 by omega)]
 exact Int.not_lt.2 (Int.natCast_nonneg _)
theorem rest_eq {x : Rat} (hx : ¬ x.num < 0) : x - ((x.floor : Int) : Rat) = mkRat ((x.num.natAbs % x.den : Nat) : Int) x.den := by
 rw [Rat.sub_def', Rat.num_intCast, Rat.den_intCast, Rat.floor_def, Nat.mul_one]
 congr 1
 have h := Int.mul_ediv_add_emod x.num x.den
 have e : ((x.num.natAbs % x.den : Nat) : Int) = x.num % x.den := by
  rw [Int.natCast_emod]; congr 1; omega
 rw [e, Int.natCast_one, Int.mul_one, Int.mul_comm]
 omega
theorem floor_nat {x : Rat} (hx : ¬ x.num < 0) : x.floor = ((x.num.natAbs / x.den : Nat) : Int) := by
 rw [Rat.floor_def, Int.natCast_ediv]; congr 1; omega
def rndX (L : List Bool) (n d p : Nat) : Int × Int × Nat × Bool :=
 let r := ratX L (n % d) d p
 (if r.2.1 = 0 then ((n / d + (if r.1 then 1 else 0) : Nat) : Int) else 0, r.2.1, r.2.2.1, r.2.2.2)
theorem cmpQ_neg {x y : Rat} : cmpQ x y < 0 ↔ x < y := by
 unfold cmpQ
 split
 ·
  rename_i h; simp [h]
 ·
  rename_i h; split <;> simp [h]
theorem cmpQ_pos {x y : Rat} : 0 < cmpQ x y ↔ y < x := by
 unfold cmpQ
 split
 ·
  rename_i h
  have := Rat.not_lt.2 (Rat.le_of_lt h)
  simp [this]
 ·
  rename_i h; split <;> simp [*]
theorem num_nonneg' {x : Rat} (h : 0 ≤ x) : ¬ x.num < 0 := by have := Rat.num_nonneg.2 h; omega
theorem droundG_fn {x : Rat} {L : List Bool} {p p' : Nat} {d d' r1 : Bool} {r2 : Int} (hs : RS 100000 x) (h1 : ¬ x < 0) (h2 : ¬ ((1099511627776 : Int) : Rat) < x)
  (hch : Fn1 Tryz.prog 165 [.ref 0 0 0 0, NV (x - ((x.floor : Int) : Rat)).num.natAbs, NV (x - ((x.floor : Int) : Rat)).den] [some (tpC L p d)] (.tup [.lit (.bool r1), .lit (.int .i64 r2)]) [some (tpC L p' d')]) :
  Fn1 Tryz.prog 117 [.ref 0 0 0 0, RV x] [some (tpC L p d)]
  (.tup [.lit (.int .i64 (if r2 = 0 then ((x.num.natAbs / x.den + (if r1 then 1 else 0) : Nat) : Int) else 0)), .lit (.int .i64 r2)]) [some (tpC L p' d')] := by
 have h0 := rof_fn (n := 0) (by decide) (by decide)
 have hM := rof_fn (n := 1099511627776) (by decide) (by decide)
 have s0 : RS 400000 ((0 : Int) : Rat) := RS_int (Nat.le_trans (wg_one (by decide)) (by decide)) (by decide)
 have sM : RS 400000 ((1099511627776 : Int) : Rat) := RS_int (Nat.le_trans (wg_one (by decide)) (by decide)) (by decide)
 have c0 := rcmp_fn (hs.mono (by decide)) s0
 have cM := rcmp_fn (hs.mono (by decide)) sM
 have e0 := cmpQ_neg (x := x) (y := ((0 : Int) : Rat))
 have eM := cmpQ_pos (x := x) (y := ((1099511627776 : Int) : Rat))
 have hfl : x.floor ≤ 1099511627776 := by
  have := Rat.floor_monotone (Rat.not_lt.1 h2)
  rwa [Rat.floor_intCast] at this
 rw [show ((0 : Int) : Rat) = 0 from rfl] at h0 s0 c0 e0
 rw [RV_zero] at h0 c0
 have hd := decide_eq_false (fun e => h1 (e0.1 e))
 have hd2 := decide_eq_false (fun e => h2 (eM.1 e))
 generalize ((1099511627776 : Int) : Rat) = M at *
 have hn : ¬ x.num < 0 := num_nonneg' (Rat.not_lt.1 h1)
 have hfn := floor_nat hn
 have hre := rest_eq hn
 have hf := rfloor_fn (x := x) (hs.mono (by decide))
 have hab := wabs_fn (z := x.floor)
 have hfl2 : x.floor.natAbs = x.num.natAbs / x.den := by rw [hfn]; rfl
 have hfl3 : (wg (x.num.natAbs / x.den)).length ≤ 1 := wg_one (by omega)
 have hna := rnat_fn (n := x.num.natAbs / x.den) (by omega)
 rw [← hfn] at hna
 have hsf : RS 1 ((x.floor : Int) : Rat) := RS_int (by rw [hfl2]; exact hfl3) (by decide)
 have hsb := rsub_fn (hs.mono (show 100000 ≤ 400000 by decide)) (hsf.mono (show 1 ≤ 400000 by decide))
 have hrs := RS_sub hs hsf
 have hch := chanceG_fn (x := x - ((x.floor : Int) : Rat)) (by rw [hre]; exact mk_nonneg x.den_nz) (hrs.mono (by decide)) hch
 have hin := nint_fn (n := x.num.natAbs / x.den) (M := 1099511627776) (m := 1099511627776) (by omega) (by omega) (by omega)
 rw [show min (x.num.natAbs / x.den) 1099511627776 = x.num.natAbs / x.den by omega] at hin
 rw [hfl2] at hab
 generalize x - ((x.floor : Int) : Rat) = y at *
 have hfi : x.num.natAbs / x.den ≤ 1099511627776 := by omega
 generalize x.num.natAbs / x.den = fl at *
 refine fn1N_of pl117 (by kernel_rfl) Tryz.call117 Tryz.func117 rfl (by kernel_rfl) rfl [.tmp 4, .tmp 5] (by kernel_rfl) fun Q hQ => ?_
 refine runW ?_
 refine callV0 (h0) rfl rfl ?_
 refine runW ?_
 refine callV0 (c0) rfl rfl ?_
 simp (maxSteps := 1000000) (disch := (first | omega | (simp only [lnA, List.length_map, List.length_range, true_and, and_true]; (try omega); done) | fail)) only [go_sem, hd, Int.reduceEq, Int.reduceToNat, Nat.reduceAdd, Nat.reduceMul, Nat.reduceEqDiff, ↓reduceIte]
 refine callV0 (hM) rfl rfl ?_
 refine runW ?_
 refine callV0 (cM) rfl rfl ?_
 simp (maxSteps := 1000000) (disch := (first | omega | (simp only [lnA, List.length_map, List.length_range, true_and, and_true]; (try omega); done) | fail)) only [go_sem, hd2, Int.reduceEq, Int.reduceToNat, Nat.reduceAdd, Nat.reduceMul, Nat.reduceEqDiff, ↓reduceIte]
 refine callV0 (hf) rfl rfl ?_
 refine runW ?_
 refine callV0 (hab) rfl rfl ?_
 refine runW ?_
 refine callV0 (hna) rfl rfl ?_
 refine runW ?_
 refine callV0 (hsb) rfl rfl ?_
 refine runW ?_
 refine callW [some 0] [] (hch) ?_
 by_cases hr : r2 = 0
 ·
  rw [if_pos hr] at hQ
  subst hr
  cases r1
  ·
   refine runW ?_
   refine callV0 (hin) rfl rfl ?_
   refine runW ?_
   exact endW [some 0] hQ
  ·
   refine runW ?_
   refine callV0 (hin) rfl rfl ?_
   refine runW ?_
   exact endW [some 0] hQ
 ·
  rw [if_neg hr] at hQ
  refine runW ?_
  exact endW [some 0] hQ
theorem rest_rat {x : Rat} {L : List Bool} {p : Nat} (hn : ¬ x.num < 0) : ratX L (x - ((x.floor : Int) : Rat)).num.natAbs (x - ((x.floor : Int) : Rat)).den p = ratX L (x.num.natAbs % x.den) x.den p := by
 rw [rest_eq hn, ratX_mk x.den_nz]
theorem rest_RS {x : Rat} (hs : RS 100000 x) : RS 200002 (x - ((x.floor : Int) : Rat)) := by
 have hf : RS 100001 ((x.floor : Int) : Rat) := RS_int (by
  rw [Rat.floor_def]
  have h1 := Int.natAbs_ediv_le_natAbs x.num (x.den : Int)
  exact Nat.le_trans (wg_mono h1) (by have := hs.1; omega)) (by decide)
 exact (RS_sub hs hf).mono (by decide)
theorem dround_fn {x : Rat} {L : List Bool} {p : Nat} (hL : L.length ≤ 1048576) (hp : p ≤ L.length) (hs : RS 100000 x) (h1 : ¬ x < 0) (h2 : ¬ ((1099511627776 : Int) : Rat) < x) : Fn1 Tryz.prog 117 [.ref 0 0 0 0, RV x] [some (tpC L p false)]
  (.tup [.lit (.int .i64 (rndX L x.num.natAbs x.den p).1), .lit (.int .i64 (rndX L x.num.natAbs x.den p).2.1)]) [some (tpC L (rndX L x.num.natAbs x.den p).2.2.1 (rndX L x.num.natAbs x.den p).2.2.2)] := by
 have hrs := rest_RS hs
 have hr := ratio_fn (L := L) (P := (x - ((x.floor : Int) : Rat)).num.natAbs) (D := (x - ((x.floor : Int) : Rat)).den) (p := p) hL hp (Nat.le_trans hrs.1 (by decide)) (Nat.le_trans hrs.2 (by decide))
 rw [rest_rat (num_nonneg' (Rat.not_lt.1 h1))] at hr
 exact droundG_fn hs h1 h2 hr
end Go.Proofs.YtpkfddfkacijoaaGreatDoor
