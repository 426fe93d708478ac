import Derived.Test.YtpkfddfkacijoaaGreatDoorVx
import Derived.Test.YtpkfddfkacijoaaGreatDoorFw
import Derived.Test.YtpkfddfkacijoaaGreatDoorNq
namespace Go.Proofs.YtpkfddfkacijoaaGreatDoor
open Go.Eng Go.Vx
set_option linter.unusedSimpArgs false
set_option linter.unusedVariables false
set_option maxRecDepth 100000
def outG {α : Type} (g : α) (L : List Bool) (d : Bool) (o : Option (α × Nat)) : α × Int × Nat × Bool := match o with | some (a, q) => (a, 0, q, d) | none => (g, 8, L.length, true)
theorem frac_div {A k : Nat} : (A % 2 ^ k = 0 ↔ (((A : Int) : Rat) / (((2 ^ k : Nat) : Int) : Rat)).num.natAbs % (((A : Int) : Rat) / (((2 ^ k : Nat) : Int) : Rat)).den = 0) ∧ (A % 2 ^ k = 0 → (((A : Int) : Rat) / (((2 ^ k : Nat) : Int) : Rat)).num.natAbs / (((A : Int) : Rat) / (((2 ^ k : Nat) : Int) : Rat)).den = A / 2 ^ k) := by
 have hB : 2 ^ k ≠ 0 := Nat.ne_of_gt (Nat.pow_pos (by decide))
 have h := rndX_frac (L := []) (A := A) (B := 2 ^ k) (p := 0) hB
 have hpos : 0 < (((A : Int) : Rat) / (((2 ^ k : Nat) : Int) : Rat)).den := Nat.pos_of_ne_zero (Rat.den_nz _)
 rw [rndX_run (Nat.zero_le _)] at h
 have he := rndD_end (L := []) (n := A) (k := k)
 rw [show ([] : List Bool).length = 0 from rfl] at he
 rw [he] at h
 generalize (((A : Int) : Rat) / (((2 ^ k : Nat) : Int) : Rat)).num.natAbs = n at *
 generalize (((A : Int) : Rat) / (((2 ^ k : Nat) : Int) : Rat)).den = d at *
 have hlt := Nat.mod_lt n hpos
 unfold rndX ratX at h
 rw [if_neg (by omega)] at h
 by_cases h1 : A % 2 ^ k = 0
 ·
  rw [if_pos h1] at h
  by_cases h2 : n % d = 0
  ·
   rw [if_pos h2] at h
   simp only [if_true, if_false, Nat.add_zero, Prod.mk.injEq] at h
   refine ⟨⟨fun _ => h2, fun _ => h1⟩, fun _ => ?_⟩
   exact Int.ofNat.inj h.1
  ·
   rw [if_neg h2, if_neg (by omega)] at h
   simp [ratR] at h
 ·
  rw [if_neg h1] at h
  by_cases h2 : n % d = 0
  ·
   rw [if_pos h2] at h
   simp at h
  ·
   exact ⟨⟨fun e => absurd e h1, fun e => absurd e h2⟩, fun e => absurd e h1⟩
theorem frac_RS {n K : Nat} (hn : n ≤ 1099511627776) (hK : K ≤ 1099511627776) : RS 100000 (((n : Int) : Rat) / ((K : Int) : Rat)) :=
 (RS_div (k := 1) (l := 1) (by decide) (RS_one (by omega) (by omega)) (RS_one (by omega) (by omega))).mono (by decide)
theorem dround_dead {L : List Bool} {n k p : Nat} (hL : L.length ≤ 1048576) (hn : n ≤ 1099511627776) (hk : k ≤ 40) : Fn1 Tryz.prog 117 [.ref 0 0 0 0, RV (((n : Int) : Rat) / (((2 ^ k : Nat) : Int) : Rat))] [some (tpC L p true)]
  (.tup [.lit (.int .i64 (if n % 2 ^ k = 0 then ((n / 2 ^ k : Nat) : Int) else 0)), .lit (.int .i64 (if n % 2 ^ k = 0 then 0 else 8))]) [some (tpC L p true)] := by
 have hB : 2 ^ k ≠ 0 := Nat.ne_of_gt (Nat.pow_pos (by decide))
 have hB2 : 2 ^ k ≤ 1099511627776 := Nat.le_trans (Nat.pow_le_pow_right (by decide) hk) (by decide)
 obtain ⟨b1, b2⟩ := frac_bounds hB hn
 obtain ⟨f1, f2⟩ := frac_div (A := n) (k := k)
 have hs := frac_RS hn hB2
 generalize ((n : Int) : Rat) / (((2 ^ k : Nat) : Int) : Rat) = x at *
 have hx := num_nonneg' (Rat.not_lt.1 b1)
 have hrs := rest_RS hs
 have hre := rest_eq hx
 have hpos : 0 < x.den := Nat.pos_of_ne_zero (Rat.den_nz _)
 have hlt := Nat.mod_lt x.num.natAbs hpos
 have hz : (x - ((x.floor : Int) : Rat)).num.natAbs = 0 ↔ x.num.natAbs % x.den = 0 := by
  rw [hre, mkRat_numG x.den_nz, sg_abs]
  constructor
  ·
   intro h
   have hd := Nat.gcd_dvd_left (x.num.natAbs % x.den) x.den
   have e := Nat.div_mul_cancel hd
   simp only [Int.natAbs_natCast] at h
   rw [h, Nat.zero_mul] at e
   exact e.symm
  ·
   intro h
   simp [h]
 have hy1 : (x - ((x.floor : Int) : Rat)).num.natAbs < (x - ((x.floor : Int) : Rat)).den := by
  rw [hre, mkRat_numG x.den_nz, mkRat_denG x.den_nz, sg_abs, Int.natAbs_natCast]
  have hg : 0 < Nat.gcd (x.num.natAbs % x.den) x.den := Nat.gcd_pos_of_pos_right _ hpos
  have e1 := Nat.div_mul_cancel (Nat.gcd_dvd_left (x.num.natAbs % x.den) x.den)
  have e2 := Nat.div_mul_cancel (Nat.gcd_dvd_right (x.num.natAbs % x.den) x.den)
  generalize Nat.gcd (x.num.natAbs % x.den) x.den = g at *
  refine Nat.lt_of_mul_lt_mul_right (a := g) ?_
  rw [e1, e2]
  exact hlt
 have hr := ratioD_fn (L := L) (P := (x - ((x.floor : Int) : Rat)).num.natAbs) (D := (x - ((x.floor : Int) : Rat)).den) (p := p) hL (by omega) (by omega) (Nat.le_trans hrs.1 (by decide)) (Nat.le_trans hrs.2 (by decide))
 have h := droundG_fn (L := L) (p := p) (p' := p) hs b1 b2 hr
 by_cases h1 : n % 2 ^ k = 0
 ·
  rw [if_pos h1, if_pos h1]
  have h2 := f1.1 h1
  rw [if_pos (hz.2 h2), if_pos rfl, f2 h1] at h
  exact h
 ·
  rw [if_neg h1, if_neg h1]
  have h2 := fun e => h1 (f1.2 e)
  rw [if_neg (fun e => h2 (hz.1 e)), if_neg (by decide)] at h
  exact h
def outN (L : List Bool) (d : Bool) (n k p : Nat) : Nat × Int × Nat × Bool := outG 0 L d ((rndD n k).run L p)
theorem dround_any {L : List Bool} {n k p : Nat} {d : Bool} (hL : L.length ≤ 1048576) (hp : p ≤ L.length) (hd : d = true → p = L.length) (hn : n ≤ 1099511627776) (hk : k ≤ 40) : Fn1 Tryz.prog 117 [.ref 0 0 0 0, RV (((n : Int) : Rat) / (((2 ^ k : Nat) : Int) : Rat))] [some (tpC L p d)]
  (.tup [.lit (.int .i64 ((outN L d n k p).1 : Int)), .lit (.int .i64 (outN L d n k p).2.1)]) [some (tpC L (outN L d n k p).2.2.1 (outN L d n k p).2.2.2)] := by
 unfold outN
 cases d with
 | true =>
  obtain rfl := hd rfl
  have h := dround_dead (L := L) (n := n) (k := k) (p := L.length) hL hn hk
  rw [rndD_end]
  by_cases h1 : n % 2 ^ k = 0
  ·
   rw [if_pos h1] at h ⊢
   rw [if_pos h1] at h
   exact h
  ·
   rw [if_neg h1] at h ⊢
   rw [if_neg h1] at h
   exact h
 | false =>
  have hB : 2 ^ k ≠ 0 := Nat.ne_of_gt (Nat.pow_pos (by decide))
  have hB2 : 2 ^ k ≤ 1099511627776 := Nat.le_trans (Nat.pow_le_pow_right (by decide) hk) (by decide)
  obtain ⟨b1, b2⟩ := frac_bounds hB hn
  have hs := frac_RS hn hB2
  have h := dround_fn (L := L) (p := p) hL hp hs b1 b2
  rw [rndX_frac hB, rndX_run hp] at h
  cases hr : (rndD n k).run L p with
  | none =>
   rw [hr] at h
   exact h
  | some x =>
   rw [hr] at h
   exact h
theorem sround_fn {L : List Bool} {n k p : Nat} {d : Bool} (hL : L.length ≤ 1048576) (hp : p ≤ L.length) (hd : d = true → p = L.length) (hn : n ≤ 1099511627776) (hk : k ≤ 40) : Fn1 Tryz.prog 92 [.ref 0 0 0 0, NV n, .lit (.int .i64 (k : Int))] [some (tpC L p d)]
  (.tup [.lit (.int .i64 ((outN L d n k p).1 : Int)), .lit (.int .i64 (outN L d n k p).2.1)]) [some (tpC L (outN L d n k p).2.2.1 (outN L d n k p).2.2.2)] := by
 have hB : 2 ^ k ≠ 0 := Nat.ne_of_gt (Nat.pow_pos (by decide))
 have hB2 : 2 ^ k ≤ 1099511627776 := Nat.le_trans (Nat.pow_le_pow_right (by decide) hk) (by decide)
 have o := of1_fn (x := 1) (by decide)
 have s := shl_fn (v := 1) (N := k) (by omega) (Nat.le_trans (wg_one (by decide)) (by decide))
 rw [Nat.one_mul] at s
 rw [show ((1 : Nat) : Int) = 1 from rfl] at o
 have r := dround_any hL hp hd hn hk
 generalize 2 ^ k = K at *
 have w1 := wmake_fn (b := false) (n := n) (Nat.le_trans (wg_one (by omega)) (by decide))
 have w2 := wmake_fn (b := false) (n := K) (Nat.le_trans (wg_one (by omega)) (by decide))
 have f := rfrac_fn (p := (n : Int)) (q := (K : Int)) (by omega) (Nat.le_trans (wg_one (by omega)) (by decide)) (Nat.le_trans (wg_one (by omega)) (by decide))
 rw [show sg false n = (n : Int) from rfl] at w1
 rw [show sg false K = (K : Int) from rfl] at w2
 generalize outN L d n k p = x at *
 generalize ((n : Int) : Rat) / ((K : Int) : Rat) = y at *
 refine fn1N_of pl92 (by kernel_rfl) Tryz.call92 Tryz.func92 rfl (by kernel_rfl) rfl [.tmp 6, .tmp 7] (by kernel_rfl) fun Q hQ => ?_
 refine runW ?_
 refine callW [] [2] (o) ?_
 refine runW ?_
 refine callV0 (s) rfl rfl ?_
 refine runW ?_
 refine callV0 (w1) rfl rfl ?_
 refine runW ?_
 refine callV0 (w2) rfl rfl ?_
 refine runW ?_
 refine callV0 (f) rfl rfl ?_
 refine runW ?_
 refine callW [some 0] [] (r) ?_
 refine runW ?_
 exact endW [some 0] hQ
end Go.Proofs.YtpkfddfkacijoaaGreatDoor
