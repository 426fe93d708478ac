import Derived.Test.YtdohmppildfjhaaGreatDoorZ1
namespace Go.Proofs.YtdohmppildfjhaaGreatDoor
open Go.Eng Go.Vx
set_option linter.unusedSimpArgs false
set_option linter.unusedVariables false
set_option maxRecDepth 100000
def RV (x : Rat) : V := .agg [.row 1 ((nl (wg x.num.natAbs)).map (ie .u64)), .lit (.bool (decide (x.num < 0))), .row 1 ((nl (wg (x.den - 1))).map (ie .u64))]
attribute [go_sem] RV
def RS (k : Nat) (x : Rat) : Prop := (wg x.num.natAbs).length ≤ k ∧ (wg x.den).length ≤ k
theorem RS.mono {k l : Nat} {x : Rat} (h : RS k x) (hk : k ≤ l) : RS l x := ⟨Nat.le_trans h.1 hk, Nat.le_trans h.2 hk⟩
theorem sg_div {b : Bool} {X g : Nat} (hg : g ≠ 0) (hd : X % g = 0) : sg b X / (g : Int) = sg b (X / g) := by
 cases b
 ·
  exact (ediv_pos hg).1
 ·
  exact (ediv_neg0 hg hd).1
theorem mkRat_numG {n : Int} {d : Nat} (hd : d ≠ 0) : (mkRat n d).num = sg (decide (n < 0)) (n.natAbs / Nat.gcd n.natAbs d) := by
 have hg : Nat.gcd n.natAbs d ≠ 0 := fun e => hd (Nat.gcd_eq_zero_iff.1 e).2
 rw [Rat.num_mkRat, if_neg hd, Nat.gcd_comm]
 have h := sg_div (b := decide (n < 0)) hg (Nat.mod_eq_zero_of_dvd (Nat.gcd_dvd_left n.natAbs d))
 rwa [sg_self] at h
theorem mkRat_denG {n : Int} {d : Nat} (hd : d ≠ 0) : (mkRat n d).den = d / Nat.gcd n.natAbs d := by
 rw [Rat.den_mkRat, if_neg hd, Nat.gcd_comm]
theorem RS_mk {n : Int} {d k : Nat} (hd : d ≠ 0) (h1 : (wg n.natAbs).length ≤ k) (h2 : (wg d).length ≤ k) : RS k (mkRat n d) := by
 constructor
 ·
  rw [mkRat_numG hd, sg_abs]
  exact Nat.le_trans (wg_mono (Nat.div_le_self _ _)) h1
 ·
  rw [mkRat_denG hd]
  exact Nat.le_trans (wg_mono (Nat.div_le_self _ _)) h2
theorem rmade_fn {n : Int} {d : Nat} (hd : d ≠ 0) (h1 : (wg n.natAbs).length ≤ 1000000) (h2 : (wg d).length ≤ 1000000) : Fn1 Tryz.prog 40 [WV n, NV d] [] (RV (mkRat n d)) [] := by
 have hg : Nat.gcd n.natAbs d ≠ 0 := fun e => hd (Nat.gcd_eq_zero_iff.1 e).2
 have hgl : (wg (Nat.gcd n.natAbs d)).length ≤ 1000000 := Nat.le_trans (wg_mono (Nat.gcd_le_right _ (by omega))) h2
 have hgd := Nat.gcd_le_right n.natAbs (show 0 < d by omega)
 have hgc := ngcd_fn (a := n.natAbs) (b := d) h1 h2
 have hq : 1 ≤ d / Nat.gcd n.natAbs d := (Nat.one_le_div_iff (by omega)).2 hgd
 have ho := of1_fn (x := 1) (by decide)
 have hab := ndiv_fn (a := n.natAbs) (b := Nat.gcd n.natAbs d) hg h1 hgl
 have hbe := ndiv_fn (a := d) (b := Nat.gcd n.natAbs d) hg h2 hgl
 have hal : (wg (n.natAbs / Nat.gcd n.natAbs d)).length ≤ 1000000 := Nat.le_trans (wg_mono (Nat.div_le_self _ _)) h1
 have hbl : (wg (d / Nat.gcd n.natAbs d)).length ≤ 1000000 := Nat.le_trans (wg_mono (Nat.div_le_self _ _)) h2
 refine fn1N_of pl40 (by kernel_rfl) Tryz.call40 Tryz.func40 rfl (by kernel_rfl) rfl [.cell 4 35] (by kernel_rfl) fun Q hQ => ?_
 unfold RV at hQ
 rw [mkRat_numG hd, mkRat_denG hd] at hQ
 generalize Nat.gcd n.natAbs d = g at *
 generalize n.natAbs / g = a at *
 generalize d / g = b at *
 generalize n.natAbs % g = ra at *
 generalize d % g = rb at *
 have hm := wmake_fn (b := decide (n < 0)) (n := a) (by omega)
 have hsub := nsub_fn (a := b) (b := 1) hq (by omega)
 refine runW ?_
 refine callV0 (wabs_fn (z := n)) rfl rfl ?_
 refine runW ?_
 refine callV0 (hgc) rfl rfl ?_
 refine runW ?_
 refine callV0 (wabs_fn (z := n)) rfl rfl ?_
 refine runW ?_
 refine callV0 (hab) rfl rfl ?_
 refine runW ?_
 refine callV0 (hbe) rfl rfl ?_
 refine runW ?_
 refine callW [] [8] (ho) ?_
 refine runW ?_
 refine callV0 (hsub) rfl rfl ?_
 refine runW ?_
 refine callV0 (wneg_fn (z := n)) rfl rfl ?_
 refine runW ?_
 refine callV0 (hm) rfl rfl ?_
 refine runW ?_
 exact endW [] hQ
theorem RV_int (z : Int) : RV (z : Rat) = .agg [.row 1 ((nl (wg z.natAbs)).map (ie .u64)), .lit (.bool (decide (z < 0))), .row 1 []] := by
 unfold RV
 rw [Rat.num_intCast, Rat.den_intCast, show 1 - 1 = 0 from rfl, wg_zero]
 rfl
theorem rof_fn {n : Int} (h0 : -9223372036854775808 ≤ n) (h1 : n ≤ 9223372036854775807) : Fn1 Tryz.prog 12 [.lit (.int .i64 n)] [] (RV (n : Rat)) [] := by
 rw [RV_int]
 refine fn1N_of pl12 (by kernel_rfl) Tryz.call12 Tryz.func12 rfl (by kernel_rfl) rfl [.cell 2 35] (by kernel_rfl) fun Q hQ => ?_
 refine runW ?_
 refine callV0 (wof_fn h0 h1) rfl rfl ?_
 refine runW ?_
 exact endW [] hQ
theorem rnat_fn {n : Nat} (hn : (wg n).length ≤ 4000000) : Fn1 Tryz.prog 90 [NV n] [] (RV ((n : Int) : Rat)) [] := by
 have hm := wmake_fn (b := false) (n := n) hn
 rw [show sg false n = (n : Int) from rfl] at hm
 rw [RV_int]
 refine fn1N_of pl90 (by kernel_rfl) Tryz.call90 Tryz.func90 rfl (by kernel_rfl) rfl [.cell 2 35] (by kernel_rfl) fun Q hQ => ?_
 refine runW ?_
 refine callV0 (hm) rfl rfl ?_
 refine runW ?_
 exact endW [] hQ
theorem rnum_fn {x : Rat} : Fn1 Tryz.prog 45 [RV x] [] (WV x.num) [] := by
 refine fn1N_of pl45 (by kernel_rfl) Tryz.call45 Tryz.func45 rfl (by kernel_rfl) rfl [.cell 2 33] (by kernel_rfl) fun Q hQ => ?_
 refine runW ?_
 exact endW [] hQ
theorem rden_fn {x : Rat} (h : (wg x.den).length ≤ 1999999) : Fn1 Tryz.prog 43 [RV x] [] (NV x.den) [] := by
 have ho := of1_fn (x := 1) (by decide)
 have hd := x.den_nz
 have hl : (wg (x.den - 1)).length ≤ 1999999 := Nat.le_trans (wg_mono (by omega)) h
 have ha := nadd_fn (a := x.den - 1) (b := 1) (by omega) (Nat.le_trans (wg_one (by decide)) (by decide))
 rw [show x.den - 1 + 1 = x.den by omega] at ha
 refine fn1N_of pl43 (by kernel_rfl) Tryz.call43 Tryz.func43 rfl (by kernel_rfl) rfl [.cell 2 31] (by kernel_rfl) fun Q hQ => ?_
 refine runW ?_
 refine callW [] [2] (ho) ?_
 refine runW ?_
 refine callV0 (ha) rfl rfl ?_
 refine runW ?_
 exact endW [] hQ
theorem rdenw_fn {x : Rat} (h : (wg x.den).length ≤ 1999999) : Fn1 Tryz.prog 38 [RV x] [] (WV (x.den : Int)) [] := by
 have hm := wmake_fn (b := false) (n := x.den) (by omega)
 rw [show sg false x.den = (x.den : Int) from rfl] at hm
 refine fn1N_of pl38 (by kernel_rfl) Tryz.call38 Tryz.func38 rfl (by kernel_rfl) rfl [.cell 2 33] (by kernel_rfl) fun Q hQ => ?_
 refine runW ?_
 refine callV0 (rden_fn (x := x) h) rfl rfl ?_
 refine runW ?_
 refine callV0 (hm) rfl rfl ?_
 refine runW ?_
 exact endW [] hQ
def cmpQ (x y : Rat) : Int := if x < y then -1 else if y < x then 1 else 0
theorem cmpQ_eq (x y : Rat) : cmpZ (x.num * y.den) (y.num * x.den) = cmpQ x y := by
 unfold cmpZ cmpQ
 simp only [Rat.lt_iff]
theorem len_mulZ {x y : Int} {k l : Nat} (hx : (wg x.natAbs).length ≤ k) (hy : (wg y.natAbs).length ≤ l) : (wg (x * y).natAbs).length ≤ k + l := by
 rw [Int.natAbs_mul]
 exact Nat.le_trans (dgB_len_mul (B := 18446744073709551616) (by decide) _ _) (Nat.add_le_add hx hy)
theorem len_addZ {x y : Int} {k : Nat} (hx : (wg x.natAbs).length ≤ k) (hy : (wg y.natAbs).length ≤ k) : (wg (x + y).natAbs).length ≤ k + 1 :=
 Nat.le_trans (wg_mono (Int.natAbs_add_le x y)) (dgB_len_add (B := 18446744073709551616) (by decide) hx hy)
theorem rcmp_fn {x y : Rat} (hx : RS 400000 x) (hy : RS 400000 y) : Fn1 Tryz.prog 11 [RV x, RV y] [] (.lit (.int .i64 (cmpQ x y))) [] := by
 obtain ⟨hx1, hx2⟩ := hx
 obtain ⟨hy1, hy2⟩ := hy
 have hm1 := wmul_fn (x := x.num) (y := (y.den : Int)) (by omega) (by simp only [Int.natAbs_natCast]; omega)
 have hm2 := wmul_fn (x := y.num) (y := (x.den : Int)) (by omega) (by simp only [Int.natAbs_natCast]; omega)
 have hl1 := len_mulZ (x := x.num) (y := (y.den : Int)) hx1 (by simp only [Int.natAbs_natCast]; exact hy2)
 have hl2 := len_mulZ (x := y.num) (y := (x.den : Int)) hy1 (by simp only [Int.natAbs_natCast]; exact hx2)
 have hc := wcmp_fn (x := x.num * y.den) (y := y.num * x.den) (by omega) (by omega)
 rw [cmpQ_eq] at hc
 refine fn1N_of pl11 (by kernel_rfl) Tryz.call11 Tryz.func11 rfl (by kernel_rfl) rfl [.tmp 4] (by kernel_rfl) fun Q hQ => ?_
 refine runW ?_
 refine callV0 (rdenw_fn (x := y) (by omega)) rfl rfl ?_
 refine runW ?_
 refine callV0 (hm1) rfl rfl ?_
 refine runW ?_
 refine callV0 (rdenw_fn (x := x) (by omega)) rfl rfl ?_
 refine runW ?_
 refine callV0 (hm2) rfl rfl ?_
 refine runW ?_
 refine callV0 (hc) rfl rfl ?_
 refine runW ?_
 exact endW [] hQ
theorem frac_eq {p q : Int} (hq : q ≠ 0) : mkRat (sg (!(decide (p < 0) == decide (q < 0))) p.natAbs) q.natAbs = (p : Rat) / (q : Rat) := by
 rw [← Rat.divInt_eq_div]
 have hp := sg_self p
 by_cases h : q < 0
 ·
  obtain ⟨m, rfl⟩ : ∃ m : Nat, q = -(m : Int) := ⟨q.natAbs, by omega⟩
  rw [Rat.divInt_neg', Rat.divInt_ofNat, decide_eq_true h]
  congr 1
  ·
   cases hb : decide (p < 0)
   ·
    rw [hb] at hp; simp [sg] at hp ⊢; omega
   ·
    rw [hb] at hp; simp [sg] at hp ⊢; omega
  ·
   omega
 ·
  obtain ⟨m, rfl⟩ : ∃ m : Nat, q = (m : Int) := ⟨q.natAbs, by omega⟩
  rw [Rat.divInt_ofNat, decide_eq_false h]
  congr 1
  cases hb : decide (p < 0)
  ·
   rw [hb] at hp; simp [sg] at hp ⊢; omega
  ·
   rw [hb] at hp; simp [sg] at hp ⊢; omega
theorem RV_zero : RV 0 = .agg [.row 1 [], .lit (.bool false), .row 1 []] := by
 have := RV_int 0
 rw [show ((0 : Int) : Rat) = 0 from rfl, show (0 : Int).natAbs = 0 from rfl, wg_zero] at this
 exact this
theorem rfrac_fn {p q : Int} (hq : q ≠ 0) (h1 : (wg p.natAbs).length ≤ 1000000) (h2 : (wg q.natAbs).length ≤ 1000000) : Fn1 Tryz.prog 44 [WV p, WV q] [] (.tup [RV ((p : Rat) / (q : Rat)), .lit (.int .i64 0)]) [] := by
 have hm := wmake_fn (b := !(decide (p < 0) == decide (q < 0))) (n := p.natAbs) (by omega)
 have hr := rmade_fn (n := sg (!(decide (p < 0) == decide (q < 0))) p.natAbs) (d := q.natAbs) (by omega) (by rw [sg_abs]; exact h1) h2
 rw [frac_eq hq] at hr
 refine fn1N_of pl44 (by kernel_rfl) Tryz.call44 Tryz.func44 rfl (by kernel_rfl) rfl [.cell 4 35, .tmp 5] (by kernel_rfl) fun Q hQ => ?_
 refine runW ?_
 refine callV0 (wabs_fn (z := q)) rfl rfl ?_
 refine runW ?_
 refine callV0 (zero_fn (n := q.natAbs) (by omega)) rfl rfl ?_
 rw [decide_eq_false (show ¬ q.natAbs = 0 by omega)]
 refine runW ?_
 refine callV0 (wneg_fn (z := p)) rfl rfl ?_
 refine runW ?_
 refine callV0 (wneg_fn (z := q)) rfl rfl ?_
 refine runW ?_
 refine callV0 (wabs_fn (z := p)) rfl rfl ?_
 refine runW ?_
 refine callV0 (hm) rfl rfl ?_
 refine runW ?_
 refine callV0 (wabs_fn (z := q)) rfl rfl ?_
 refine runW ?_
 refine callV0 (hr) rfl rfl ?_
 refine runW ?_
 exact endW [] hQ
theorem wg_int {p : Int} (h0 : -9223372036854775808 ≤ p) (h1 : p ≤ 9223372036854775807) : (wg p.natAbs).length ≤ 1 := wg_one (by omega)
theorem rmake_fn {p q : Int} (hq : q ≠ 0) (p0 : -9223372036854775808 ≤ p) (p1 : p ≤ 9223372036854775807) (q0 : -9223372036854775808 ≤ q) (q1 : q ≤ 9223372036854775807) : Fn1 Tryz.prog 14 [.lit (.int .i64 p), .lit (.int .i64 q)] [] (.tup [RV ((p : Rat) / (q : Rat)), .lit (.int .i64 0)]) [] := by
 refine fn1N_of pl14 (by kernel_rfl) Tryz.call14 Tryz.func14 rfl (by kernel_rfl) rfl [.cell 4 35, .tmp 5] (by kernel_rfl) fun Q hQ => ?_
 refine runW ?_
 refine callV0 (wof_fn p0 p1) rfl rfl ?_
 refine runW ?_
 refine callV0 (wof_fn q0 q1) rfl rfl ?_
 refine runW ?_
 refine callV0 (rfrac_fn (p := p) (q := q) hq (Nat.le_trans (wg_int p0 p1) (by decide)) (Nat.le_trans (wg_int q0 q1) (by decide))) rfl rfl ?_
 refine runW ?_
 exact endW [] hQ
theorem RS_add {k l : Nat} {x y : Rat} (hx : RS k x) (hy : RS l y) : RS (k + l + 1) (x + y) := by
 rw [Rat.add_def']
 refine RS_mk (Nat.mul_ne_zero x.den_nz y.den_nz) ?_ (Nat.le_trans (dgB_len_mul (B := 18446744073709551616) (by decide) _ _) (by have := hx.2; have := hy.2; unfold wg at *; omega))
 have a := len_mulZ (x := x.num) (y := (y.den : Int)) hx.1 (by simp only [Int.natAbs_natCast]; exact hy.2)
 have b := len_mulZ (x := y.num) (y := (x.den : Int)) hy.1 (by simp only [Int.natAbs_natCast]; exact hx.2)
 exact len_addZ a (by omega)
theorem RS_neg {k : Nat} {x : Rat} (hx : RS k x) : RS k (-x) := by
 unfold RS
 rw [Rat.neg_num, Rat.neg_den, Int.natAbs_neg]
 exact hx
theorem RS_sub {k l : Nat} {x y : Rat} (hx : RS k x) (hy : RS l y) : RS (k + l + 1) (x - y) := by
 rw [Rat.sub_eq_add_neg]; exact RS_add hx (RS_neg hy)
theorem RS_mul {k l : Nat} {x y : Rat} (hx : RS k x) (hy : RS l y) : RS (k + l) (x * y) := by
 rw [Rat.mul_def']
 exact RS_mk (Nat.mul_ne_zero x.den_nz y.den_nz) (len_mulZ hx.1 hy.1) (Nat.le_trans (dgB_len_mul (B := 18446744073709551616) (by decide) _ _) (by have := hx.2; have := hy.2; unfold wg at *; omega))
theorem RS_int {z : Int} {k : Nat} (h : (wg z.natAbs).length ≤ k) (hk : 1 ≤ k) : RS k (z : Rat) := by
 constructor
 ·
  rw [Rat.num_intCast]; exact h
 ·
  rw [Rat.den_intCast]; exact Nat.le_trans (wg_one (by decide)) hk
theorem radd_fn {x y : Rat} (hx : RS 400000 x) (hy : RS 400000 y) : Fn1 Tryz.prog 13 [RV x, RV y] [] (RV (x + y)) [] := by
 obtain ⟨hx1, hx2⟩ := hx
 obtain ⟨hy1, hy2⟩ := hy
 have hm1 := wmul_fn (x := x.num) (y := (y.den : Int)) (by omega) (by simp only [Int.natAbs_natCast]; omega)
 have hm2 := wmul_fn (x := y.num) (y := (x.den : Int)) (by omega) (by simp only [Int.natAbs_natCast]; omega)
 have hl1 := len_mulZ (x := x.num) (y := (y.den : Int)) hx1 (by simp only [Int.natAbs_natCast]; exact hy2)
 have hl2 := len_mulZ (x := y.num) (y := (x.den : Int)) hy1 (by simp only [Int.natAbs_natCast]; exact hx2)
 have hl3 := len_addZ hl1 hl2
 have hl4 : (wg (x.den * y.den)).length ≤ 800000 := Nat.le_trans (dgB_len_mul (B := 18446744073709551616) (by decide) _ _) (by unfold wg at *; omega)
 have ha := wadd_fn (x := x.num * y.den) (y := y.num * x.den) (by omega) (by omega)
 have hmd := nmul_fn (a := x.den) (b := y.den) (by omega) (by omega)
 have hr := rmade_fn (n := x.num * y.den + y.num * x.den) (d := x.den * y.den) (Nat.mul_ne_zero x.den_nz y.den_nz) (by omega) (by omega)
 rw [← Rat.add_def'] at hr
 refine fn1N_of pl13 (by kernel_rfl) Tryz.call13 Tryz.func13 rfl (by kernel_rfl) rfl [.cell 4 35] (by kernel_rfl) fun Q hQ => ?_
 refine runW ?_
 refine callV0 (rdenw_fn (x := y) (by omega)) rfl rfl ?_
 refine runW ?_
 refine callV0 (hm1) rfl rfl ?_
 refine runW ?_
 refine callV0 (rdenw_fn (x := x) (by omega)) rfl rfl ?_
 refine runW ?_
 refine callV0 (hm2) rfl rfl ?_
 refine runW ?_
 refine callV0 (ha) rfl rfl ?_
 refine runW ?_
 refine callV0 (rden_fn (x := x) (by omega)) rfl rfl ?_
 refine runW ?_
 refine callV0 (rden_fn (x := y) (by omega)) rfl rfl ?_
 refine runW ?_
 refine callV0 (hmd) rfl rfl ?_
 refine runW ?_
 refine callV0 (hr) rfl rfl ?_
 refine runW ?_
 exact endW [] hQ
theorem rsub_fn {x y : Rat} (hx : RS 400000 x) (hy : RS 400000 y) : Fn1 Tryz.prog 25 [RV x, RV y] [] (RV (x - y)) [] := by
 have hw := wminus_fn (z := y.num) (by have := hy.1; omega)
 have ha := radd_fn (x := x) (y := -y) hx (RS_neg hy)
 rw [← Rat.sub_eq_add_neg] at ha
 rw [show RV (-y) = .agg [.row 1 ((nl (wg (-y.num).natAbs)).map (ie .u64)), .lit (.bool (decide (-y.num < 0))), .row 1 ((nl (wg (y.den - 1))).map (ie .u64))] from rfl] at ha
 refine fn1N_of pl25 (by kernel_rfl) Tryz.call25 Tryz.func25 rfl (by kernel_rfl) rfl [.cell 4 35] (by kernel_rfl) fun Q hQ => ?_
 refine runW ?_
 refine callV0 (hw) rfl rfl ?_
 refine runW ?_
 refine callV0 (ha) rfl rfl ?_
 refine runW ?_
 exact endW [] hQ
theorem rmul_fn {x y : Rat} (hx : RS 400000 x) (hy : RS 400000 y) : Fn1 Tryz.prog 24 [RV x, RV y] [] (RV (x * y)) [] := by
 obtain ⟨hx1, hx2⟩ := hx
 obtain ⟨hy1, hy2⟩ := hy
 have hm1 := wmul_fn (x := x.num) (y := y.num) (by omega) (by omega)
 have hl1 := len_mulZ (x := x.num) (y := y.num) hx1 hy1
 have hl4 : (wg (x.den * y.den)).length ≤ 800000 := Nat.le_trans (dgB_len_mul (B := 18446744073709551616) (by decide) _ _) (by unfold wg at *; omega)
 have hmd := nmul_fn (a := x.den) (b := y.den) (by omega) (by omega)
 have hr := rmade_fn (n := x.num * y.num) (d := x.den * y.den) (Nat.mul_ne_zero x.den_nz y.den_nz) (by omega) (by omega)
 rw [← Rat.mul_def'] at hr
 refine fn1N_of pl24 (by kernel_rfl) Tryz.call24 Tryz.func24 rfl (by kernel_rfl) rfl [.cell 4 35] (by kernel_rfl) fun Q hQ => ?_
 refine runW ?_
 refine callV0 (hm1) rfl rfl ?_
 refine runW ?_
 refine callV0 (rden_fn (x := x) (by omega)) rfl rfl ?_
 refine runW ?_
 refine callV0 (rden_fn (x := y) (by omega)) rfl rfl ?_
 refine runW ?_
 refine callV0 (hmd) rfl rfl ?_
 refine runW ?_
 refine callV0 (hr) rfl rfl ?_
 refine runW ?_
 exact endW [] hQ
end Go.Proofs.YtdohmppildfjhaaGreatDoor
