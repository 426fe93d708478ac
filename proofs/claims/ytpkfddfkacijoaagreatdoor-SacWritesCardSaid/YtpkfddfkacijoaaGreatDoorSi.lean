import Derived.Test.YtpkfddfkacijoaaGreatDoorSh
import Derived.Test.YtpkfddfkacijoaaGreatDoorOa
import Derived.Test.YtpkfddfkacijoaaGreatDoorYf
import Derived.Test.YtpkfddfkacijoaaGreatDoorD2
namespace Go.Proofs.YtpkfddfkacijoaaGreatDoor
open Go.Eng Go.Vx
set_option linter.unusedSimpArgs false
set_option linter.unusedVariables false
set_option maxRecDepth 100000
def SPof (M D S : Nat) : SP := ⟨2 ^ M - 1, 2 ^ D - 1, S⟩
structure WB (M D S : Nat) : Prop where
 m1 : 1 ≤ M
 m8 : M ≤ 8
 d1 : 1 ≤ D
 d2 : D ≤ 2
 s1 : 1 ≤ S
 s4 : S ≤ 4
theorem WB.pw {M D S : Nat} (h : WB M D S) : PW (SPof M D S) := by
 have a1 : 2 ^ 1 ≤ 2 ^ M := Nat.pow_le_pow_right (by decide) h.m1
 have a2 : 2 ^ M ≤ 2 ^ 8 := Nat.pow_le_pow_right (by decide) h.m8
 have b1 : 2 ^ 1 ≤ 2 ^ D := Nat.pow_le_pow_right (by decide) h.d1
 have b2 : 2 ^ D ≤ 2 ^ 2 := Nat.pow_le_pow_right (by decide) h.d2
 have := h.s1
 have := h.s4
 exact { m1 := by show 1 ≤ 2 ^ M - 1; omega, m2 := by show 2 ^ M - 1 ≤ 65535; omega, d1 := by show 1 ≤ 2 ^ D - 1; omega, d2 := by show 2 ^ D - 1 ≤ 15; omega, s1 := h.s1, s2 := by show S ≤ 8; omega, m255 := by show 2 ^ M - 1 ≤ 255; omega, d3 := by show 2 ^ D - 1 ≤ 3; omega, s4 := h.s4 }
theorem sscaled_fn {M D S n s sc v p : Nat} {cs : List Cell} {f d : Bool} {L : List Bool} (hw : WB M D S) (hL : L.length ≤ 1048576) (hp : p ≤ L.length) (hd : d = true → p = L.length) (hv : v ≤ 1099511627776) (hsc : sc ≤ 5) :
  Fn1 Tryz.prog 148 [.ref 0 0 0 0, .ref 1 0 0 0, NV v, .lit (.int .i64 (sc : Int))] (W3 M D S n cs s f L p d)
  (.tup [cA ((outN L d v (sc * modeOf (SPof M D S) v sc (SPof M D S).d 0) p).1, modeOf (SPof M D S) v sc (SPof M D S).d 0), .lit (.int .i64 (outN L d v (sc * modeOf (SPof M D S) v sc (SPof M D S).d 0) p).2.1)])
  (W3 M D S n cs s f L (outN L d v (sc * modeOf (SPof M D S) v sc (SPof M D S).d 0) p).2.2.1 (outN L d v (sc * modeOf (SPof M D S) v sc (SPof M D S).d 0) p).2.2.2) := by
 have ht := stops_fn (M := M) (D := D) (S := S) (by have := hw.m8; omega) (by have := hw.d2; omega)
 have hpw := hw.pw
 have hd3 := hpw.d3
 have hm255 := hpw.m255
 have hml := mode_le (P := SPof M D S) (v := v) (s := sc)
 rw [show 2 ^ M - 1 = (SPof M D S).m from rfl, show 2 ^ D - 1 = (SPof M D S).d from rfl] at ht
 have hsm : sc * modeOf (SPof M D S) v sc (SPof M D S).d 0 ≤ 5 * 3 := Nat.mul_le_mul hsc (by omega)
 have hr := sround_fn (L := L) (n := v) (k := sc * modeOf (SPof M D S) v sc (SPof M D S).d 0) (p := p) (d := d) hL hp hd hv (by omega)
 generalize hP : SPof M D S = P at *
 generalize hmm : modeOf P v sc P.d 0 = mm at *
 have hvw : (wg v).length ≤ 1 := wg_one (by omega)
 refine fn1N_of pl148 (by kernel_rfl) Tryz.call148 Tryz.func148 rfl (by kernel_rfl) rfl [.cell 8 116, .tmp 9] (by kernel_rfl) fun Q hQ => ?_
 refine runW ?_
 refine callV0 (ht) rfl rfl ?_
 refine runW ?_
 refine loopW (X := Nat) (st := fun m => ([(0, .ref 0 0 0 0), (1, .ref 1 0 0 0), (3, .lit (.int .i64 (sc : Int))), (6, .ref 3 0 0 0), (8, .ref 4 0 0 0), (10, .lit (.int .i64 (P.m : Int))), (11, .lit (.int .i64 (P.d : Int))), (12, .lit (.int .i64 (m : Int)))], W3 M D S n cs s f L p d ++ [some (.cells [.row 1 ((nl (wg v)).map (ie .u64))]), some (.cells [.lit (.int .i64 0), .lit (.int .i64 0)])]))
  (inv := fun m => m ≤ P.d ∧ modeOf P v sc (P.d - m) m = mm) (m := fun m => P.d - m) 0 [some 0, some 1, some 2, some 3, some 4] ⟨Nat.zero_le _, hmm⟩ ?_
 rintro m ⟨hm, hmo⟩
 by_cases h1 : m < P.d
 ·
  obtain ⟨g, hg⟩ : ∃ g, P.d - m = g + 1 := ⟨P.d - m - 1, by omega⟩
  have hsm2 : sc * m ≤ 5 * 3 := Nat.mul_le_mul hsc (by omega)
  have e : (sc : Int) * (m : Int) = ((sc * m : Nat) : Int) := by simp
  have sh := shr_fn (v := v) (N := sc * m) (n := ((sc * m : Nat) : Int)) (by omega) (by omega) (by omega)
  have o := of1_fn (x := P.m) (by omega)
  have c := ncmp_fn (a := v / 2 ^ (sc * m)) (b := P.m) (Nat.le_trans (wg_one (Nat.lt_of_le_of_lt (Nat.div_le_self _ _) (by omega))) (by decide)) (Nat.le_trans (wg_one (by omega)) (by decide))
  rw [hg] at hmo
  unfold modeOf at hmo
  by_cases h2 : P.m < v / 2 ^ (sc * m)
  ·
   rw [if_pos ⟨h1, h2⟩] at hmo
   rw [cmpI_gt h2] at c
   generalize v / 2 ^ (sc * m) = u at *
   generalize sc * m = k at *
   simp (maxSteps := 1000000) (disch := (first | omega | (simp only [lnA, List.length_map, List.length_range, true_and, and_true]; (try omega); done) | fail)) only [go_sem, e, Int.reduceEq, Int.reduceToNat, Nat.reduceAdd, Nat.reduceMul, Nat.reduceEqDiff, ↓reduceIte]
   refine callV0 (sh) rfl rfl ?_
   refine runW ?_
   refine callW [] [5] (o) ?_
   refine runW ?_
   refine callV0 (c) rfl rfl ?_
   refine runW ?_
   refine nextW (m + 1) [some 0, some 1, some 2, some 3, some 4] ⟨by omega, by rw [← hmo]; congr 1; omega⟩ (by omega)
  ·
   rw [if_neg (fun h => h2 h.2)] at hmo
   subst hmo
   have hc : cmpI (v / 2 ^ (sc * m)) P.m ≤ 0 := by unfold cmpI; split <;> (try split) <;> omega
   have hc2 := decide_eq_false (show ¬ cmpI (v / 2 ^ (sc * m)) P.m > 0 by omega)
   generalize cmpI (v / 2 ^ (sc * m)) P.m = ci at *
   generalize v / 2 ^ (sc * m) = u at *
   generalize outN L d v (sc * m) p = x at *
   generalize sc * m = k at *
   simp (maxSteps := 1000000) (disch := (first | omega | (simp only [lnA, List.length_map, List.length_range, true_and, and_true]; (try omega); done) | fail)) only [go_sem, e, Int.reduceEq, Int.reduceToNat, Nat.reduceAdd, Nat.reduceMul, Nat.reduceEqDiff, ↓reduceIte]
   refine callV0 (sh) rfl rfl ?_
   refine runW ?_
   refine callW [] [5] (o) ?_
   refine runW ?_
   refine callV0 (c) rfl rfl ?_
   simp (maxSteps := 1000000) (disch := (first | omega | (simp only [lnA, List.length_map, List.length_range, true_and, and_true]; (try omega); done) | fail)) only [go_sem, e, Int.reduceEq, Int.reduceToNat, Nat.reduceAdd, Nat.reduceMul, Nat.reduceEqDiff, ↓reduceIte]
   refine callW [some 1] [] (hr) ?_
   refine runW ?_
   exact endW [some 0, some 1, some 2] hQ
 ·
  obtain rfl : m = P.d := by omega
  rw [Nat.sub_self] at hmo
  unfold modeOf at hmo
  subst hmo
  have e : (sc : Int) * (P.d : Int) = ((sc * P.d : Nat) : Int) := by simp
  generalize outN L d v (sc * P.d) p = x at *
  generalize sc * P.d = k at *
  simp (maxSteps := 1000000) (disch := (first | omega | (simp only [lnA, List.length_map, List.length_range, true_and, and_true]; (try omega); done) | fail)) only [go_sem, e, Int.reduceEq, Int.reduceToNat, Nat.reduceAdd, Nat.reduceMul, Nat.reduceEqDiff, ↓reduceIte]
  refine callW [some 1] [] (hr) ?_
  refine runW ?_
  exact endW [some 0, some 1, some 2] hQ
end Go.Proofs.YtpkfddfkacijoaaGreatDoor

namespace Go.Proofs.YtpkfddfkacijoaaGreatDoor
open Go.Eng Go.Vx
set_option linter.unusedSimpArgs false
set_option linter.unusedVariables false
set_option maxRecDepth 100000
theorem nd10_wg {n : Nat} (h : n ≠ 0) : nd10 n ≤ 20 * (wg n).length := by
 have h1 : n < 18446744073709551616 ^ (wg n).length := dgB_lt_pow (B := 18446744073709551616) (by decide) n
 have h2 : 0 < (wg n).length := by
  rcases Nat.eq_zero_or_pos (wg n).length with e | e
  ·
   exact absurd (wg_nil.1 (List.length_eq_zero_iff.1 e)) h
  ·
   exact e
 refine (nd10_le (by omega)).2 (Nat.lt_of_lt_of_le h1 ?_)
 rw [Nat.pow_mul]
 exact Nat.pow_le_pow_left (by decide) _
theorem text_step {n m j : Nat} {out : List UInt8} (hm : m = n / 10 ^ (18 * j)) (h0 : m ≠ 0) (ho : out = decB (decL (18 * j) n)) :
  (m / 1000000000000000000 = 0 → decS (m % 1000000000000000000) ++ out = decS n) ∧
  (m / 1000000000000000000 ≠ 0 → (List.replicate (18 - nd10 (m % 1000000000000000000)) 48 ++ decS (m % 1000000000000000000)) ++ out = decB (decL (18 * (j + 1)) n) ∧ m / 1000000000000000000 = n / 10 ^ (18 * (j + 1))) ∧ nd10 (m % 1000000000000000000) ≤ 18 := by
 have e18 : (1000000000000000000 : Nat) = 10 ^ 18 := by decide
 have hle : nd10 (m % 1000000000000000000) ≤ 18 := (nd10_le (by decide)).2 (by rw [← e18]; exact Nat.mod_lt _ (by decide))
 refine ⟨fun h => ?_, fun h => ⟨?_, ?_⟩, hle⟩
 ·
  have hlt : m < 1000000000000000000 := by omega
  rw [Nat.mod_eq_of_lt hlt, ho, hm, ← decS_split (by rw [← hm]; exact h0)]
 ·
  rw [← decS_pad hle, e18, decL_mod, ho, ← decB_app, hm, ← decL_add, show 18 + 18 * j = 18 * (j + 1) by omega]
 ·
  rw [hm, e18, Nat.div_div_eq_div_mul, ← Nat.pow_add, show 18 * j + 18 = 18 * (j + 1) by omega]
theorem ntext_fn {n : Nat} (hn : (wg n).length ≤ 100000) : Fn1 Tryz.prog 60 [NV n] [] (.lit (.string (bs (decS n)))) [] := by
 refine fn1N_of pl60 (by kernel_rfl) Tryz.call60 Tryz.func60 rfl (by kernel_rfl) rfl [.tmp 2] (by kernel_rfl) fun Q hQ => ?_
 by_cases h0 : n = 0
 ·
  subst h0
  rw [decS_small (by decide)] at hQ
  refine runW ?_
  refine callV0 (zero_fn (n := 0) (by rw [wg_zero]; decide)) rfl rfl ?_
  rw [decide_eq_true rfl]
  refine runW ?_
  exact endW [] hQ
 ·
  have hnd := nd10_wg h0
  refine runW ?_
  refine callV0 (zero_fn (n := n) (by omega)) rfl rfl ?_
  rw [decide_eq_false h0]
  refine runW ?_
  refine loopW (X := Nat × Nat × List UInt8) (st := fun z => ([(1, .ref 0 0 0 0), (3, .lit (.string (bs z.2.2))), (4, .row 1 ((nl (wg z.1)).map (ie .u64)))], [some (.cells [.row 1 ((nl (wg n)).map (ie .u64))])]))
   (inv := fun z => (wg z.1).length ≤ 100000 ∧ ((z.1 = n / 10 ^ (18 * z.2.1) ∧ z.1 ≠ 0 ∧ z.2.2 = decB (decL (18 * z.2.1) n)) ∨ (z.1 = 0 ∧ z.2.2 = decS n))) (m := fun z => z.1) (n, 0, []) [some 0] ⟨hn, .inl ⟨by simp, h0, rfl⟩⟩ ?_
  rintro ⟨m, j, out⟩ ⟨hl, hi⟩
  simp only at hl hi ⊢
  have hnl := nl_len (wg m)
  rcases hi with ⟨hm, hm0, ho⟩ | ⟨rfl, rfl⟩
  ·
   obtain ⟨t1, t2, t3⟩ := text_step hm hm0 ho
   have hpos : 0 < (wg m).length := by
    rcases Nat.eq_zero_or_pos (wg m).length with e | e
    ·
     exact absurd (wg_nil.1 (List.length_eq_zero_iff.1 e)) hm0
    ·
     exact e
   have hjn : 18 * j < nd10 n := by
    have h1 := nd10_lt n
    refine (Nat.pow_lt_pow_iff_right (a := 10) (by decide)).1 (Nat.lt_of_le_of_lt ?_ h1)
    refine Classical.byContradiction fun hc => hm0 ?_
    rw [hm]; exact Nat.div_eq_of_lt (by omega)
   have hol : out.length = 18 * j := by rw [ho, decB_len, decL_len]
   have hsp := split_fn (W := wg m) (y := 1000000000000000000) (wg_lt m) (by omega) (by decide) (by decide)
   rw [wg_val] at hsp
   have hqv : valB 18446744073709551616 (fw 18446744073709551616 (wg m).length (m / 1000000000000000000)) = m / 1000000000000000000 := by
    have hlt : m < 18446744073709551616 ^ (wg m).length := dgB_lt_pow (B := 18446744073709551616) (by decide) m
    rw [fw_val (by decide), Nat.mod_eq_of_lt (Nat.lt_of_le_of_lt (Nat.div_le_self m _) hlt)]
   have hF := fw_len (B := 18446744073709551616) (wg m).length (m / 1000000000000000000)
   have hFl := fw_lt (B := 18446744073709551616) (by decide) (wg m).length (m / 1000000000000000000)
   have hml : (wg (m / 1000000000000000000)).length ≤ 100000 := Nat.le_trans (wg_mono (Nat.div_le_self _ _)) hl
   have hmd : m / 1000000000000000000 < m := Nat.div_lt_self (by omega) (by decide)
   have hnl2 := nl_len (wg (m / 1000000000000000000))
   have hfu := fuint_fn (u := m % 1000000000000000000) (Nat.lt_trans (Nat.mod_lt _ (by decide)) (by decide))
   have hrep := repeat0_fn (c := 18 - nd10 (m % 1000000000000000000)) (by omega)
   have hsl := decS_len (m % 1000000000000000000)
   have hi18 : (18 : Int) - (nd10 (m % 1000000000000000000) : Int) = ((18 - nd10 (m % 1000000000000000000) : Nat) : Int) := by omega
   generalize fw 18446744073709551616 (wg m).length (m / 1000000000000000000) = F at *
   generalize m / 1000000000000000000 = q at *
   generalize m % 1000000000000000000 = r at *
   rw [← hF] at hsp
   have hnF := nl_len F
   refine runW ?_
   refine callF (hsp) ?_
   refine runW ?_
   refine callW [] [1] (trimmed_fn (l := F) hFl (by omega)) ?_
   rw [hqv]
   refine runW ?_
   refine callV0 (hfu) rfl rfl ?_
   by_cases hq : q = 0
   ·
    have hz : (wg q).length = 0 := by rw [hq, wg_zero]; rfl
    refine runW ?_
    refine nextW (q, j + 1, decS r ++ out) [some 0] ⟨hml, .inr ⟨hq, t1 hq⟩⟩ hmd
   ·
    have hz : 0 < (wg q).length := by
     rcases Nat.eq_zero_or_pos (wg q).length with e | e
     ·
      exact absurd (wg_nil.1 (List.length_eq_zero_iff.1 e)) hq
     ·
      exact e
    obtain ⟨t3, t4⟩ := t2 hq
    simp (maxSteps := 1000000) (disch := (first | omega | (simp only [lnA, List.length_map, List.length_range, true_and, and_true]; (try omega); done) | fail)) only [go_sem, hsl, hi18, Int.reduceEq, Int.reduceToNat, Nat.reduceAdd, Nat.reduceMul, Nat.reduceEqDiff, ↓reduceIte]
    refine callV0 (hrep) rfl rfl ?_
    refine runW ?_
    refine nextW (q, j + 1, (List.replicate (18 - nd10 r) 48 ++ decS r) ++ out) [some 0] ⟨hml, .inl ⟨t4, hq, t3⟩⟩ hmd
  ·
   rw [wg_zero] at hnl
   simp (maxSteps := 1000000) (disch := (first | omega | (simp only [lnA, List.length_map, List.length_range, true_and, and_true]; (try omega); done) | fail)) only [go_sem, wg_zero, Int.reduceEq, Int.reduceToNat, Nat.reduceAdd, Nat.reduceMul, Nat.reduceEqDiff, ↓reduceIte]
   exact endW [] hQ
end Go.Proofs.YtpkfddfkacijoaaGreatDoor
