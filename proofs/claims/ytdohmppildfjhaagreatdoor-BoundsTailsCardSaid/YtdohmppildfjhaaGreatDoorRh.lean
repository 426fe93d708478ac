import Derived.Test.YtdohmppildfjhaaGreatDoorRa
import Derived.Test.YtdohmppildfjhaaGreatDoorE7
import Derived.Test.YtdohmppildfjhaaGreatDoorYe
import Derived.Test.YtdohmppildfjhaaGreatDoorN2
import Derived.Test.YtdohmppildfjhaaGreatDoorD2
namespace Go.Proofs.YtdohmppildfjhaaGreatDoor
open Go.Eng
set_option linter.unusedSimpArgs false
set_option linter.unusedVariables false
def lgs (K : Nat) (s : Nat × Nat) : Nat × Nat := if 2 * K ≤ s.1 * s.1 / K then (s.1 * s.1 / K / 2, 2 * s.2 + 1) else (s.1 * s.1 / K, 2 * s.2)
def lgi (K : Nat) (s : Nat × Nat) : Nat → Nat × Nat
 | 0 => s
 | j + 1 => lgs K (lgi K s j)
theorem lgs_in {K : Nat} {s : Nat × Nat} (hK : 0 < K) (h : K ≤ s.1 ∧ s.1 < 2 * K) : K ≤ (lgs K s).1 ∧ (lgs K s).1 < 2 * K ∧ (lgs K s).2 ≤ 2 * s.2 + 1 := by
 have h1 : K * K ≤ s.1 * s.1 := Nat.mul_le_mul h.1 h.1
 have h2 : s.1 * s.1 < 4 * K * K := by
  have := Nat.mul_lt_mul'' h.2 h.2
  have e : 2 * K * (2 * K) = 4 * K * K := by rw [Nat.mul_mul_mul_comm, Nat.mul_assoc 4]
  omega
 have h3 : K ≤ s.1 * s.1 / K := (Nat.le_div_iff_mul_le hK).2 h1
 have h4 : s.1 * s.1 / K < 4 * K := (Nat.div_lt_iff_lt_mul hK).2 h2
 unfold lgs
 split
 ·
  simp only; omega
 ·
  simp only; omega
theorem lgi_in {K x o : Nat} (hK : 0 < K) (h : K ≤ x ∧ x < 2 * K) : ∀ j, K ≤ (lgi K (x, o) j).1 ∧ (lgi K (x, o) j).1 < 2 * K ∧ (lgi K (x, o) j).2 + 1 ≤ (o + 1) * 2 ^ j
 | 0 => ⟨h.1, h.2, by simp [lgi]⟩
 | j + 1 => by
  obtain ⟨a, b, c⟩ := lgi_in hK h j (o := o)
  have := lgs_in hK ⟨a, b⟩
  refine ⟨this.1, this.2.1, ?_⟩
  have h3 := this.2.2
  show (lgs K (lgi K (x, o) j)).2 + 1 ≤ _
  rw [Nat.pow_succ, ← Nat.mul_assoc]
  omega
def K62 : Nat := 4611686018427387904
def lgN (n : Nat) : Nat := (lgi K62 (n * 2 ^ (62 - (bl n - 1)), bl n - 1) 28).2
theorem lgs_low {K n x o t : Nat} (hK : 0 < K) (h : x * 2 ^ o ≤ n * K) : (lgs K (x, o)).1 * 2 ^ (lgs K (x, o)).2 ≤ n * n * K := by
 have h1 : x * x / K * K ≤ x * x := Nat.div_mul_le_self _ _
 have h2 : x * 2 ^ o * (x * 2 ^ o) ≤ n * K * (n * K) := Nat.mul_le_mul h h
 have e1 : x * 2 ^ o * (x * 2 ^ o) = x * x * 2 ^ (2 * o) := by rw [Nat.two_mul, Nat.pow_add]; simp only [Nat.mul_assoc, Nat.mul_left_comm]
 have e2 : n * K * (n * K) = n * n * K * K := by simp only [Nat.mul_assoc, Nat.mul_left_comm]
 rw [e1, e2] at h2
 have h3 : x * x / K * 2 ^ (2 * o) * K ≤ n * n * K * K := by
  have : x * x / K * 2 ^ (2 * o) * K = x * x / K * K * 2 ^ (2 * o) := by rw [Nat.mul_right_comm]
  rw [this]
  exact Nat.le_trans (Nat.mul_le_mul_right _ h1) h2
 have h4 := Nat.le_of_mul_le_mul_right h3 hK
 unfold lgs
 split
 ·
  simp only
  have e3 : x * x / K / 2 * 2 ^ (2 * o + 1) = x * x / K / 2 * 2 * 2 ^ (2 * o) := by rw [Nat.pow_succ]; simp only [Nat.mul_assoc, Nat.mul_left_comm, Nat.mul_comm]
  rw [e3]
  exact Nat.le_trans (Nat.mul_le_mul_right _ (Nat.div_mul_le_self _ _)) h4
 ·
  exact h4
theorem lgs_up {K x o : Nat} (hK : 0 < K) (hx : K ≤ x ∧ x < 2 * K) : x * x * 2 ^ (2 * o) ≤ (lgs K (x, o)).1 * 2 ^ (lgs K (x, o)).2 * (K + 1) := by
 have hin := lgs_in (s := (x, o)) hK hx
 have h1 : x * x < (x * x / K + 1) * K := by
  have := Nat.lt_div_mul_add hK (a := x * x)
  rw [Nat.add_mul, Nat.one_mul]
  omega
 unfold lgs at hin ⊢
 split
 ·
  rename_i hc
  rw [if_pos hc] at hin
  simp only at hin ⊢
  generalize x * x / K = y at *
  have h2 : (y + 1) * K ≤ y / 2 * 2 * (K + 1) := by
   have a0 : 2 * K ≤ y / 2 * 2 ∧ y + 1 ≤ y / 2 * 2 + 2 := by omega
   generalize y / 2 * 2 = t at *
   have a1 : (y + 1) * K ≤ (t + 2) * K := Nat.mul_le_mul_right _ a0.2
   rw [Nat.add_mul t] at a1
   rw [Nat.mul_add, Nat.mul_one]
   omega
  have e : y / 2 * 2 ^ (2 * o + 1) * (K + 1) = y / 2 * 2 * (K + 1) * 2 ^ (2 * o) := by rw [Nat.pow_succ]; simp only [Nat.mul_assoc, Nat.mul_left_comm, Nat.mul_comm]
  rw [e]
  exact Nat.mul_le_mul_right _ (by omega)
 ·
  rename_i hc
  rw [if_neg hc] at hin
  simp only at hin ⊢
  generalize x * x / K = y at *
  have h2 : (y + 1) * K ≤ y * (K + 1) := by
   rw [Nat.add_mul, Nat.mul_add, Nat.one_mul, Nat.mul_one]
   omega
  have e : y * 2 ^ (2 * o) * (K + 1) = y * (K + 1) * 2 ^ (2 * o) := by rw [Nat.mul_right_comm]
  rw [e]
  exact Nat.mul_le_mul_right _ (by omega)
def D28 : Nat := 268435456
open Go.Eng Go.Vx
set_option maxRecDepth 100000
theorem sla24 {ob : Ob} {k : Nat} {F : FV} (h : 24 ≤ obN ob) (hk : k ≤ 24) : slaV Tryz.prog 169 0 none (some (.lit (.int .i64 (k : Int)))) [some ob] F = F true (.sl 0 1 0 k) := by
 rw [slaV_of (n := 24) (et := 5) (z := 1) (by kernel_rfl) (ob := ob) rfl (by omega)]
 simp only [bdoK, bdK]
 rw [if_pos (by omega)]
 simp
@[go_sem] theorem rc24 : rowC ((List.replicate 24 (0 : Int)).map (ie .u8)) = some [.lit (.int .u8 0), .lit (.int .u8 0), .lit (.int .u8 0), .lit (.int .u8 0), .lit (.int .u8 0), .lit (.int .u8 0), .lit (.int .u8 0), .lit (.int .u8 0), .lit (.int .u8 0), .lit (.int .u8 0), .lit (.int .u8 0), .lit (.int .u8 0), .lit (.int .u8 0), .lit (.int .u8 0), .lit (.int .u8 0), .lit (.int .u8 0), .lit (.int .u8 0), .lit (.int .u8 0), .lit (.int .u8 0), .lit (.int .u8 0), .lit (.int .u8 0), .lit (.int .u8 0), .lit (.int .u8 0), .lit (.int .u8 0)] := (rfl)
theorem ch_bytes (l : List Nat) : (l.map ch).map (fun n => UInt8.ofNat n.toNat) = decB l := by
 unfold decB
 rw [List.map_map]
 rfl
theorem uint10_fn {u : Nat} (h : u < 18446744073709551616) : Fn1 Tryz.prog 115 [.lit (.int .u64 (u : Int)), .lit (.int .i64 10)] [] (.lit (.string (bs (decS u)))) [] := by
 refine fn1N_of pl115 (by kernel_rfl) Tryz.call115 Tryz.func115 rfl (by kernel_rfl) rfl [.tmp 4] (by kernel_rfl) fun Q hQ => ?_
 by_cases h1 : u < 100
 ·
  refine runW ?_
  refine callV0 (small_fn10 h1) rfl rfl ?_
  refine runW ?_
  exact endW [] hQ
 ·
  have hn := numDigits_fn (d := u) (by omega) h
  have hl := nd10_lt u
  have hle : nd10 u ≤ 20 := (nd10_le (by decide)).2 (by omega)
  have hlen := decL_len (nd10 u) u
  have hlt := decL_lt (nd10 u) u
  have hf := fmt10_fn (L := List.replicate 24 0) (n := nd10 u) (u := u) (by rw [List.length_replicate]; omega) (by decide) hl h
  have hA := fun F => sla24 (ob := .cells [.lit (.int .u8 0), .lit (.int .u8 0), .lit (.int .u8 0), .lit (.int .u8 0), .lit (.int .u8 0), .lit (.int .u8 0), .lit (.int .u8 0), .lit (.int .u8 0), .lit (.int .u8 0), .lit (.int .u8 0), .lit (.int .u8 0), .lit (.int .u8 0), .lit (.int .u8 0), .lit (.int .u8 0), .lit (.int .u8 0), .lit (.int .u8 0), .lit (.int .u8 0), .lit (.int .u8 0), .lit (.int .u8 0), .lit (.int .u8 0), .lit (.int .u8 0), .lit (.int .u8 0), .lit (.int .u8 0), .lit (.int .u8 0)]) (k := nd10 u) (F := F) (by decide) (by omega)
  have hB := fun F => sla24 (ob := .row 1 (((decL (nd10 u) u).map ch ++ (List.replicate 24 0).drop (nd10 u)).map (ie .u8))) (k := nd10 u) (F := F) (by simp only [obN, List.length_map, List.length_append, hlen, List.length_drop, List.length_replicate]; omega) (by omega)
  unfold decS at hQ
  generalize nd10 u = n at *
  refine runW ?_
  refine callV0 (hn) rfl rfl ?_
  simp (maxSteps := 1000000) (disch := (first | omega | (simp only [lnA, List.length_map, List.length_range, true_and, and_true]; (try omega); done) | fail)) only [go_sem, hA, Int.reduceEq, Int.reduceToNat, Nat.reduceAdd, Nat.reduceMul, Nat.reduceEqDiff, ↓reduceIte]
  refine callW [some 0] [] (hf) ?_
  simp (maxSteps := 1000000) (disch := (first | omega | (simp only [lnA, List.length_map, List.length_range, true_and, and_true]; (try omega); done) | fail)) only [go_sem, hB, Int.reduceEq, Int.reduceToNat, Nat.reduceAdd, Nat.reduceMul, Nat.reduceEqDiff, ↓reduceIte]
  have hm : ((decL n u).map ch).length = n := by rw [List.length_map]; exact hlen
  rw [List.take_left' hm, ch_bytes]
  exact endW [] hQ
theorem fuint_fn {u : Nat} (h : u < 18446744073709551616) : Fn1 Tryz.prog 93 [.lit (.int .u64 (u : Int)), .lit (.int .i64 10)] [] (.lit (.string (bs (decS u)))) [] := by
 refine fn1N_of pl93 (by kernel_rfl) Tryz.call93 Tryz.func93 rfl (by kernel_rfl) rfl [.tmp 4] (by kernel_rfl) fun Q hQ => ?_
 refine runW ?_
 refine callV0 (uint10_fn h) rfl rfl ?_
 refine runW ?_
 exact endW [] hQ
theorem slHasPrefix_fn {S p : List UInt8} (hS : S.length ≤ 9223372036854775807) (hp : p.length ≤ 9223372036854775807) : Fn1 Tryz.prog 139 [.lit (.string (bs S)), .lit (.string (bs p))] [] (.lit (.bool (decide (p.length ≤ S.length ∧ S.take p.length = p)))) [] := by
 refine fn1N_of pl139 (by kernel_rfl) Tryz.call139 Tryz.func139 rfl (by kernel_rfl) rfl [.tmp 4] (by kernel_rfl) fun Q hQ => ?_
 by_cases h : p.length ≤ S.length
 ·
  have e : decide (p.length ≤ S.length ∧ S.take p.length = p) = decide (S.take p.length = p) := by simp [h]
  rw [e] at hQ
  simp (maxSteps := 1000000) (disch := (first | omega | (simp only [lnA, List.length_map, List.length_range, true_and, and_true]; (try omega); done) | fail)) only [go_sem, List.drop_zero, Int.reduceEq, Int.reduceToNat, Nat.reduceAdd, Nat.reduceMul, Nat.reduceEqDiff, ↓reduceIte]
  exact endW [] hQ
 ·
  rw [decide_eq_false (fun e => h e.1)] at hQ
  refine runW ?_
  exact endW [] hQ
theorem hasPrefix_fn {S p : List UInt8} (hS : S.length ≤ 9223372036854775807) (hp : p.length ≤ 9223372036854775807) : Fn1 Tryz.prog 117 [.lit (.string (bs S)), .lit (.string (bs p))] [] (.lit (.bool (decide (p.length ≤ S.length ∧ S.take p.length = p)))) [] := by
 refine fn1N_of pl117 (by kernel_rfl) Tryz.call117 Tryz.func117 rfl (by kernel_rfl) rfl [.tmp 4] (by kernel_rfl) fun Q hQ => ?_
 refine runW ?_
 refine callV0 (slHasPrefix_fn hS hp) rfl rfl ?_
 refine runW ?_
 exact endW [] hQ
theorem hasPrefixB_fn {S p : List UInt8} {b : Bool} (hS : decide (S.length ≤ 9223372036854775807) = true) (hp : decide (p.length ≤ 9223372036854775807) = true) (hb : decide (p.length ≤ S.length ∧ S.take p.length = p) = b) : Fn1 Tryz.prog 117 [.lit (.string (bs S)), .lit (.string (bs p))] [] (.lit (.bool b)) [] := by
 rw [← hb]
 exact hasPrefix_fn (of_decide_eq_true hS) (of_decide_eq_true hp)
theorem bmul_fn {x y : Nat} (hx : x < 18446744073709551616) (hy : y < 18446744073709551616) : Fn1 Tryz.prog 116 [.lit (.int .u64 (x : Int)), .lit (.int .u64 (y : Int))] [] (.tup [.lit (.int .u64 ((x * y / 18446744073709551616 : Nat) : Int)), .lit (.int .u64 ((x * y % 18446744073709551616 : Nat) : Int))]) [] := by
 refine fn1N_of pl116 (by kernel_rfl) Tryz.call116 Tryz.func116 rfl (by kernel_rfl) rfl [.tmp 4, .tmp 5] (by kernel_rfl) fun Q hQ => ?_
 refine runW ?_
 refine callV0 (mul64_fn (x := x) (y := y) hx hy) rfl rfl ?_
 refine runW ?_
 exact endW [] hQ
theorem repeat0_fn {c : Nat} (hc : c ≤ 64) : Fn1 Tryz.prog 94 [.lit (.string (bs [48])), .lit (.int .i64 (c : Int))] [] (.lit (.string (bs (List.replicate c 48)))) [] := by
 refine fn1N_of pl94 (by kernel_rfl) Tryz.call94 Tryz.func94 rfl (by kernel_rfl) rfl [.tmp 4] (by kernel_rfl) fun Q hQ => ?_
 by_cases h0 : c = 0
 ·
  subst h0
  refine runW ?_
  exact endW [] hQ
 ·
  by_cases h1 : c = 1
  ·
   subst h1
   refine runW ?_
   exact endW [] hQ
  ·
   have hm := bmul_fn (x := 1) (y := c) (by decide) (by omega)
   rw [Nat.one_mul, Nat.div_eq_of_lt (by omega), Nat.mod_eq_of_lt (by omega)] at hm
   refine runW ?_
   have hg : ((([48] : List UInt8).getD 0 0).toNat : Int) = 48 := rfl
   refine callV0 (hm) rfl rfl ?_
   simp (maxSteps := 1000000) (disch := (first | omega | (simp only [lnA, List.length_map, List.length_range, true_and, and_true]; (try omega); done) | fail)) only [go_sem, hg, Int.reduceEq, Int.reduceToNat, Nat.reduceAdd, Nat.reduceMul, Nat.reduceEqDiff, ↓reduceIte]
   refine callV0 (hasPrefixB_fn (b := false) (by kernel_rfl) (by kernel_rfl) (by kernel_rfl)) rfl rfl ?_
   refine runW ?_
   refine callV0 (hasPrefixB_fn (b := false) (by kernel_rfl) (by kernel_rfl) (by kernel_rfl)) rfl rfl ?_
   refine runW ?_
   refine callV0 (hasPrefixB_fn (b := true) (by kernel_rfl) (by kernel_rfl) (by kernel_rfl)) rfl rfl ?_
   refine runW ?_
   have hend : EndV 0 Q (.lit (.string (bs (List.replicate c 48)))) [] := by exact endW [] hQ
   refine cast (congrArg (fun l => EndV 0 Q (.lit (.string (bs l))) []) ?_) hend
   show List.replicate c 48 = List.take c (List.replicate 64 48)
   rw [List.take_replicate, Nat.min_eq_left hc]
theorem nd10_wg {n : Nat} (h : n ≠ 0) : nd10 n ≤ 20 * (wg n).length := by
 have h1 : n < 18446744073709551616 ^ (wg n).length := dgB_lt_pow (B := 18446744073709551616) (by decide) n
 have h2 : 0 < (wg n).length := by
  rcases Nat.eq_zero_or_pos (wg n).length with e | e
  ·
   exact absurd (wg_nil.1 (List.length_eq_zero_iff.1 e)) h
  ·
   exact e
 refine (nd10_le (by omega)).2 (Nat.lt_of_lt_of_le h1 ?_)
 rw [Nat.pow_mul]
 exact Nat.pow_le_pow_left (by decide) _
theorem text_step {n m j : Nat} {out : List UInt8} (hm : m = n / 10 ^ (18 * j)) (h0 : m ≠ 0) (ho : out = decB (decL (18 * j) n)) :
  (m / 1000000000000000000 = 0 → decS (m % 1000000000000000000) ++ out = decS n) ∧
  (m / 1000000000000000000 ≠ 0 → (List.replicate (18 - nd10 (m % 1000000000000000000)) 48 ++ decS (m % 1000000000000000000)) ++ out = decB (decL (18 * (j + 1)) n) ∧ m / 1000000000000000000 = n / 10 ^ (18 * (j + 1))) ∧ nd10 (m % 1000000000000000000) ≤ 18 := by
 have e18 : (1000000000000000000 : Nat) = 10 ^ 18 := by decide
 have hle : nd10 (m % 1000000000000000000) ≤ 18 := (nd10_le (by decide)).2 (by rw [← e18]; exact Nat.mod_lt _ (by decide))
 refine ⟨fun h => ?_, fun h => ⟨?_, ?_⟩, hle⟩
 ·
  have hlt : m < 1000000000000000000 := by omega
  rw [Nat.mod_eq_of_lt hlt, ho, hm, ← decS_split (by rw [← hm]; exact h0)]
 ·
  rw [← decS_pad hle, e18, decL_mod, ho, ← decB_app, hm, ← decL_add, show 18 + 18 * j = 18 * (j + 1) by omega]
 ·
  rw [hm, e18, Nat.div_div_eq_div_mul, ← Nat.pow_add, show 18 * j + 18 = 18 * (j + 1) by omega]
theorem ntext_fn {n : Nat} (hn : (wg n).length ≤ 100000) : Fn1 Tryz.prog 55 [NV n] [] (.lit (.string (bs (decS n)))) [] := by
 refine fn1N_of pl55 (by kernel_rfl) Tryz.call55 Tryz.func55 rfl (by kernel_rfl) rfl [.tmp 2] (by kernel_rfl) fun Q hQ => ?_
 by_cases h0 : n = 0
 ·
  subst h0
  rw [decS_small (by decide)] at hQ
  refine runW ?_
  refine callV0 (zero_fn (n := 0) (by rw [wg_zero]; decide)) rfl rfl ?_
  rw [decide_eq_true rfl]
  refine runW ?_
  exact endW [] hQ
 ·
  have hnd := nd10_wg h0
  refine runW ?_
  refine callV0 (zero_fn (n := n) (by omega)) rfl rfl ?_
  rw [decide_eq_false h0]
  refine runW ?_
  refine loopW (X := Nat × Nat × List UInt8) (st := fun z => ([(1, .ref 0 0 0 0), (3, .lit (.string (bs z.2.2))), (4, .row 1 ((nl (wg z.1)).map (ie .u64)))], [some (.cells [.row 1 ((nl (wg n)).map (ie .u64))])]))
   (inv := fun z => (wg z.1).length ≤ 100000 ∧ ((z.1 = n / 10 ^ (18 * z.2.1) ∧ z.1 ≠ 0 ∧ z.2.2 = decB (decL (18 * z.2.1) n)) ∨ (z.1 = 0 ∧ z.2.2 = decS n))) (m := fun z => z.1) (n, 0, []) [some 0] ⟨hn, .inl ⟨by simp, h0, rfl⟩⟩ ?_
  rintro ⟨m, j, out⟩ ⟨hl, hi⟩
  simp only at hl hi ⊢
  have hnl := nl_len (wg m)
  rcases hi with ⟨hm, hm0, ho⟩ | ⟨rfl, rfl⟩
  ·
   obtain ⟨t1, t2, t3⟩ := text_step hm hm0 ho
   have hpos : 0 < (wg m).length := by
    rcases Nat.eq_zero_or_pos (wg m).length with e | e
    ·
     exact absurd (wg_nil.1 (List.length_eq_zero_iff.1 e)) hm0
    ·
     exact e
   have hjn : 18 * j < nd10 n := by
    have h1 := nd10_lt n
    refine (Nat.pow_lt_pow_iff_right (a := 10) (by decide)).1 (Nat.lt_of_le_of_lt ?_ h1)
    refine Classical.byContradiction fun hc => hm0 ?_
    rw [hm]; exact Nat.div_eq_of_lt (by omega)
   have hol : out.length = 18 * j := by rw [ho, decB_len, decL_len]
   have hsp := split_fn (W := wg m) (y := 1000000000000000000) (wg_lt m) (by omega) (by decide) (by decide)
   rw [wg_val] at hsp
   have hqv : valB 18446744073709551616 (fw 18446744073709551616 (wg m).length (m / 1000000000000000000)) = m / 1000000000000000000 := by
    have hlt : m < 18446744073709551616 ^ (wg m).length := dgB_lt_pow (B := 18446744073709551616) (by decide) m
    rw [fw_val (by decide), Nat.mod_eq_of_lt (Nat.lt_of_le_of_lt (Nat.div_le_self m _) hlt)]
   have hF := fw_len (B := 18446744073709551616) (wg m).length (m / 1000000000000000000)
   have hFl := fw_lt (B := 18446744073709551616) (by decide) (wg m).length (m / 1000000000000000000)
   have hml : (wg (m / 1000000000000000000)).length ≤ 100000 := Nat.le_trans (wg_mono (Nat.div_le_self _ _)) hl
   have hmd : m / 1000000000000000000 < m := Nat.div_lt_self (by omega) (by decide)
   have hnl2 := nl_len (wg (m / 1000000000000000000))
   have hfu := fuint_fn (u := m % 1000000000000000000) (Nat.lt_trans (Nat.mod_lt _ (by decide)) (by decide))
   have hrep := repeat0_fn (c := 18 - nd10 (m % 1000000000000000000)) (by omega)
   have hsl := decS_len (m % 1000000000000000000)
   have hi18 : (18 : Int) - (nd10 (m % 1000000000000000000) : Int) = ((18 - nd10 (m % 1000000000000000000) : Nat) : Int) := by omega
   generalize fw 18446744073709551616 (wg m).length (m / 1000000000000000000) = F at *
   generalize m / 1000000000000000000 = q at *
   generalize m % 1000000000000000000 = r at *
   rw [← hF] at hsp
   have hnF := nl_len F
   refine runW ?_
   refine callF (hsp) ?_
   refine runW ?_
   refine callW [] [1] (trimmed_fn (l := F) hFl (by omega)) ?_
   rw [hqv]
   refine runW ?_
   refine callV0 (hfu) rfl rfl ?_
   by_cases hq : q = 0
   ·
    have hz : (wg q).length = 0 := by rw [hq, wg_zero]; rfl
    refine runW ?_
    refine nextW (q, j + 1, decS r ++ out) [some 0] ⟨hml, .inr ⟨hq, t1 hq⟩⟩ hmd
   ·
    have hz : 0 < (wg q).length := by
     rcases Nat.eq_zero_or_pos (wg q).length with e | e
     ·
      exact absurd (wg_nil.1 (List.length_eq_zero_iff.1 e)) hq
     ·
      exact e
    obtain ⟨t3, t4⟩ := t2 hq
    simp (maxSteps := 1000000) (disch := (first | omega | (simp only [lnA, List.length_map, List.length_range, true_and, and_true]; (try omega); done) | fail)) only [go_sem, hsl, hi18, Int.reduceEq, Int.reduceToNat, Nat.reduceAdd, Nat.reduceMul, Nat.reduceEqDiff, ↓reduceIte]
    refine callV0 (hrep) rfl rfl ?_
    refine runW ?_
    refine nextW (q, j + 1, (List.replicate (18 - nd10 r) 48 ++ decS r) ++ out) [some 0] ⟨hml, .inl ⟨t4, hq, t3⟩⟩ hmd
  ·
   rw [wg_zero] at hnl
   simp (maxSteps := 1000000) (disch := (first | omega | (simp only [lnA, List.length_map, List.length_range, true_and, and_true]; (try omega); done) | fail)) only [go_sem, wg_zero, Int.reduceEq, Int.reduceToNat, Nat.reduceAdd, Nat.reduceMul, Nat.reduceEqDiff, ↓reduceIte]
   exact endW [] hQ
end Go.Proofs.YtdohmppildfjhaaGreatDoor
