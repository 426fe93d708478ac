import Derived.Test.YtdohmppildfjhaaGreatDoorE6
import Derived.Laws.Externs
import Derived.Test.YtdohmppildfjhaaGreatDoorRa
namespace Go.Eng
open Go.Vx
set_option linter.unusedSimpArgs false
set_option linter.unusedVariables false
theorem RepL_lits {w : World} {Im : Nat → Prop} {μ : Mu} : ∀ {xs args : List Value}, RepL w Im μ (xs.map V.lit) args → args = xs
 | [], args, h => List.length_eq_zero_iff.1 (by simpa using h.1)
 | x :: xs, args, h => by
  obtain ⟨v, vs, rfl, h1, h2⟩ := RepL.uncons h
  cases h1
  rw [RepL_lits h2]
theorem callX {P : Program} {e : Bool} {f : FuncId} {xs : List Value} {u : V} {v : Value} {σ : St} {K : KV} (h : ∀ w, (callFunc f xs.toArray).run P w = .ok (.value v) w)
  (hu : ∀ w Im μ, RepV w Im μ u v) (hk : K true u σ) : callV P e f (xs.map V.lit) σ K := fun μ Im w args r hr => by
 obtain rfl := RepL_lits hr
 unfold cllK callK runK
 rw [h]
 exact ⟨u, σ, μ, Im, r, Stp.refl _ _ _ _, fun _ => Ext.refl _ _, hu _ _ _, hk⟩
theorem two_rep {a b : Value} (ha : oneC a = true) (hb : oneC b = true) (w : World) (Im : Nat → Prop) (μ : Mu) : RepV w Im μ (.tup [.lit a, .lit b]) (.tuple #[a, b]) :=
 .tup (C := [a, b]) rfl fun i u c h1 h2 => by
  rcases i with _ | _ | i
  ·
   simp at h1 h2; subst h1; subst h2; exact .lit ha
  ·
   simp at h1 h2; subst h1; subst h2; exact .lit hb
  ·
   simp at h1
theorem call_add64 {P : Program} {e : Bool} {f : FuncId} {fn : Func} {x y c : Nat} {σ : St} {K : KV} (hf : P.funcs[f]? = some fn) (h1 : (fn.name == "runtime.NumGoroutine") = false)
  (h2 : fn.body.isNone = true) (h3 : Extern.findNext fn = none) (h4 : Extern.find fn = some add64Entry) (hc : c ≤ 1)
  (hk : K true (.tup [.lit (.int .u64 (((x + y + c) % 18446744073709551616 : Nat) : Int)), .lit (.int .u64 (((x + y + c) / 18446744073709551616 : Nat) : Int))]) σ) :
  callV P e f [.lit (.int .u64 (x : Int)), .lit (.int .u64 (y : Int)), .lit (.int .u64 (c : Int))] σ K := by
 refine callX (xs := [.int .u64 (x : Int), .int .u64 (y : Int), .int .u64 (c : Int)]) (fun w => ?_) (two_rep rfl rfl) hk
 rw [run_callFunc_extern hf h1 h2 h3 h4, run_add64 x y c (by omega) (by omega) (by omega) (by omega)]
 simp only [Result.andThen]
 congr 5 <;> omega
def sub64E : Array Value → Sem Value := (Extern.MathBitsCarry.rows.getD 1 ("", fun _ => stuck "")).2
theorem run_sub64E {P : Program} (x y b : Nat) (hb : b ≤ 1) (w : World) : (sub64E #[.int .u64 x, .int .u64 y, .int .u64 b]).run P w =
  .ok (.tuple #[.int .u64 (((x + 18446744073709551616 - y - b) % 18446744073709551616 : Nat) : Int), .int .u64 ((if x < y + b then 1 else 0 : Nat) : Int)]) w := by
 have : b = 0 ∨ b = 1 := by omega
 rcases this with rfl | rfl <;> rfl
theorem call_sub64 {P : Program} {e : Bool} {f : FuncId} {fn : Func} {x y c : Nat} {σ : St} {K : KV} (hf : P.funcs[f]? = some fn) (h1 : (fn.name == "runtime.NumGoroutine") = false)
  (h2 : fn.body.isNone = true) (h3 : Extern.findNext fn = none) (h4 : Extern.find fn = some sub64E) (hc : c ≤ 1)
  (hk : K true (.tup [.lit (.int .u64 (((x + 18446744073709551616 - y - c) % 18446744073709551616 : Nat) : Int)), .lit (.int .u64 ((if x < y + c then 1 else 0 : Nat) : Int))]) σ) :
  callV P e f [.lit (.int .u64 (x : Int)), .lit (.int .u64 (y : Int)), .lit (.int .u64 (c : Int))] σ K := by
 refine callX (xs := [.int .u64 (x : Int), .int .u64 (y : Int), .int .u64 (c : Int)]) (fun w => ?_) (two_rep rfl rfl) hk
 rw [run_callFunc_extern hf h1 h2 h3 h4, run_sub64E x y c hc]
 rfl
end Go.Eng

namespace Go.Proofs.YtdohmppildfjhaaGreatDoor
open Go.Eng Go.Vx
set_option linter.unusedSimpArgs false
set_option linter.unusedVariables false
set_option maxRecDepth 100000
def wg (n : Nat) : List Nat := dgB 18446744073709551616 n
def NV (n : Nat) : V := .agg [.row 1 ((nl (wg n)).map (ie .u64))]
attribute [go_sem] NV
theorem wg_lt (n : Nat) : ∀ d ∈ wg n, d < 18446744073709551616 := dgB_lt (B := 18446744073709551616) (by decide) n
theorem wg_val (n : Nat) : valB 18446744073709551616 (wg n) = n := dgB_val (by decide) n
theorem wg_zero : wg 0 = [] := dgB_zero _
theorem wg_nil {n : Nat} : wg n = [] ↔ n = 0 := dgB_nil (by decide)
theorem wg_len {n k : Nat} (h : n < 18446744073709551616 ^ k) : (wg n).length ≤ k := (dgB_len_le (by decide)).2 h
theorem wg_mono {a b : Nat} (h : a ≤ b) : (wg a).length ≤ (wg b).length := dgB_len_mono (by decide) h
theorem wg_one {n : Nat} (h : n < 18446744073709551616) : (wg n).length ≤ 1 := wg_len (by simpa using h)
theorem trimmed_fn {l : List Nat} (hl : ∀ d ∈ l, d < 18446744073709551616) (hm : l.length ≤ 4000000) : Fn1 Tryz.prog 84 [.row 1 ((nl l).map (ie .u64))] [] (NV (valB 18446744073709551616 l)) [] := by
 refine fn1N_of pl84 (by kernel_rfl) Tryz.call84 Tryz.func84 rfl (by kernel_rfl) rfl [.cell 2 31] (by kernel_rfl) fun Q hQ => ?_
 have hnl := nl_len l
 refine runW ?_
 refine loopW (X := Nat) (st := fun n => ([(0, .row 1 ((nl l).map (ie .u64))), (2, .ref 0 0 0 0), (3, .lit (.int .i64 (n : Int)))], [some (.cells [.row 1 []])]))
  (inv := fun n => n ≤ l.length ∧ ∀ i, n ≤ i → i < l.length → l.getD i 0 = 0) (m := fun n => n) l.length [some 0] ⟨by omega, fun i h1 h2 => by omega⟩ ?_
 rintro n ⟨hn, h0⟩
 by_cases h : 0 < n
 ·
  obtain ⟨k, rfl⟩ : ∃ k, n = k + 1 := ⟨n - 1, by omega⟩
  have hg := nl_get l k
  have hk : (((k + 1 : Nat) : Int) - 1).toNat = k := by omega
  by_cases hz : l.getD k 0 = 0
  ·
   simp (maxSteps := 1000000) (disch := (first | omega | (simp only [lnA, List.length_map, List.length_range, true_and, and_true]; (try omega); done) | fail)) only [go_sem, hk, hg, hz, Int.reduceEq, Int.reduceToNat, Nat.reduceAdd, Nat.reduceMul, Nat.reduceEqDiff, ↓reduceIte]
   refine nextW k [some 0] ⟨by omega, fun i h1 h2 => ?_⟩ (by omega)
   rcases Nat.eq_or_lt_of_le h1 with e | e
   ·
    rw [← e]; exact hz
   ·
    exact h0 i e h2
  ·
   have ht : l.take _ = wg (valB 18446744073709551616 l) := dgB_trim (B := 18446744073709551616) (by decide) hl hn h0 (.inr (by rw [Nat.add_sub_cancel]; exact hz))
   simp (maxSteps := 1000000) (disch := (first | omega | (simp only [lnA, List.length_map, List.length_range, true_and, and_true]; (try omega); done) | fail)) only [go_sem, hk, hg, Int.reduceEq, Int.reduceToNat, Nat.reduceAdd, Nat.reduceMul, Nat.reduceEqDiff, ↓reduceIte]
   rw [nl_takeR, ht]
   exact endW [] hQ
 ·
  obtain rfl : n = 0 := by omega
  have ht : l.take _ = wg (valB 18446744073709551616 l) := dgB_trim (B := 18446744073709551616) (by decide) hl hn h0 (.inl rfl)
  refine runW ?_
  rw [nl_takeR, ht]
  exact endW [] hQ
theorem cloneN_fn {B : List Nat} (hB : B.length ≤ 4000000) : Fn1 Tryz.prog 109 [.row 1 ((nl B).map (ie .u64))] [] (.row 1 ((nl B).map (ie .u64))) [] := by
 refine fn1N_of pl109 (by kernel_rfl) Tryz.call109 Tryz.func109 rfl (by kernel_rfl) rfl [.tmp 2] (by kernel_rfl) fun Q hQ => ?_
 have hnl := nl_len B
 by_cases h : B = []
 ·
  subst h
  simp (maxSteps := 1000000) (disch := (first | omega | (simp only [lnA, List.length_map, List.length_range, true_and, and_true]; (try omega); done) | fail)) only [go_sem, List.isEmpty_nil, Int.reduceEq, Int.reduceToNat, Nat.reduceAdd, Nat.reduceMul, Nat.reduceEqDiff, ↓reduceIte]
  refine nilB_both ?_ ?_
  ·
   refine runW ?_
   exact endW [] hQ
  ·
   refine runW ?_
   exact endW [] hQ
 ·
  have he : ((nl B).map (ie .u64)).isEmpty = false := by simp [h, nl]
  simp (maxSteps := 1000000) (disch := (first | omega | (simp only [lnA, List.length_map, List.length_range, true_and, and_true]; (try omega); done) | fail)) only [go_sem, he, Int.reduceEq, Int.reduceToNat, Nat.reduceAdd, Nat.reduceMul, Nat.reduceEqDiff, ↓reduceIte]
  exact endW [] hQ
theorem of_fn {l : List Nat} (hl : ∀ d ∈ l, d < 18446744073709551616) (hm : l.length ≤ 4000000) : Fn1 Tryz.prog 76 [.row 1 ((nl l).map (ie .u64))] [] (NV (valB 18446744073709551616 l)) [] := by
 refine fn1N_of pl76 (by kernel_rfl) Tryz.call76 Tryz.func76 rfl (by kernel_rfl) rfl [.cell 2 31] (by kernel_rfl) fun Q hQ => ?_
 refine runW ?_
 refine callV0 (cloneN_fn (B := l) hm) rfl rfl ?_
 refine runW ?_
 refine callV0 (trimmed_fn hl hm) rfl rfl ?_
 refine runW ?_
 exact endW [] hQ
theorem of1_fn {x : Nat} (hx : x < 18446744073709551616) : Fn1 Tryz.prog 76 [.row 1 [[.lit (.int .u64 (x : Int))]]] [] (NV x) [] := by
 have h := of_fn (l := [x]) (by simpa using hx) (by simp)
 rwa [show valB 18446744073709551616 [x] = x by simp [valB]] at h
theorem zero_fn {n : Nat} (hn : (wg n).length ≤ 4000000) : Fn1 Tryz.prog 85 [NV n] [] (.lit (.bool (decide (n = 0)))) [] := by
 refine fn1N_of pl85 (by kernel_rfl) Tryz.call85 Tryz.func85 rfl (by kernel_rfl) rfl [.tmp 2] (by kernel_rfl) fun Q hQ => ?_
 have hnl := nl_len (wg n)
 by_cases h : n = 0
 ·
  subst h
  rw [wg_zero] at hnl
  simp (maxSteps := 1000000) (disch := (first | omega | (simp only [lnA, List.length_map, List.length_range, true_and, and_true]; (try omega); done) | fail)) only [go_sem, wg_zero, Int.reduceEq, Int.reduceToNat, Nat.reduceAdd, Nat.reduceMul, Nat.reduceEqDiff, ↓reduceIte]
  exact endW [] hQ
 ·
  have h0 : 0 < (wg n).length := by
   rcases Nat.eq_zero_or_pos (wg n).length with e | e
   ·
    exact absurd (wg_nil.1 (List.length_eq_zero_iff.1 e)) h
   ·
    exact e
  rw [decide_eq_false h] at hQ
  have hd : decide (((nl (wg n)).length : Int) = 0) = false := decide_eq_false (by omega)
  simp (maxSteps := 1000000) (disch := (first | omega | (simp only [lnA, List.length_map, List.length_range, true_and, and_true]; (try omega); done) | fail)) only [go_sem, hd, Int.reduceEq, Int.reduceToNat, Nat.reduceAdd, Nat.reduceMul, Nat.reduceEqDiff, ↓reduceIte]
  exact endW [] hQ
theorem ncmp_fn {a b : Nat} (ha : (wg a).length ≤ 4000000) (hb : (wg b).length ≤ 4000000) : Fn1 Tryz.prog 74 [NV a, NV b] [] (.lit (.int .i64 (cmpI a b))) [] := by
 refine fn1N_of pl74 (by kernel_rfl) Tryz.call74 Tryz.func74 rfl (by kernel_rfl) rfl [.tmp 4] (by kernel_rfl) fun Q hQ => ?_
 have hal := wg_lt a
 have hbl := wg_lt b
 have hav := wg_val a
 have hbv := wg_val b
 have hnA := nl_len (wg a)
 have hnB := nl_len (wg b)
 unfold cmpI at hQ
 by_cases hl : (wg a).length = (wg b).length
 ·
  refine runW ?_
  refine loopW (X := Nat) (st := fun k => ([(2, .ref 0 0 0 0), (3, .ref 1 0 0 0), (6, .lit (.int .i64 ((k : Int) - 1)))], [some (.cells [.row 1 ((nl (wg a)).map (ie .u64))]), some (.cells [.row 1 ((nl (wg b)).map (ie .u64))])]))
   (inv := fun k => k ≤ (wg a).length ∧ (wg a).drop k = (wg b).drop k) (m := fun k => k) (wg a).length [some 0, some 1] ⟨by omega, by rw [List.drop_of_length_le (Nat.le_refl _), List.drop_of_length_le (by omega)]⟩ ?_
  rintro k ⟨hk, hd⟩
  by_cases h : 0 < k
  ·
   obtain ⟨i, rfl⟩ : ∃ i, k = i + 1 := ⟨k - 1, by omega⟩
   have hga := nl_get (wg a) i
   have hgb := nl_get (wg b) i
   have hki : (((i + 1 : Nat) : Int) - 1).toNat = i := by omega
   by_cases h1 : (wg a).getD i 0 < (wg b).getD i 0
   ·
    have hlt := valB_cmp (by decide) hal hbl hl (by omega) hd h1
    rw [hav, hbv] at hlt
    rw [if_pos hlt] at hQ
    simp (maxSteps := 1000000) (disch := (first | omega | (simp only [lnA, List.length_map, List.length_range, true_and, and_true]; (try omega); done) | fail)) only [go_sem, hki, hga, hgb, Int.reduceEq, Int.reduceToNat, Nat.reduceAdd, Nat.reduceMul, Nat.reduceEqDiff, ↓reduceIte]
    exact endW [] hQ
   ·
    by_cases h2 : (wg b).getD i 0 < (wg a).getD i 0
    ·
     have hlt := valB_cmp (by decide) hbl hal hl.symm (by omega) hd.symm h2
     rw [hav, hbv] at hlt
     rw [if_neg (by omega), if_pos hlt] at hQ
     simp (maxSteps := 1000000) (disch := (first | omega | (simp only [lnA, List.length_map, List.length_range, true_and, and_true]; (try omega); done) | fail)) only [go_sem, hki, hga, hgb, Int.reduceEq, Int.reduceToNat, Nat.reduceAdd, Nat.reduceMul, Nat.reduceEqDiff, ↓reduceIte]
     exact endW [] hQ
    ·
     simp (maxSteps := 1000000) (disch := (first | omega | (simp only [lnA, List.length_map, List.length_range, true_and, and_true]; (try omega); done) | fail)) only [go_sem, hki, hga, hgb, Int.reduceEq, Int.reduceToNat, Nat.reduceAdd, Nat.reduceMul, Nat.reduceEqDiff, ↓reduceIte]
     refine nextW i [some 0, some 1] ⟨by omega, ?_⟩ (by omega)
     rw [List.drop_eq_getElem_cons (show i < (wg a).length by omega), List.drop_eq_getElem_cons (show i < (wg b).length by omega), hd]
     congr 1
     simp only [List.getD_eq_getElem?_getD, List.getElem?_eq_getElem (show i < (wg a).length by omega), List.getElem?_eq_getElem (show i < (wg b).length by omega), Option.getD_some] at h1 h2
     omega
  ·
   obtain rfl : k = 0 := by omega
   rw [List.drop_zero, List.drop_zero] at hd
   rw [hd] at hav
   rw [if_neg (by omega), if_neg (by omega)] at hQ
   refine runW ?_
   exact endW [] hQ
 ·
  by_cases h : (wg a).length < (wg b).length
  ·
   have hlt := dgB_len_lt (B := 18446744073709551616) (by decide) h
   rw [if_pos hlt] at hQ
   have hmm : max (-1) (min (((wg a).length : Int) - ((wg b).length : Int)) 1) = -1 := by omega
   simp (maxSteps := 1000000) (disch := (first | omega | (simp only [lnA, List.length_map, List.length_range, true_and, and_true]; (try omega); done) | fail)) only [go_sem, hmm, Int.reduceEq, Int.reduceToNat, Nat.reduceAdd, Nat.reduceMul, Nat.reduceEqDiff, ↓reduceIte]
   exact endW [] hQ
  ·
   have hlt := dgB_len_lt (B := 18446744073709551616) (by decide) (show (wg b).length < (wg a).length by omega)
   rw [if_neg (by omega), if_pos hlt] at hQ
   have hmm : max (-1) (min (((wg a).length : Int) - ((wg b).length : Int)) 1) = 1 := by omega
   simp (maxSteps := 1000000) (disch := (first | omega | (simp only [lnA, List.length_map, List.length_range, true_and, and_true]; (try omega); done) | fail)) only [go_sem, hmm, Int.reduceEq, Int.reduceToNat, Nat.reduceAdd, Nat.reduceMul, Nat.reduceEqDiff, ↓reduceIte]
   exact endW [] hQ
def pad (L : List Nat) (k : Nat) : List Nat := L ++ List.replicate (k - L.length) 0
theorem pad_len {L : List Nat} {k : Nat} (h : L.length ≤ k) : (pad L k).length = k := by unfold pad; simp; omega
theorem pad_set {L : List Nat} {k x : Nat} (h : L.length < k) : (pad L k).set L.length x = pad (L ++ [x]) k := by
 unfold pad
 obtain ⟨m, hm⟩ : ∃ m, k - L.length = m + 1 := ⟨k - L.length - 1, by omega⟩
 rw [hm, List.replicate_succ, List.set_append_right (h := Nat.le_refl _), Nat.sub_self, List.set_cons_zero, List.length_append, List.length_singleton, show k - (L.length + 1) = m by omega, List.append_assoc]
 rfl
theorem pad_full {L : List Nat} {k : Nat} (h : L.length = k) : pad L k = L := by unfold pad; rw [h, Nat.sub_self]; simp
theorem pad_nil (k : Nat) : pad [] k = List.replicate k 0 := rfl
set_option maxHeartbeats 4000000 in
theorem nadd_fn {a b : Nat} (ha : (wg a).length ≤ 2000000) (hb : (wg b).length ≤ 2000000) : Fn1 Tryz.prog 81 [NV a, NV b] [] (NV (a + b)) [] := by
 refine fn1N_of pl81 (by kernel_rfl) Tryz.call81 Tryz.func81 rfl (by kernel_rfl) rfl [.cell 4 31] (by kernel_rfl) fun Q hQ => ?_
 by_cases h : (wg a).length < (wg b).length
 case' pos =>
  have hnA := nl_len (wg a)
  have hnB := nl_len (wg b)
  refine runW ?_
  rw [Nat.add_comm a b] at hQ
  have hle : (wg a).length ≤ (wg b).length := by omega
  clear h hnA hnB
  generalize b = x at *
  generalize a = y at *
 case' neg =>
  have hnA := nl_len (wg a)
  have hnB := nl_len (wg b)
  refine runW ?_
  have hle : (wg b).length ≤ (wg a).length := by omega
  clear h hnA hnB
  generalize a = x at *
  generalize b = y at *
 all_goals
  have hal := wg_lt x
  have hbl := wg_lt y
  have hav := wg_val x
  have hbv := wg_val y
  have hnA := nl_len (wg x)
  have hnB := nl_len (wg y)
  refine LoopV_of (X := List Nat × Nat) (st := fun z => ([(2, .ref 0 0 0 0), (3, .ref 1 0 0 0), (4, .ref 2 0 0 0), (5, .sl 3 1 0 ((wg x).length + 1)), (6, .lit (.int .u64 (z.2 : Int))), (25, .row 1 ((nl (wg x)).map (ie .u64))), (26, .lit (.int .i64 ((wg x).length : Int))), (27, .lit (.int .i64 (z.1.length : Int)))],
    [some (.cells [.row 1 ((nl (wg x)).map (ie .u64))]), some (.cells [.row 1 ((nl (wg y)).map (ie .u64))]), some (.cells [.lit (.slice none 0 0)]), some (.row 1 ((nl (pad z.1 ((wg x).length + 1))).map (ie .u64)))]))
   (inv := fun z => (∀ d ∈ z.1, d < 18446744073709551616) ∧ z.2 ≤ 1 ∧ valB 18446744073709551616 z.1 + 18446744073709551616 ^ z.1.length * z.2 = valB 18446744073709551616 ((wg x).take z.1.length) + valB 18446744073709551616 ((wg y).take z.1.length) ∧ z.1.length ≤ (wg x).length)
   (m := fun z => (wg x).length - z.1.length) ([], 0) [some 0, some 1, some 2, some 3] rfl (by simp only [pad_nil, ← nl_rep]; (simp (disch := (first | omega | (simp only [lnA, List.length_map, List.length_range, true_and, and_true]; (try omega); done) | fail)) only [go_sem, Int.reduceEq, Int.reduceToNat, Nat.reduceAdd, Nat.reduceMul, Nat.reduceEqDiff, ↓reduceIte, true_and, and_true, and_self, List.drop_zero, List.take_length, Nat.le_refl, V.lit.injEq, Value.int.injEq, Value.bool.injEq]; try (first | omega | (simp; done) | (simp; omega)))) (by simp (disch := (first | omega | (simp only [lnA, List.length_map, List.length_range, true_and, and_true]; (try omega); done) | fail)) only [go_sem, Int.reduceEq, Int.reduceToNat, Nat.reduceAdd, Nat.reduceMul, Nat.reduceEqDiff, ↓reduceIte, true_and, and_true, and_self, List.drop_zero, List.take_length, Nat.le_refl, V.lit.injEq, Value.int.injEq, Value.bool.injEq]; try (first | omega | (simp; done) | (simp; omega))) ⟨by simp, by simp, by simp [valB], by simp⟩ ?_
  rintro ⟨L, c⟩ ⟨hL, hc, hv, hll⟩
  simp only at hL hc hv hll ⊢
  have hpl := pad_len (L := L) (k := (wg x).length + 1) (by omega)
  have hnp := nl_len (pad L ((wg x).length + 1))
  by_cases h1 : L.length < (wg x).length
  ·
   have hga := nl_get (wg x) L.length
   have hgb := nl_get (wg y) L.length
   have hxa := getD_ltB (by decide) hal L.length
   have hxb := getD_ltB (by decide) hbl L.length
   have hzb : (wg y).length ≤ L.length → (wg y).getD L.length 0 = 0 := getD_out
   have hst := add_step hv
   generalize (wg x).getD L.length 0 = u at *
   generalize (wg y).getD L.length 0 = v at *
   have hcs : u + v + c = c + u + v := by omega
   have hset := nl_set (pad L ((wg x).length + 1)) L.length ((c + u + v) % 18446744073709551616)
   rw [pad_set (by omega)] at hset
   have hinv : (∀ d ∈ L ++ [(c + u + v) % 18446744073709551616], d < 18446744073709551616) ∧ (c + u + v) / 18446744073709551616 ≤ 1 := ⟨snocB hL (Nat.mod_lt _ (by decide)), by omega⟩
   by_cases h2 : L.length < (wg y).length
   ·
    simp (maxSteps := 1000000) (disch := (first | omega | (simp only [lnA, List.length_map, List.length_range, true_and, and_true]; (try omega); done) | fail)) only [go_sem, hga, hgb, Int.reduceEq, Int.reduceToNat, Nat.reduceAdd, Nat.reduceMul, Nat.reduceEqDiff, ↓reduceIte]
    refine call_add64 Tryz.func83 (by kernel_rfl) (by kernel_rfl) (by kernel_rfl) (by kernel_rfl) (by omega) ?_
    rw [hcs]
    simp (maxSteps := 1000000) (disch := (first | omega | (simp only [lnA, List.length_map, List.length_range, true_and, and_true]; (try omega); done) | fail)) only [go_sem, hset, Int.reduceEq, Int.reduceToNat, Nat.reduceAdd, Nat.reduceMul, Nat.reduceEqDiff, ↓reduceIte]
    refine NextV_of (L ++ [(c + u + v) % 18446744073709551616], (c + u + v) / 18446744073709551616) [some 0, some 1, some 2, some 3] rfl (by simp only [List.length_append, List.length_cons, List.length_nil]; (simp (disch := (first | omega | (simp only [lnA, List.length_map, List.length_range, true_and, and_true]; (try omega); done) | fail)) only [go_sem, Int.reduceEq, Int.reduceToNat, Nat.reduceAdd, Nat.reduceMul, Nat.reduceEqDiff, ↓reduceIte, true_and, and_true, and_self, List.drop_zero, List.take_length, Nat.le_refl, V.lit.injEq, Value.int.injEq, Value.bool.injEq]; try (first | omega | (simp; done) | (simp; omega)))) (by (simp (disch := (first | omega | (simp only [lnA, List.length_map, List.length_range, true_and, and_true]; (try omega); done) | fail)) only [go_sem, Int.reduceEq, Int.reduceToNat, Nat.reduceAdd, Nat.reduceMul, Nat.reduceEqDiff, ↓reduceIte, true_and, and_true, and_self, List.drop_zero, List.take_length, Nat.le_refl, V.lit.injEq, Value.int.injEq, Value.bool.injEq]; try (first | omega | (simp; done) | (simp; omega)))) ⟨hinv.1, hinv.2, by simp only [List.length_append, List.length_cons, List.length_nil]; exact hst, by simp only [List.length_append, List.length_cons, List.length_nil]; omega⟩ (by simp only [List.length_append, List.length_cons, List.length_nil]; omega)
   ·
    obtain rfl : v = 0 := hzb (by omega)
    simp only [Nat.add_zero] at hst hset hinv
    rw [Nat.add_zero, Nat.add_zero] at hcs
    simp (maxSteps := 1000000) (disch := (first | omega | (simp only [lnA, List.length_map, List.length_range, true_and, and_true]; (try omega); done) | fail)) only [go_sem, hga, Int.reduceEq, Int.reduceToNat, Nat.reduceAdd, Nat.reduceMul, Nat.reduceEqDiff, ↓reduceIte]
    refine call_add64 (y := 0) Tryz.func83 (by kernel_rfl) (by kernel_rfl) (by kernel_rfl) (by kernel_rfl) (by omega) ?_
    rw [Nat.add_zero, hcs]
    simp (maxSteps := 1000000) (disch := (first | omega | (simp only [lnA, List.length_map, List.length_range, true_and, and_true]; (try omega); done) | fail)) only [go_sem, hset, Int.reduceEq, Int.reduceToNat, Nat.reduceAdd, Nat.reduceMul, Nat.reduceEqDiff, ↓reduceIte]
    refine NextV_of (L ++ [(c + u) % 18446744073709551616], (c + u) / 18446744073709551616) [some 0, some 1, some 2, some 3] rfl (by simp only [List.length_append, List.length_cons, List.length_nil]; (simp (disch := (first | omega | (simp only [lnA, List.length_map, List.length_range, true_and, and_true]; (try omega); done) | fail)) only [go_sem, Int.reduceEq, Int.reduceToNat, Nat.reduceAdd, Nat.reduceMul, Nat.reduceEqDiff, ↓reduceIte, true_and, and_true, and_self, List.drop_zero, List.take_length, Nat.le_refl, V.lit.injEq, Value.int.injEq, Value.bool.injEq]; try (first | omega | (simp; done) | (simp; omega)))) (by (simp (disch := (first | omega | (simp only [lnA, List.length_map, List.length_range, true_and, and_true]; (try omega); done) | fail)) only [go_sem, Int.reduceEq, Int.reduceToNat, Nat.reduceAdd, Nat.reduceMul, Nat.reduceEqDiff, ↓reduceIte, true_and, and_true, and_self, List.drop_zero, List.take_length, Nat.le_refl, V.lit.injEq, Value.int.injEq, Value.bool.injEq]; try (first | omega | (simp; done) | (simp; omega)))) ⟨hinv.1, hinv.2, by simp only [List.length_append, List.length_cons, List.length_nil]; exact hst, by simp only [List.length_append, List.length_cons, List.length_nil]; omega⟩ (by simp only [List.length_append, List.length_cons, List.length_nil]; omega)
  ·
   have hLe : L.length = (wg x).length := by omega
   have e1 : (wg x).take L.length = wg x := List.take_of_length_le (by omega)
   have e2 : (wg y).take L.length = wg y := List.take_of_length_le (by omega)
   rw [e1, e2, hav, hbv] at hv
   have hset := nl_set (pad L ((wg x).length + 1)) L.length c
   rw [pad_set (by omega), pad_full (L := L ++ [c]) (by simp only [List.length_append, List.length_cons, List.length_nil]; omega), hLe] at hset
   have hval : valB 18446744073709551616 (L ++ [c]) = x + y := by rw [valB_snoc]; exact hv
   have hlc : (L ++ [c]).length = (wg x).length + 1 := by simp only [List.length_append, List.length_cons, List.length_nil]; omega
   have hls := nl_len (L ++ [c])
   have hset2 : (nl (pad L ((wg x).length + 1))).set (nl (wg x)).length (c : Int) = nl (L ++ [c]) := by rw [hnA]; exact hset
   simp (maxSteps := 1000000) (disch := (first | omega | (simp only [lnA, List.length_map, List.length_range, true_and, and_true]; (try omega); done) | fail)) only [go_sem, hset2, Int.reduceEq, Int.reduceToNat, Nat.reduceAdd, Nat.reduceMul, Nat.reduceEqDiff, ↓reduceIte]
   refine callW [] [3] (trimmed_fn (l := L ++ [c]) (snocB hL (by omega)) (by omega)) ?_
   rw [hval]
   refine runW ?_
   exact endW [] hQ
theorem cmpI_neg {a b : Nat} : cmpI a b < 0 ↔ a < b := by unfold cmpI; split <;> (try split) <;> omega
theorem sub_digit {u v c : Nat} (hu : u < 18446744073709551616) (hv : v < 18446744073709551616) (hc : c ≤ 1) :
  u + 18446744073709551616 * (if u < v + c then 1 else 0) = (u + 18446744073709551616 - v - c) % 18446744073709551616 + c + v ∧ (if u < v + c then 1 else 0) ≤ 1 ∧ (u + 18446744073709551616 - v - c) % 18446744073709551616 < 18446744073709551616 := by
 split <;> omega
theorem NV_zero : NV 0 = .agg [.row 1 []] := by unfold NV; rw [wg_zero]; rfl
theorem nsubE_fn {a b : Nat} (hba : a < b) (ha : (wg a).length ≤ 2000000) (hb : (wg b).length ≤ 2000000) : Fn1 Tryz.prog 80 [NV a, NV b] [] (.tup [NV 0, .lit (.int .i64 2)]) [] := by
 refine fn1N_of pl80 (by kernel_rfl) Tryz.call80 Tryz.func80 rfl (by kernel_rfl) rfl [.cell 4 31, .tmp 5] (by kernel_rfl) fun Q hQ => ?_
 have hc := cmpI_neg.2 hba
 rw [NV_zero] at hQ
 refine runW ?_
 refine callV0 (ncmp_fn (a := a) (b := b) (by omega) (by omega)) rfl rfl ?_
 simp (maxSteps := 1000000) (disch := (first | omega | (simp only [lnA, List.length_map, List.length_range, true_and, and_true]; (try omega); done) | fail)) only [go_sem, decide_eq_true hc, Int.reduceEq, Int.reduceToNat, Nat.reduceAdd, Nat.reduceMul, Nat.reduceEqDiff, ↓reduceIte]
 exact endW [] hQ
set_option maxHeartbeats 4000000 in
theorem nsub_fn {a b : Nat} (hba : b ≤ a) (ha : (wg a).length ≤ 2000000) : Fn1 Tryz.prog 80 [NV a, NV b] [] (.tup [NV (a - b), .lit (.int .i64 0)]) [] := by
 refine fn1N_of pl80 (by kernel_rfl) Tryz.call80 Tryz.func80 rfl (by kernel_rfl) rfl [.cell 4 31, .tmp 5] (by kernel_rfl) fun Q hQ => ?_
 have hc : ¬ cmpI a b < 0 := fun h => by have := cmpI_neg.1 h; omega
 have hal := wg_lt a
 have hbl := wg_lt b
 have hav := wg_val a
 have hbv := wg_val b
 have hnA := nl_len (wg a)
 have hnB := nl_len (wg b)
 have hle : (wg b).length ≤ (wg a).length := wg_mono hba
 refine runW ?_
 refine callV0 (ncmp_fn (a := a) (b := b) (by omega) (by omega)) rfl rfl ?_
 simp (maxSteps := 1000000) (disch := (first | omega | (simp only [lnA, List.length_map, List.length_range, true_and, and_true]; (try omega); done) | fail)) only [go_sem, decide_eq_false hc, Int.reduceEq, Int.reduceToNat, Nat.reduceAdd, Nat.reduceMul, Nat.reduceEqDiff, ↓reduceIte]
 refine LoopV_of (X := List Nat × Nat) (st := fun z => ([(2, .ref 0 0 0 0), (3, .ref 1 0 0 0), (4, .ref 2 0 0 0), (6, .sl 3 1 0 ((wg a).length)), (7, .lit (.int .u64 (z.2 : Int))), (21, .row 1 ((nl (wg a)).map (ie .u64))), (22, .lit (.int .i64 ((wg a).length : Int))), (23, .lit (.int .i64 (z.1.length : Int)))],
   [some (.cells [.row 1 ((nl (wg a)).map (ie .u64))]), some (.cells [.row 1 ((nl (wg b)).map (ie .u64))]), some (.cells [.lit (.slice none 0 0)]), some (.row 1 ((nl (pad z.1 (wg a).length)).map (ie .u64)))]))
  (inv := fun z => (∀ d ∈ z.1, d < 18446744073709551616) ∧ z.2 ≤ 1 ∧ valB 18446744073709551616 ((wg a).take z.1.length) + 18446744073709551616 ^ z.1.length * z.2 = valB 18446744073709551616 z.1 + valB 18446744073709551616 ((wg b).take z.1.length) ∧ z.1.length ≤ (wg a).length)
  (m := fun z => (wg a).length - z.1.length) ([], 0) [some 0, some 1, some 2, some 3] rfl (by simp only [pad_nil, ← nl_rep]; (simp (disch := (first | omega | (simp only [lnA, List.length_map, List.length_range, true_and, and_true]; (try omega); done) | fail)) only [go_sem, Int.reduceEq, Int.reduceToNat, Nat.reduceAdd, Nat.reduceMul, Nat.reduceEqDiff, ↓reduceIte, true_and, and_true, and_self, List.drop_zero, List.take_length, Nat.le_refl, V.lit.injEq, Value.int.injEq, Value.bool.injEq]; try (first | omega | (simp; done) | (simp; omega)))) (by simp (disch := (first | omega | (simp only [lnA, List.length_map, List.length_range, true_and, and_true]; (try omega); done) | fail)) only [go_sem, Int.reduceEq, Int.reduceToNat, Nat.reduceAdd, Nat.reduceMul, Nat.reduceEqDiff, ↓reduceIte, true_and, and_true, and_self, List.drop_zero, List.take_length, Nat.le_refl, V.lit.injEq, Value.int.injEq, Value.bool.injEq]; try (first | omega | (simp; done) | (simp; omega))) ⟨by simp, by simp, by simp [valB], by simp⟩ ?_
 rintro ⟨L, c⟩ ⟨hL, hc, hv, hll⟩
 simp only at hL hc hv hll ⊢
 have hpl := pad_len (L := L) (k := (wg a).length) (by omega)
 have hnp := nl_len (pad L (wg a).length)
 by_cases h1 : L.length < (wg a).length
 ·
  have hga := nl_get (wg a) L.length
  have hgb := nl_get (wg b) L.length
  have hxa := getD_ltB (by decide) hal L.length
  have hxb := getD_ltB (by decide) hbl L.length
  have hzb : (wg b).length ≤ L.length → (wg b).getD L.length 0 = 0 := getD_out
  have hst := fun z c' h => sub_step (x := z) (c' := c') hv h
  generalize (wg a).getD L.length 0 = u at *
  generalize (wg b).getD L.length 0 = v at *
  obtain ⟨hd, hd1, hd2⟩ := sub_digit hxa hxb hc
  have hst := hst _ _ hd
  have hset : ∀ s : Nat, (nl (pad L (wg a).length)).set L.length (s : Int) = nl (pad (L ++ [s]) (wg a).length) := fun s => by rw [nl_set, pad_set (by omega)]
  by_cases h2 : L.length < (wg b).length
  ·
   generalize hs : (u + 18446744073709551616 - v - c) % 18446744073709551616 = s at *
   generalize hcc : (if u < v + c then 1 else 0) = c' at *
   simp (maxSteps := 1000000) (disch := (first | omega | (simp only [lnA, List.length_map, List.length_range, true_and, and_true]; (try omega); done) | fail)) only [go_sem, hga, hgb, Int.reduceEq, Int.reduceToNat, Nat.reduceAdd, Nat.reduceMul, Nat.reduceEqDiff, ↓reduceIte]
   refine call_sub64 Tryz.func111 (by kernel_rfl) (by kernel_rfl) (by kernel_rfl) (by kernel_rfl) (by omega) ?_
   rw [hs, hcc]
   simp (maxSteps := 1000000) (disch := (first | omega | (simp only [lnA, List.length_map, List.length_range, true_and, and_true]; (try omega); done) | fail)) only [go_sem, hset, Int.reduceEq, Int.reduceToNat, Nat.reduceAdd, Nat.reduceMul, Nat.reduceEqDiff, ↓reduceIte]
   refine NextV_of (L ++ [s], c') [some 0, some 1, some 2, some 3] rfl (by simp only [List.length_append, List.length_cons, List.length_nil]; (simp (disch := (first | omega | (simp only [lnA, List.length_map, List.length_range, true_and, and_true]; (try omega); done) | fail)) only [go_sem, Int.reduceEq, Int.reduceToNat, Nat.reduceAdd, Nat.reduceMul, Nat.reduceEqDiff, ↓reduceIte, true_and, and_true, and_self, List.drop_zero, List.take_length, Nat.le_refl, V.lit.injEq, Value.int.injEq, Value.bool.injEq]; try (first | omega | (simp; done) | (simp; omega)))) (by (simp (disch := (first | omega | (simp only [lnA, List.length_map, List.length_range, true_and, and_true]; (try omega); done) | fail)) only [go_sem, Int.reduceEq, Int.reduceToNat, Nat.reduceAdd, Nat.reduceMul, Nat.reduceEqDiff, ↓reduceIte, true_and, and_true, and_self, List.drop_zero, List.take_length, Nat.le_refl, V.lit.injEq, Value.int.injEq, Value.bool.injEq]; try (first | omega | (simp; done) | (simp; omega)))) ⟨snocB hL hd2, hd1, by simp only [List.length_append, List.length_cons, List.length_nil]; exact hst, by simp only [List.length_append, List.length_cons, List.length_nil]; omega⟩ (by simp only [List.length_append, List.length_cons, List.length_nil]; omega)
  ·
   obtain rfl : v = 0 := hzb (by omega)
   generalize hs : (u + 18446744073709551616 - 0 - c) % 18446744073709551616 = s at *
   generalize hcc : (if u < 0 + c then 1 else 0) = c' at *
   simp (maxSteps := 1000000) (disch := (first | omega | (simp only [lnA, List.length_map, List.length_range, true_and, and_true]; (try omega); done) | fail)) only [go_sem, hga, Int.reduceEq, Int.reduceToNat, Nat.reduceAdd, Nat.reduceMul, Nat.reduceEqDiff, ↓reduceIte]
   refine call_sub64 (y := 0) Tryz.func111 (by kernel_rfl) (by kernel_rfl) (by kernel_rfl) (by kernel_rfl) (by omega) ?_
   rw [hs, hcc]
   simp (maxSteps := 1000000) (disch := (first | omega | (simp only [lnA, List.length_map, List.length_range, true_and, and_true]; (try omega); done) | fail)) only [go_sem, hset, Int.reduceEq, Int.reduceToNat, Nat.reduceAdd, Nat.reduceMul, Nat.reduceEqDiff, ↓reduceIte]
   refine NextV_of (L ++ [s], c') [some 0, some 1, some 2, some 3] rfl (by simp only [List.length_append, List.length_cons, List.length_nil]; (simp (disch := (first | omega | (simp only [lnA, List.length_map, List.length_range, true_and, and_true]; (try omega); done) | fail)) only [go_sem, Int.reduceEq, Int.reduceToNat, Nat.reduceAdd, Nat.reduceMul, Nat.reduceEqDiff, ↓reduceIte, true_and, and_true, and_self, List.drop_zero, List.take_length, Nat.le_refl, V.lit.injEq, Value.int.injEq, Value.bool.injEq]; try (first | omega | (simp; done) | (simp; omega)))) (by (simp (disch := (first | omega | (simp only [lnA, List.length_map, List.length_range, true_and, and_true]; (try omega); done) | fail)) only [go_sem, Int.reduceEq, Int.reduceToNat, Nat.reduceAdd, Nat.reduceMul, Nat.reduceEqDiff, ↓reduceIte, true_and, and_true, and_self, List.drop_zero, List.take_length, Nat.le_refl, V.lit.injEq, Value.int.injEq, Value.bool.injEq]; try (first | omega | (simp; done) | (simp; omega)))) ⟨snocB hL hd2, hd1, by simp only [List.length_append, List.length_cons, List.length_nil]; exact hst, by simp only [List.length_append, List.length_cons, List.length_nil]; omega⟩ (by simp only [List.length_append, List.length_cons, List.length_nil]; omega)
 ·
  have hLe : L.length = (wg a).length := by omega
  have e1 : (wg a).take L.length = wg a := List.take_of_length_le (by omega)
  have e2 : (wg b).take L.length = wg b := List.take_of_length_le (by omega)
  rw [e1, e2, hav, hbv] at hv
  have hvl := valB_lt hL
  have hc0 : c = 0 := by
   rcases Nat.eq_zero_or_pos c with h | h
   ·
    exact h
   ·
    have := Nat.mul_le_mul_left (18446744073709551616 ^ L.length) h
    generalize 18446744073709551616 ^ L.length = P at *
    generalize P * c = Pc at *
    omega
  have hval : valB 18446744073709551616 L = a - b := by rw [hc0] at hv; omega
  have hpf := pad_full hLe
  rw [hpf] at *
  have hls := nl_len L
  refine runW ?_
  refine callW [] [3] (trimmed_fn (l := L) hL (by omega)) ?_
  rw [hval]
  refine runW ?_
  exact endW [] hQ
end Go.Proofs.YtdohmppildfjhaaGreatDoor
