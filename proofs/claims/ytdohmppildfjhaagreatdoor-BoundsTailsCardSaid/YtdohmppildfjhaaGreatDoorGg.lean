import Derived.Test.YtdohmppildfjhaaGreatDoorBa
import Derived.Test.YtdohmppildfjhaaGreatDoorFa
namespace Go.Proofs.YtdohmppildfjhaaGreatDoor
open Go.Eng Go.Vx
set_option linter.unusedSimpArgs false
set_option linter.unusedVariables false
set_option maxRecDepth 100000
def seenD (l : Ds) (seen : List Nat) : Ds := seen.filterMap fun i => l[i]?
theorem seenD_snoc {l : Ds} {seen : List Nat} {j : Nat} {e : Ky × Rat} (h : l[j]? = some e) : seenD l (seen ++ [j]) = seenD l seen ++ [e] := by
 unfold seenD
 rw [List.filterMap_append]
 simp [h]
theorem nz_snoc (l : Ds) (e : Ky × Rat) : nzD (l ++ [e]) = if e.2 = 0 then nzD l else nzD l ++ [e] := by
 unfold nzD
 rw [List.filter_append]
 by_cases h : e.2 = 0
 ·
  simp [h]
 ·
  simp [h]
theorem seen_len {n : Nat} {seen : List Nat} (hn : seen.Nodup) (hs : ∀ i ∈ seen, i < n) : seen.length ≤ n := by
 have p : seen.Perm ((List.range n).filter fun i => decide (i ∈ seen)) := by
  rw [List.perm_ext_iff_of_nodup hn (List.Nodup.sublist List.filter_sublist List.nodup_range)]
  intro i
  rw [List.mem_filter, List.mem_range]
  exact ⟨fun h => ⟨hs i h, by simpa using h⟩, fun h => by simpa using h.2⟩
 have h1 := p.length_eq
 have h2 := List.length_filter_le (fun i => decide (i ∈ seen)) (List.range n)
 rw [List.length_range] at h2
 omega
theorem seen_all {l : Ds} {seen : List Nat} (hn : seen.Nodup) (hs : ∀ i ∈ seen, i < l.length) (ha : allSeen l.length seen) : (seenD l seen).Perm l := by
 have p : seen.Perm (List.range l.length) := by
  rw [List.perm_ext_iff_of_nodup hn List.nodup_range]
  intro i
  rw [List.mem_range]
  exact ⟨hs i, ha i⟩
 have h1 := p.filterMap (fun i => l[i]?)
 have h2 : (List.range l.length).filterMap (fun i => l[i]?) = l := by
  clear p hn hs ha h1
  induction l with
  | nil => rfl
  | cons e l ih =>
   rw [List.length_cons, List.range_succ_eq_map, List.filterMap_cons]
   simp only [List.getElem?_cons_zero, List.filterMap_map]
   congr 1
 rw [h2] at h1
 exact h1
theorem nz_perm {l l' : Ds} (h : l.Perm l') : (nzD l).Perm (nzD l') := h.filter _
theorem nd_perm {l l' : Ds} (h : l.Perm l') (hn : ndK l') : ndK l := by
 unfold ndK at *
 rw [List.Perm.nodup_iff (h.map _)]
 exact hn
theorem nz_nd {l : Ds} (h : ndK l) : ndK (nzD l) := List.Nodup.sublist ((List.filter_sublist (l := l)).map _) h
theorem srt_seen {l : Ds} {seen : List Nat} (hd : ndK l) (hn : seen.Nodup) (hs : ∀ i ∈ seen, i < l.length) (ha : allSeen l.length seen) : srtD (nzD (seenD l seen)) = atD l := by
 have p := nz_perm (seen_all hn hs ha)
 exact srtD_unique (nz_nd hd) ((srtD_perm _).trans p) (srtD_pair _)
theorem enM_get {l : Ds} {j : Nat} {k : Ky} {x : List PV} (h : (enM l)[j]? = some (k, x)) : ∃ q, l[j]? = some (k, q) ∧ x = enP q := by
 unfold enM at h
 rw [List.getElem?_map] at h
 cases hl : l[j]? with
 | none => rw [hl] at h; cases h
 | some e =>
  rw [hl] at h
  cases h
  exact ⟨e.2, rfl, rfl⟩
set_option maxHeartbeats 4000000 in
theorem patoms_fn {l : Ds} (hd : ndK l) (hne : nzD l ≠ []) (hR : ∀ e ∈ l, RS 400000 e.2) (hlen : l.length ≤ 100000) :
  Fn1 Tryz.prog 35 [.mref 0] [some (.map (enM l))] (.sl 1 6 0 (atD l).length) [some (.map (enM l)), some (.row 6 ((atD l).map enA))] := by
 have hml : (enM l).length = l.length := by unfold enM; rw [List.length_map]
 have z0 : RS 400000 ((0 : Int) : Rat) := (RS_small (z := 0) (by decide)).mono (by decide)
 have of0 := rof_fn (n := 0) (by decide) (by decide)
 have hs0 : nzD (seenD l []) = [] := rfl
 refine fn1N_of pl35 (by kernel_rfl) Tryz.call35 Tryz.func35 rfl (by kernel_rfl) rfl [.tmp 2] (by kernel_rfl) fun Q hQ => ?_
 refine runW ?_
 refine LoopV_of (X := List Nat) (st := fun seen => ([(3, .sl 2 6 0 (nzD (seenD l seen)).length), (7, .ref 1 0 0 0)], [some (.map (enM l)), some (.iter 0 l.length seen), some (.row 6 ((nzD (seenD l seen)).map enA))]))
  (inv := fun seen => seen.Nodup ∧ ∀ i ∈ seen, i < l.length) (m := fun seen => l.length - seen.length) [] [some 0, some 1, none] rfl (by simp only [hs0, hml]; (simp (disch := (first | omega | (simp only [lnA, List.length_map, List.length_range, true_and, and_true]; (try omega); done) | fail)) only [go_sem, Int.reduceEq, Int.reduceToNat, Nat.reduceAdd, Nat.reduceMul, Nat.reduceEqDiff, ↓reduceIte, true_and, and_true, and_self, List.drop_zero, List.take_length, Nat.le_refl, V.lit.injEq, Value.int.injEq, Value.bool.injEq]; try (first | omega | (simp; done) | (simp; omega)))) (by simp only [hs0, hml]; (simp (disch := (first | omega | (simp only [lnA, List.length_map, List.length_range, true_and, and_true]; (try omega); done) | fail)) only [go_sem, Int.reduceEq, Int.reduceToNat, Nat.reduceAdd, Nat.reduceMul, Nat.reduceEqDiff, ↓reduceIte, true_and, and_true, and_self, List.drop_zero, List.take_length, Nat.le_refl, V.lit.injEq, Value.int.injEq, Value.bool.injEq]; try (first | omega | (simp; done) | (simp; omega)))) ⟨List.nodup_nil, by simp⟩ ?_
 rintro seen ⟨hn, hs⟩
 have hsl := seen_len hn hs
 have hnl : (nzD (seenD l seen)).length ≤ 100000 := by
  have h1 : (nzD (seenD l seen)).length ≤ (seenD l seen).length := List.length_filter_le _ _
  have h2 : (seenD l seen).length ≤ seen.length := List.length_filterMap_le _ _
  omega
 refine runW ?_
 refine nxt_of rfl rfl hml.symm (fun hall => ?_) (fun j k x hj hjs => ?_)
 ·
  have hsrt := srt_seen hd hn hs hall
  have hp := nz_perm (seen_all hn hs hall)
  have hne2 : nzD (seenD l seen) ≠ [] := fun e => by
   rw [e] at hp
   exact hne (List.nil_perm.1 hp)
  have so := psort_fn (l := nzD (seenD l seen)) (nz_nd (nd_perm (seen_all hn hs hall) hd)) hne2 (by omega)
  have hle : (nzD (seenD l seen)).length = (atD l).length := by rw [← hsrt]; exact (srtD_perm _).length_eq.symm
  rw [hsrt, hle] at so
  rw [hle]
  refine runW ?_
  refine callW [some 2] [] (so) ?_
  refine runW ?_
  exact endW [some 0, some 2] hQ
 ·
  obtain ⟨q, hq, rfl⟩ := enM_get hj
  obtain ⟨K, T, F⟩ := k
  have hsn := seenD_snoc (seen := seen) hq
  have cm := rcmp_fn (hR _ (List.mem_of_getElem? hq)) z0
  have hjl : j < l.length := (List.getElem?_eq_some_iff.1 hq).1
  have hn2 : (seen ++ [j]).Nodup := by
   rw [List.nodup_append]
   exact ⟨hn, by simp, fun a ha b hb => by simp at hb; subst hb; exact fun e => hjs (e ▸ ha)⟩
  have hs2 : ∀ i ∈ seen ++ [j], i < l.length := fun i hi => by
   rcases List.mem_append.1 hi with h | h
   ·
    exact hs i h
   ·
    simp at h; omega
  have hl2 := seen_len hn2 hs2
  have hl3 : (seen ++ [j]).length = seen.length + 1 := by simp
  refine runW ?_
  refine ent_of rfl rfl hml.symm hj ?_
  unfold kyV enP
  by_cases h0 : q = 0
  ·
   have hc : cmpQ q ((0 : Int) : Rat) = 0 := cmpQ_zero.2 h0
   have hnz : nzD (seenD l (seen ++ [j])) = nzD (seenD l seen) := by rw [hsn, nz_snoc, if_pos h0]
   rw [hc] at cm
   generalize ((0 : Int) : Rat) = zz at *
   refine runW ?_
   refine callV0 (of0) rfl rfl ?_
   refine runW ?_
   refine callV0 (cm) rfl rfl ?_
   simp (maxSteps := 1000000) (disch := (first | omega | (simp only [lnA, List.length_map, List.length_range, true_and, and_true]; (try omega); done) | fail)) only [go_sem, decide_true, Bool.not_true, Int.reduceEq, Int.reduceToNat, Nat.reduceAdd, Nat.reduceMul, Nat.reduceEqDiff, ↓reduceIte]
   refine NextV_of (seen ++ [j]) [some 0, some 1, some 2] rfl (by simp only [hnz]; (simp (disch := (first | omega | (simp only [lnA, List.length_map, List.length_range, true_and, and_true]; (try omega); done) | fail)) only [go_sem, Int.reduceEq, Int.reduceToNat, Nat.reduceAdd, Nat.reduceMul, Nat.reduceEqDiff, ↓reduceIte, true_and, and_true, and_self, List.drop_zero, List.take_length, Nat.le_refl, V.lit.injEq, Value.int.injEq, Value.bool.injEq]; try (first | omega | (simp; done) | (simp; omega)))) (by simp only [hnz]; (simp (disch := (first | omega | (simp only [lnA, List.length_map, List.length_range, true_and, and_true]; (try omega); done) | fail)) only [go_sem, Int.reduceEq, Int.reduceToNat, Nat.reduceAdd, Nat.reduceMul, Nat.reduceEqDiff, ↓reduceIte, true_and, and_true, and_self, List.drop_zero, List.take_length, Nat.le_refl, V.lit.injEq, Value.int.injEq, Value.bool.injEq]; try (first | omega | (simp; done) | (simp; omega)))) ⟨hn2, hs2⟩ (by simp only [hl3] at hl2 ⊢; omega)
  ·
   have hc : ¬ cmpQ q ((0 : Int) : Rat) = 0 := fun e => h0 (cmpQ_zero.1 e)
   have hnz : nzD (seenD l (seen ++ [j])) = nzD (seenD l seen) ++ [((K, T, F), q)] := by rw [hsn, nz_snoc, if_neg h0]
   generalize cmpQ q ((0 : Int) : Rat) = c at *
   generalize ((0 : Int) : Rat) = zz at *
   refine runW ?_
   refine callV0 (of0) rfl rfl ?_
   refine runW ?_
   refine callV0 (cm) rfl rfl ?_
   refine runW ?_
   have hea : List.map enA [((K, T, F), q)] = [[.lit (.int .i64 K), .lit (.int .i64 T), .lit (.bool F), .row 1 ((nl (wg q.num.natAbs)).map (ie .u64)), .lit (.bool (decide (q.num < 0))), .row 1 ((nl (wg (q.den - 1))).map (ie .u64))]] := rfl
   refine NextV_of (seen ++ [j]) [some 0, some 1, some 6] rfl (by simp only [hnz, List.map_append, hea]; (simp (disch := (first | omega | (simp only [lnA, List.length_map, List.length_range, true_and, and_true]; (try omega); done) | fail)) only [go_sem, Int.reduceEq, Int.reduceToNat, Nat.reduceAdd, Nat.reduceMul, Nat.reduceEqDiff, ↓reduceIte, true_and, and_true, and_self, List.drop_zero, List.take_length, Nat.le_refl, V.lit.injEq, Value.int.injEq, Value.bool.injEq]; try (first | omega | (simp; done) | (simp; omega)))) (by simp only [hnz, List.length_append]; (simp (disch := (first | omega | (simp only [lnA, List.length_map, List.length_range, true_and, and_true]; (try omega); done) | fail)) only [go_sem, Int.reduceEq, Int.reduceToNat, Nat.reduceAdd, Nat.reduceMul, Nat.reduceEqDiff, ↓reduceIte, true_and, and_true, and_self, List.drop_zero, List.take_length, Nat.le_refl, V.lit.injEq, Value.int.injEq, Value.bool.injEq]; try (first | omega | (simp; done) | (simp; omega)))) ⟨hn2, hs2⟩ (by simp only [hl3] at hl2 ⊢; omega)
def inD (x : Rat) (L : Ds) (out : Ds) : Ds := L.foldl (fun o b => addD b.1 (x * b.2) o) out
def ouD (NX : Ky → Ds) (L : Ds) (out : Ds) : Ds := L.foldl (fun o a => inD a.2 (atD (NX a.1)) o) out
def timesD (l : Ds) (NX : Ky → Ds) : Ds := ouD NX (atD l) []
theorem inD_snoc (x : Rat) (L : Ds) (out : Ds) (b : Ky × Rat) : inD x (L ++ [b]) out = addD b.1 (x * b.2) (inD x L out) := by simp [inD]
theorem ouD_snoc (NX : Ky → Ds) (L : Ds) (out : Ds) (a : Ky × Rat) : ouD NX (L ++ [a]) out = inD a.2 (atD (NX a.1)) (ouD NX L out) := by simp [ouD]
theorem takeD_snoc {α : Type} [Inhabited α] {L : List α} {i : Nat} (h : i < L.length) : L.take (i + 1) = L.take i ++ [L.getD i default] := by
 rw [List.take_add_one, List.getElem?_eq_getElem h]
 simp [List.getD, List.getElem?_eq_getElem h]
theorem getD_mem {α : Type} [Inhabited α] {L : List α} {i : Nat} (h : i < L.length) : L.getD i default ∈ L := by
 simp [List.getD, List.getElem?_eq_getElem h]
theorem enA_mk (K T : Int) (F : Bool) (q : Rat) : enA ((K, T, F), q) = [.lit (.int .i64 K), .lit (.int .i64 T), .lit (.bool F), .row 1 ((nl (wg q.num.natAbs)).map (ie .u64)), .lit (.bool (decide (q.num < 0))), .row 1 ((nl (wg (q.den - 1))).map (ie .u64))] := rfl
def cpP (kd a w : Nat) : V := .rref 3 [[.lit (.int .i64 (kd : Int)), .lit (.int .i64 (a : Int)), .lit (.int .i64 (w : Int))]] 0 0
attribute [go_sem] cpP
structure NxOk (f : FuncId) (kd a w : Nat) (NX : Ky → Ds) (k : Ky) : Prop where
 fn : Fn1 Tryz.prog f [kyS k, cpP kd a w] [] (.mref 0) [some (.map (enM (NX k)))]
 nd : ndK (NX k)
 ne : nzD (NX k) ≠ []
 rs : ∀ e ∈ NX k, RS 400000 e.2
 len : (NX k).length ≤ 100000
set_option maxHeartbeats 8000000 in
theorem ptimes_fn {l : Ds} {f : FuncId} {kd a w : Nat} {NX : Ky → Ds} (hd : ndK l) (hne : nzD l ≠ []) (hR : ∀ e ∈ l, RS 400000 e.2) (hlen : l.length ≤ 100000)
  (hN : ∀ e ∈ atD l, NxOk f kd a w NX e.1) (hm : ∀ a ∈ atD l, ∀ b ∈ atD (NX a.1), RS 400000 (a.2 * b.2))
  (hO : ∀ i, i < (atD l).length → ∀ j, ∀ e ∈ inD ((atD l).getD i default).2 ((atD (NX ((atD l).getD i default).1)).take j) (ouD NX ((atD l).take i) []), RS 400000 e.2) :
  Fn1 Tryz.prog 32 [.mref 0, .clo f [cpP kd a w]] [some (.map (enM l))] (.mref 1) [some (.map (enM l)), some (.map (enM (timesD l NX)))] := by
 have at0 := patoms_fn hd hne hR hlen
 have hal : (atD l).length ≤ 100000 := Nat.le_trans (at_len l) hlen
 unfold timesD
 generalize hA : atD l = A at *
 have ho0 : enM (ouD NX (List.take 0 A) []) = [] := rfl
 refine fn1N_of pl32 (by kernel_rfl) Tryz.call32 Tryz.func32 rfl (by kernel_rfl) rfl [.tmp 4] (by kernel_rfl) fun Q hQ => ?_
 refine runW ?_
 refine callW [some 0] [] (at0) ?_
 refine runW ?_
 refine LoopV_of (X := Nat) (st := fun i => ([(1, .clo f [cpP kd a w]), (5, .mref 1), (12, .sl 2 6 0 A.length), (13, .lit (.int .i64 (A.length : Int))), (14, .lit (.int .i64 (i : Int)))], [some (.map (enM l)), some (.map (enM (ouD NX (A.take i) []))), some (.row 6 (A.map enA))]))
  (inv := fun i => i ≤ A.length) (m := fun i => A.length - i) 0 [some 0, some 1, some 2] rfl (by simp only [ho0]; (simp (disch := (first | omega | (simp only [lnA, List.length_map, List.length_range, true_and, and_true]; (try omega); done) | fail)) only [go_sem, Int.reduceEq, Int.reduceToNat, Nat.reduceAdd, Nat.reduceMul, Nat.reduceEqDiff, ↓reduceIte, true_and, and_true, and_self, List.drop_zero, List.take_length, Nat.le_refl, V.lit.injEq, Value.int.injEq, Value.bool.injEq]; try (first | omega | (simp; done) | (simp; omega)))) (by simp (disch := (first | omega | (simp only [lnA, List.length_map, List.length_range, true_and, and_true]; (try omega); done) | fail)) only [go_sem, Int.reduceEq, Int.reduceToNat, Nat.reduceAdd, Nat.reduceMul, Nat.reduceEqDiff, ↓reduceIte, true_and, and_true, and_self, List.drop_zero, List.take_length, Nat.le_refl, V.lit.injEq, Value.int.injEq, Value.bool.injEq]; try (first | omega | (simp; done) | (simp; omega))) (Nat.zero_le _) ?_
 intro i hi
 by_cases hlt : i < A.length
 ·
  have ha := getD_mem hlt
  have hsn := takeD_snoc hlt
  have hOi := hO i hlt
  generalize hag : A.getD i default = ag at *
  obtain ⟨⟨K, T, F⟩, q⟩ := ag
  obtain ⟨nf, nnd, nne, nrs, nlen⟩ := hN _ ha
  dsimp only at nf nnd nne nrs nlen hOi
  have at1 := patoms_fn nnd nne nrs nlen
  have hml := Nat.le_trans (at_len (NX (K, T, F))) nlen
  have hmi := hm _ ha
  dsimp only at hmi
  have hou : ouD NX (A.take (i + 1)) [] = inD q (atD (NX (K, T, F))) (ouD NX (A.take i) []) := by rw [hsn, ouD_snoc]
  generalize ouD NX (A.take i) [] = out at *
  generalize NX (K, T, F) = nx at *
  have hal2 : (atD nx).length ≤ 100000 := hml
  have e1 : (i : Int) + 1 = ((i + 1 : Nat) : Int) := by omega
  simp (maxSteps := 1000000) (disch := (first | omega | (simp only [lnA, List.length_map, List.length_range, true_and, and_true]; (try omega); done) | fail)) only [go_sem, hag, enA_mk, Int.reduceEq, Int.reduceToNat, Nat.reduceAdd, Nat.reduceMul, Nat.reduceEqDiff, ↓reduceIte]
  refine callW [] [] (nf) ?_
  refine runW ?_
  refine callW [some 4] [] (at1) ?_
  generalize hB : atD nx = B at *
  have hi0 : inD q (B.take 0) out = out := rfl
  refine runW ?_
  refine LoopV_of (X := Nat) (st := fun j => ([(1, .clo f [cpP kd a w]), (5, .mref 1), (7, .ref 3 0 0 0), (12, .sl 2 6 0 A.length), (13, .lit (.int .i64 (A.length : Int))), (14, .lit (.int .i64 (i : Int))), (22, .sl 4 6 0 B.length), (23, .lit (.int .i64 (B.length : Int))), (24, .lit (.int .i64 (j : Int)))],
    [some (.map (enM l)), some (.map (enM (inD q (B.take j) out))), some (.row 6 (A.map enA)), some (.cells [.lit (.int .i64 K), .lit (.int .i64 T), .lit (.bool F), .row 1 ((nl (wg q.num.natAbs)).map (ie .u64)), .lit (.bool (decide (q.num < 0))), .row 1 ((nl (wg (q.den - 1))).map (ie .u64))]), some (.row 6 (B.map enA))]))
   (inv := fun j => j ≤ B.length) (m := fun j => B.length - j) 0 [some 0, some 1, some 2, some 3, some 5] rfl (by simp only [hi0]; (simp (disch := (first | omega | (simp only [lnA, List.length_map, List.length_range, true_and, and_true]; (try omega); done) | fail)) only [go_sem, Int.reduceEq, Int.reduceToNat, Nat.reduceAdd, Nat.reduceMul, Nat.reduceEqDiff, ↓reduceIte, true_and, and_true, and_self, List.drop_zero, List.take_length, Nat.le_refl, V.lit.injEq, Value.int.injEq, Value.bool.injEq]; try (first | omega | (simp; done) | (simp; omega)))) (by simp (disch := (first | omega | (simp only [lnA, List.length_map, List.length_range, true_and, and_true]; (try omega); done) | fail)) only [go_sem, Int.reduceEq, Int.reduceToNat, Nat.reduceAdd, Nat.reduceMul, Nat.reduceEqDiff, ↓reduceIte, true_and, and_true, and_self, List.drop_zero, List.take_length, Nat.le_refl, V.lit.injEq, Value.int.injEq, Value.bool.injEq]; try (first | omega | (simp; done) | (simp; omega))) (Nat.zero_le _) ?_
  intro j hj
  by_cases hjl : j < B.length
  ·
   have hb := getD_mem hjl
   have hsj := takeD_snoc hjl
   have hOj := hOi j
   have hmj := hmi _ hb
   generalize hbg : B.getD j default = bg at *
   obtain ⟨⟨K', T', F'⟩, q'⟩ := bg
   have hin : inD q (B.take (j + 1)) out = addD (K', T', F') (q * q') (inD q (B.take j) out) := by rw [hsj, inD_snoc]
   have mu := rmul_fn (x := q) (y := q') (hR _ (at_mem (by rw [hA]; exact ha)).1) (nrs _ (at_mem (by rw [hB]; exact hb)).1)
   have pa := padd_fn (l := inD q (B.take j) out) (k := (K', T', F')) (x := q * q') (fun y hy => hOj _ (look_mem hy)) hmj
   rw [← hin] at pa
   generalize q * q' = qq at *
   have e2 : (j : Int) + 1 = ((j + 1 : Nat) : Int) := by omega
   simp (maxSteps := 1000000) (disch := (first | omega | (simp only [lnA, List.length_map, List.length_range, true_and, and_true]; (try omega); done) | fail)) only [go_sem, hbg, enA_mk, Int.reduceEq, Int.reduceToNat, Nat.reduceAdd, Nat.reduceMul, Nat.reduceEqDiff, ↓reduceIte]
   refine callV0 (mu) rfl rfl ?_
   refine runW ?_
   refine callW [some 1] [] (pa) ?_
   refine runW ?_
   refine nextW (j + 1) [some 0, some 1, some 2, some 3, some 4] (by omega) (by omega)
  ·
   have hjB : j = B.length := by omega
   subst hjB
   rw [List.take_length] at *
   refine runW ?_
   refine NextV_of (i + 1) [some 0, some 1, some 2] rfl (by simp only [hou]; (simp (disch := (first | omega | (simp only [lnA, List.length_map, List.length_range, true_and, and_true]; (try omega); done) | fail)) only [go_sem, Int.reduceEq, Int.reduceToNat, Nat.reduceAdd, Nat.reduceMul, Nat.reduceEqDiff, ↓reduceIte, true_and, and_true, and_self, List.drop_zero, List.take_length, Nat.le_refl, V.lit.injEq, Value.int.injEq, Value.bool.injEq]; try (first | omega | (simp; done) | (simp; omega)))) (by simp (disch := (first | omega | (simp only [lnA, List.length_map, List.length_range, true_and, and_true]; (try omega); done) | fail)) only [go_sem, Int.reduceEq, Int.reduceToNat, Nat.reduceAdd, Nat.reduceMul, Nat.reduceEqDiff, ↓reduceIte, true_and, and_true, and_self, List.drop_zero, List.take_length, Nat.le_refl, V.lit.injEq, Value.int.injEq, Value.bool.injEq]; try (first | omega | (simp; done) | (simp; omega))) (by omega) (by omega)
 ·
  have hiA : i = A.length := by omega
  subst hiA
  simp (maxSteps := 1000000) (disch := (first | omega | (simp only [lnA, List.length_map, List.length_range, true_and, and_true]; (try omega); done) | fail)) only [go_sem, List.take_length, Int.reduceEq, Int.reduceToNat, Nat.reduceAdd, Nat.reduceMul, Nat.reduceEqDiff, ↓reduceIte]
  exact endW [some 0, some 1] hQ
end Go.Proofs.YtdohmppildfjhaaGreatDoor
