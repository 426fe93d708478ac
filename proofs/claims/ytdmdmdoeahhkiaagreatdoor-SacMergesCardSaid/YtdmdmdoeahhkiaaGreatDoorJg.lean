import Derived.Test.YtdmdmdoeahhkiaaGreatDoorJb
import Derived.Test.YtdmdmdoeahhkiaaGreatDoorJc
import Derived.Test.YtdmdmdoeahhkiaaGreatDoorJd
namespace Go.Proofs.YtdmdmdoeahhkiaaGreatDoor
open Go.Eng Go.Vx
set_option linter.unusedSimpArgs false
set_option linter.unusedVariables false
set_option maxRecDepth 100000
theorem mergeD_all {P : SP} (hP : PW P) {x y : SS} (hx : SOk P x) (hy : SOk P y) : (mergeD P x y).all (fun r => r.1.length = x.1.length ∧ (∀ c ∈ r.1, COk P c) ∧ 1 ≤ r.2.1 ∧ r.2.1 ≤ P.s) := by
  unfold mergeD
  rw [all_bind]
  have h1 := hx.s2
  have h2 := hy.s2
  refine all_mono (fun x1 h1 => ?_) (lvD_all hP.toPB (y.2.1 - x.2.1) x hx (by omega))
  exact all_mono (fun r hr => ⟨hr.1.trans h1.2.1, hr.2⟩) (mgD_all hP x.1.length 0 x1 y h1.1 hy)
theorem merge_both {M D S n p : Nat} {x y : SS} {L : List Bool} (hw : WB M D S) (hx : SOk (SPof M D S) x) (hy : SOk (SPof M D S) y) (hl : x.1.length = n) (hp : p ≤ L.length) :
    (∃ (r : SS) (q : Nat), mergeR M D S L false x y p = (r, 0, q, false) ∧ meR (SPof M D S) L x y p = (r, q, 0) ∧ r.1.length = n ∧ (∀ c ∈ r.1, COk (SPof M D S) c) ∧ 1 ≤ r.2.1 ∧ r.2.1 ≤ S) ∨
    (∃ r : SS, mergeR M D S L false x y p = (x, 8, L.length, true) ∧ meR (SPof M D S) L x y p = (r, L.length, 8)) := by
  rcases Lk_ok (Lk_me hw.pw (L := L) (p := p) hx hy) with h | h
  · refine .inl ⟨(meR (SPof M D S) L x y p).1, (meR (SPof M D S) L x y p).2.1, ?_, ?_, ?_⟩
    · unfold mergeR outG
      rw [h.2]
    · rw [← h.1]
    · have a1 := all_run (mergeD_all hw.pw hx hy) h.2
      exact ⟨a1.1.trans hl, a1.2⟩
  · refine .inr ⟨(meR (SPof M D S) L x y p).1, ?_, ?_⟩
    · unfold mergeR outG
      rw [h.2.2]
    · rw [← h.2.1, ← h.1]
theorem smergeE_fn {M D S n p : Nat} {x y : SS} {d : Bool} {L : List Bool} (hn : n ≤ 255) (hx : x.1.length = n) (hy : y.1.length = n + 1) :
    Fn1 Tryz.prog 40 [.ref 0 0 0 0, .ref 1 0 0 0, .ref 2 0 0 0] [some (saC M D S x), some (tpC L p d), some (saC M D S y)] (.lit (.int .i64 10)) [some (saC M D S x), some (tpC L p d), some (saC M D S y)] := by
  have hne : ¬ (n : Int) = ((n + 1 : Nat) : Int) := by omega
  refine fn1N_of pl40 (by kernel_rfl) Tryz.call40 Tryz.func40 rfl (by kernel_rfl) rfl [.tmp 6] (by kernel_rfl) fun Q hQ => ?_
  simp (maxSteps := 1000000) (disch := (first | omega | (simp only [lnA, List.length_map, List.length_range, true_and, and_true]; (try omega); done) | fail)) only [go_sem, hx, hy, eq_self, decide_true, beq_self_eq_true, Bool.and_self, Bool.not_true, decide_eq_false hne, Int.reduceEq, Int.reduceToNat, Nat.reduceAdd, Nat.reduceMul, Nat.reduceEqDiff, ↓reduceIte]
  exact endW [some 0, some 1, some 2] hQ
set_option maxHeartbeats 8000000 in
theorem sacMerges_fn {a b c : Int} {l m : List (Int × Int)} {L0 : List Bool} (hl : l.length ≤ 9223372036854775807) (hm : m.length ≤ 9223372036854775807) (hL0 : L0.length ≤ 9223372036854775807) :
    Fn1 Tryz.prog 8 [.agg [.lit (.int .i64 a), .lit (.int .i64 b), .lit (.int .i64 c)], .agg [.row 2 (l.map aV), .row 2 (m.map aV)], .row 1 (L0.map be)] [] (.lit (.bool true)) [] := by
  obtain ⟨M, D, S, hw, hM, hS, hsm⟩ := small19_fn (a := a) (b := b) (c := c)
  have hfw := few9_fn (L := L0) (n := 300) hL0 (by decide)
  rw [show ((300 : Nat) : Int) = 300 from rfl] at hfw
  have hLl : (L0.take 300).length ≤ 300 := by rw [List.length_take]; omega
  generalize L0.take 300 = L at *
  obtain ⟨n, hn, hn1, hn4⟩ : ∃ n : Nat, 1 + (l.length : Int) % 4 = (n : Int) ∧ 1 ≤ n ∧ n ≤ 4 := ⟨(1 + (l.length : Int) % 4).toNat, by omega, by omega, by omega⟩
  obtain ⟨H, hH⟩ : ∃ H, L.length / 3 = H := ⟨_, rfl⟩
  have hH1 : (L.length : Int) / 3 = (H : Int) := by rw [← hH]; rfl
  have hH2 : 2 * (H : Int) = ((2 * H : Nat) : Int) := by simp
  have hH3 : 2 * H ≤ L.length := by omega
  have p1 := plays19_fn (M := M) (D := D) (S := S) (n := n) (l := l) (L := L.take H) hw ⟨hn1, by omega⟩ hl (by rw [List.length_take]; omega)
  have p2 := plays19_fn (M := M) (D := D) (S := S) (n := n) (l := m) (L := (L.take (2 * H)).drop H) hw ⟨hn1, by omega⟩ hm (by rw [List.length_drop, List.length_take]; omega)
  have ht := newT_fn (L := L.drop (2 * H)) (by rw [List.length_drop]; omega)
  have hL3 : (L.drop (2 * H)).length ≤ 300 := by rw [List.length_drop]; omega
  refine fn1N_of pl8 (by kernel_rfl) Tryz.call8 Tryz.func8 rfl (by kernel_rfl) rfl [.tmp 6] (by kernel_rfl) fun Q hQ => ?_
  refine runW ?_
  refine callV0 (awake19_fn) rfl rfl ?_
  refine runW ?_
  refine callV0 (hsm) rfl rfl ?_
  refine runW ?_
  refine callV0 (hfw) rfl rfl ?_
  simp (maxSteps := 1000000) (disch := (first | omega | (simp only [lnA, List.length_map, List.length_range, true_and, and_true]; (try omega); done) | fail)) only [go_sem, hn, hH1, hH2, Int.reduceEq, Int.reduceToNat, Nat.reduceAdd, Nat.reduceMul, Nat.reduceEqDiff, ↓reduceIte]
  refine callR [] [] (p1) ?_
  rintro ⟨x, px, qx, dx⟩ ⟨hxs, hxl, hxp⟩
  dsimp only at hxs hxl hxp
  simp (maxSteps := 1000000) (disch := (first | omega | (simp only [lnA, List.length_map, List.length_range, true_and, and_true]; (try omega); done) | fail)) only [go_sem, hH1, hH2, Int.reduceEq, Int.reduceToNat, Nat.reduceAdd, Nat.reduceMul, Nat.reduceEqDiff, ↓reduceIte]
  refine callR [] [] (p2) ?_
  rintro ⟨y, py, qy, dy⟩ ⟨hys, hyl, hyp⟩
  dsimp only at hys hyl hyp
  simp (maxSteps := 1000000) (disch := (first | omega | (simp only [lnA, List.length_map, List.length_range, true_and, and_true]; (try omega); done) | fail)) only [go_sem, hH1, hH2, List.take_length, Int.reduceEq, Int.reduceToNat, Nat.reduceAdd, Nat.reduceMul, Nat.reduceEqDiff, ↓reduceIte]
  refine callW [] [] (ht) ?_
  have hcl := sclone_fn (M := M) (D := D) (S := S) (st := x) (by omega) (fun e => by rw [e] at hxl; simp at hxl; omega)
  have hmg := smerge_fn (M := M) (D := D) (S := S) (n := n) (p := 0) (x := x) (y := y) (d := false) (L := L.drop (2 * H)) hw (by omega) (Nat.zero_le _) (fun h => by cases h) ⟨hn1, by omega⟩ hxl hyl hxs hys
  have hrm := rmerge_fn (M := M) (D := D) (S := S) (n := n) (p0 := 0) (pb := py) (x0 := x) (y0 := y) (L := L.drop (2 * H)) (Lb := (L.take (2 * H)).drop H) (eb := 0) hw (by omega) (Nat.zero_le _) (by omega) hxl hyl hxs hys
  have hib := is19_fn (M := M) (D := D) (S := S) (p := py) (st := y) (L := (L.take (2 * H)).drop H) (e := 0) hw (by omega) hys.c hys.s1 hys.s2
  have hsmx := ssame_fn (M := M) (D := D) (S := S) (x := x) (by omega)
  rw [hxl] at hcl
  rcases merge_both (L := L.drop (2 * H)) (p := 0) hw hxs hys hxl (Nat.zero_le _) with ⟨r, q, e1, e2, r1, r2, r3, r4⟩ | ⟨r, e1, e2⟩
  · rw [e1] at hmg
    rw [e2] at hrm
    have hia := is19_fn (M := M) (D := D) (S := S) (p := q) (st := r) (L := L.drop (2 * H)) (e := 0) hw (by omega) r2 r3 r4
    have hrd := readT_fn (L := L.drop (2 * H)) (p := q) (d := false)
    have ho := own19_fn (M := M) (D := D) (S := S)
    have hnw := snew_fn (n := n + 1) hw.good ⟨by omega, by omega⟩
    have hme := smergeE_fn (M := M) (D := D) (S := S) (n := n) (p := q) (x := r) (y := (List.replicate (n + 1) (0, 0), 1, false)) (d := false) (L := L.drop (2 * H)) (by omega) r1 (List.length_replicate)
    have hnn : (n : Int) + 1 = ((n + 1 : Nat) : Int) := by omega
    generalize List.replicate (n + 1) ((0 : Nat), (0 : Nat)) = z1 at *
    generalize hLL : L.drop (2 * H) = LL at *
    generalize (L.take (2 * H)).drop H = L2 at *
    generalize L.take H = L1 at *
    dsimp only at hmg hrm
    obtain ⟨cx, sx, fx⟩ := x
    obtain ⟨cy, sy, fy⟩ := y
    obtain ⟨cr, sr, fr⟩ := r
    simp (maxSteps := 1000000) (disch := (first | omega | (simp only [lnA, List.length_map, List.length_range, true_and, and_true]; (try omega); done) | fail)) only [go_sem, hH2, List.take_length, Int.toNat_natCast, hLL, Int.reduceEq, Int.reduceToNat, Nat.reduceAdd, Nat.reduceMul, Nat.reduceEqDiff, ↓reduceIte]
    refine callF (hcl) ?_
    simp (maxSteps := 1000000) (disch := (first | omega | (simp only [lnA, List.length_map, List.length_range, true_and, and_true]; (try omega); done) | fail)) only [go_sem, hH2, List.take_length, Int.toNat_natCast, hLL, Int.reduceEq, Int.reduceToNat, Nat.reduceAdd, Nat.reduceMul, Nat.reduceEqDiff, ↓reduceIte]
    refine callW [some 2, some 8, some 5] [] (hmg) ?_
    simp (maxSteps := 1000000) (disch := (first | omega | (simp only [lnA, List.length_map, List.length_range, true_and, and_true]; (try omega); done) | fail)) only [go_sem, hH2, List.take_length, Int.toNat_natCast, hLL, Int.reduceEq, Int.reduceToNat, Nat.reduceAdd, Nat.reduceMul, Nat.reduceEqDiff, ↓reduceIte]
    refine callV0 (hrm) rfl rfl ?_
    refine runW ?_
    refine callT (hib) ?_
    refine runW ?_
    refine callV0 (ho) rfl rfl ?_
    simp (maxSteps := 1000000) (disch := (first | omega | (simp only [lnA, List.length_map, List.length_range, true_and, and_true]; (try omega); done) | fail)) only [go_sem, hnn, Int.reduceEq, Int.reduceToNat, Nat.reduceAdd, Nat.reduceMul, Nat.reduceEqDiff, ↓reduceIte]
    refine callW [] [] (hnw) ?_
    refine runW ?_
    refine callT (hia) ?_
    refine runW ?_
    refine callT (hrd) ?_
    refine runW ?_
    refine callW [some 2, some 8, some 12] [] (hme) ?_
    refine runW ?_
    exact endW [] hQ
  · rw [e1] at hmg
    rw [e2] at hrm
    have hdd := deadT_fn (L := L.drop (2 * H)) (p := (L.drop (2 * H)).length) (d := true)
    generalize hLL : L.drop (2 * H) = LL at *
    generalize (L.take (2 * H)).drop H = L2 at *
    generalize L.take H = L1 at *
    dsimp only at hmg hrm
    obtain ⟨cx, sx, fx⟩ := x
    obtain ⟨cy, sy, fy⟩ := y
    obtain ⟨cr, sr, fr⟩ := r
    simp (maxSteps := 1000000) (disch := (first | omega | (simp only [lnA, List.length_map, List.length_range, true_and, and_true]; (try omega); done) | fail)) only [go_sem, hH2, List.take_length, Int.toNat_natCast, hLL, Int.reduceEq, Int.reduceToNat, Nat.reduceAdd, Nat.reduceMul, Nat.reduceEqDiff, ↓reduceIte]
    refine callF (hcl) ?_
    simp (maxSteps := 1000000) (disch := (first | omega | (simp only [lnA, List.length_map, List.length_range, true_and, and_true]; (try omega); done) | fail)) only [go_sem, hH2, List.take_length, Int.toNat_natCast, hLL, Int.reduceEq, Int.reduceToNat, Nat.reduceAdd, Nat.reduceMul, Nat.reduceEqDiff, ↓reduceIte]
    refine callW [some 2, some 8, some 5] [] (hmg) ?_
    simp (maxSteps := 1000000) (disch := (first | omega | (simp only [lnA, List.length_map, List.length_range, true_and, and_true]; (try omega); done) | fail)) only [go_sem, hH2, List.take_length, Int.toNat_natCast, hLL, Int.reduceEq, Int.reduceToNat, Nat.reduceAdd, Nat.reduceMul, Nat.reduceEqDiff, ↓reduceIte]
    refine callV0 (hrm) rfl rfl ?_
    refine runW ?_
    refine callT (hib) ?_
    refine runW ?_
    refine callT (hsmx) ?_
    refine runW ?_
    refine callT (hdd) ?_
    refine runW ?_
    exact endW [] hQ
end Go.Proofs.YtdmdmdoeahhkiaaGreatDoor
