import Derived.Test.YtpkfddfkacijoaaGreatDoorJa
namespace Go.Proofs.YtpkfddfkacijoaaGreatDoor
open Go.Eng Go.Vx
set_option linter.unusedSimpArgs false
set_option linter.unusedVariables false
set_option maxRecDepth 100000
@[go_sem ↓] theorem packU_4 {a b c d : V} : packU [a, b, c, d] = .tup [a, b, c, d] := (rfl)
abbrev PT := SS × Nat × Nat × Bool
def okT (M D S n : Nat) (L : List Bool) (y : PT) : Prop := SOk (SPof M D S) y.1 ∧ y.1.1.length = n ∧ y.2.1 ≤ L.length
theorem add_both {M D S n p i m : Nat} {st : SS} {L : List Bool} (hw : WB M D S) (hs : SOk (SPof M D S) st) (hl : st.1.length = n) (hp : p ≤ L.length) :
  (∃ (r : SS) (q : Nat), addR M D S L false st i m p = (r, 0, q, false) ∧ adR (SPof M D S) L st i m p = (r, q, 0) ∧ SOk (SPof M D S) r ∧ r.1.length = n ∧ q ≤ L.length) ∨
  (∃ r : SS, addR M D S L false st i m p = (st, 8, L.length, true) ∧ adR (SPof M D S) L st i m p = (r, L.length, 8)) := by
 rcases Lk_ok (Lk_ad hw.pw (L := L) (i := i) (n := m) (p := p) hs) with h | h
 ·
  refine .inl ⟨(adR (SPof M D S) L st i m p).1, (adR (SPof M D S) L st i m p).2.1, ?_, ?_, ?_⟩
  ·
   unfold addR outG
   rw [h.2]
  ·
   rw [← h.1]
  ·
   have a1 := all_run (addD_all hw.pw.toPB st i m hs) h.2
   have a2 := all_run (len_add (SPof M D S) st i m) h.2
   exact ⟨a1.1, a2.1.trans hl, (run_le hp h.2).2⟩
 ·
  refine .inr ⟨(adR (SPof M D S) L st i m p).1, ?_, ?_⟩
  ·
   unfold addR outG
   rw [h.2.2]
  ·
   rw [← h.2.1, ← h.1]
set_option maxHeartbeats 8000000 in
theorem plays19_fn {M D S n : Nat} {l : List (Int × Int)} {L : List Bool} (hw : WB M D S) (hn : 1 ≤ n ∧ n ≤ 256) (hl : l.length ≤ 9223372036854775807) (hL : L.length ≤ 1048576) :
  FnR Tryz.prog 23 [pA M D S, .lit (.int .i64 (n : Int)), .row 2 (l.map aV), .row 1 (L.map be)] []
   (okT M D S n L) (fun y => .tup [.ref 0 0 0 0, rsV M D S y.1 L y.2.1 0, .ref 1 0 0 0, .lit (.bool true)]) (fun y => [some (saC M D S y.1), some (tpC L y.2.2.1 y.2.2.2)]) := by
 have hnew := snew_fn hw.good hn
 have ht := newT_fn (L := L) hL
 have ho := own19_fn (M := M) (D := D) (S := S)
 have hz : (List.replicate n ((0 : Nat), (0 : Nat))).map cV = zrow [.int .i64 0, .int .i64 0] n := by rw [List.map_replicate]; rfl
 have hzl : (List.replicate n ((0 : Nat), (0 : Nat))).length = n := List.length_replicate
 have hok0 := ok0 hw.pw.toPB (n := n)
 generalize List.replicate n ((0 : Nat), (0 : Nat)) = z0 at *
 have etk : List.take n (z0.map cV) = z0.map cV := List.take_of_length_le (by rw [List.length_map]; omega)
 have hpa := sparam_fn (M := M) (D := D) (S := S) (st := (z0, 1, false))
 refine fnRN_of pl23 (by kernel_rfl) Tryz.call23 Tryz.func23 rfl (by kernel_rfl) rfl [.tmp 8, .cell 9 66, .tmp 10, .tmp 11] (by kernel_rfl) fun Q hQ => ?_
 refine runW ?_
 refine callV0 (ho) rfl rfl ?_
 refine runW ?_
 refine callW [] [] (hnew) ?_
 refine runW ?_
 refine callW [] [] (ht) ?_
 simp (maxSteps := 1000000) (disch := (first | omega | (simp only [lnA, List.length_map, List.length_range, true_and, and_true]; (try omega); done) | fail)) only [go_sem, ← hz, Int.reduceEq, Int.reduceToNat, Nat.reduceAdd, Nat.reduceMul, Nat.reduceEqDiff, ↓reduceIte]
 refine callT (hpa) ?_
 refine runW ?_
 refine callV0 (ho) rfl rfl ?_
 simp (maxSteps := 1000000) (disch := (first | omega | (simp only [lnA, List.length_map, List.length_range, true_and, and_true]; (try omega); done) | fail)) only [go_sem, eq_self, decide_true, beq_self_eq_true, Bool.and_self, Int.reduceEq, Int.reduceToNat, Nat.reduceAdd, Nat.reduceMul, Nat.reduceEqDiff, ↓reduceIte]
 refine loopW (X := Nat × SS × Nat) (st := fun y => ([(1, .lit (.int .i64 (n : Int))), (2, .row 2 (l.map aV)), (9, .ref 0 0 0 0), (12, .ref 1 0 0 0), (14, .ref 2 0 0 0), (15, .ref 3 0 0 0), (16, .lit (.int .i64 (y.1 : Int)))],
   [some (.cells z9C), some (saC M D S y.2.1), some (tpC L y.2.2 false), some (.cells (rsC M D S y.2.1 L y.2.2 0))]))
  (inv := fun y => y.1 ≤ 25 ∧ SOk (SPof M D S) y.2.1 ∧ y.2.1.1.length = n ∧ y.2.2 ≤ L.length) (m := fun y => 25 - y.1) (0, (z0, 1, false), 0) [some 1, some 2, some 3, some 5] ⟨Nat.zero_le _, hok0, hzl, Nat.zero_le _⟩ ?_
 rintro ⟨i, st, p⟩ ⟨hi, hs, hlen, hp⟩
 dsimp only at hi hs hlen hp ⊢
 by_cases h1 : i < l.length
 ·
  by_cases h2 : i < 25
  ·
   obtain ⟨⟨xi, xn⟩, hx⟩ : ∃ x, l.getD i default = x := ⟨_, rfl⟩
   have hne : st.1 ≠ [] := fun e => by rw [e] at hlen; simp at hlen; omega
   have hX : st.1.length ≤ 256 := by omega
   have hc := sclone_fn (M := M) (D := D) (S := S) hX hne
   have hss2 := hs.s2
   have hss1 := hs.s1
   have hsm := ssame_fn (M := M) (D := D) (S := S) hX
   have his := is19_fn (M := M) (D := D) (S := S) (p := p) (st := st) (L := L) (e := 0) hw hX hs.c hss1 hss2
   by_cases hI : xi < 0 ∨ (n : Int) ≤ xi
   ·
    have hu := saddI_fn (M := M) (D := D) (S := S) (p := p) (i := xi) (n := xn) (st := st) (d := false) (L := L) hX (by rw [hlen]; exact hI)
    obtain ⟨cs, s, fu⟩ := st
    dsimp only at hlen
    rw [hlen] at hc
    rcases hI with hI | hI
    ·
     simp (maxSteps := 1000000) (disch := (first | omega | (simp only [lnA, List.length_map, List.length_range, true_and, and_true]; (try omega); done) | fail)) only [go_sem, hx, Int.reduceEq, Int.reduceToNat, Nat.reduceAdd, Nat.reduceMul, Nat.reduceEqDiff, ↓reduceIte]
     refine callF (hc) ?_
     refine runW ?_
     refine callW [some 1, some 2] [] (hu) ?_
     refine runW ?_
     refine callT (hsm) ?_
     refine runW ?_
     refine nextW (i + 1, (cs, s, fu), p) [some 0, some 1, some 2, some 3] ⟨h2, hs, hlen, hp⟩ (by dsimp only; omega)
    ·
     have hI0 : ¬ xi < 0 := by omega
     simp (maxSteps := 1000000) (disch := (first | omega | (simp only [lnA, List.length_map, List.length_range, true_and, and_true]; (try omega); done) | fail)) only [go_sem, hx, Int.reduceEq, Int.reduceToNat, Nat.reduceAdd, Nat.reduceMul, Nat.reduceEqDiff, ↓reduceIte]
     refine callF (hc) ?_
     refine runW ?_
     refine callW [some 1, some 2] [] (hu) ?_
     refine runW ?_
     refine callT (hsm) ?_
     refine runW ?_
     refine nextW (i + 1, (cs, s, fu), p) [some 0, some 1, some 2, some 3] ⟨h2, hs, hlen, hp⟩ (by dsimp only; omega)
   ·
    obtain ⟨k, rfl⟩ : ∃ k : Nat, xi = (k : Int) := ⟨xi.toNat, by omega⟩
    have hkn : k < n := by omega
    by_cases hN : xn < 0 ∨ 1048576 < xn
    ·
     have hu := saddN_fn (M := M) (D := D) (S := S) (p := p) (i := k) (n := xn) (st := st) (d := false) (L := L) hX (by omega) hN
     obtain ⟨cs, s, fu⟩ := st
     dsimp only at hlen
     rw [hlen] at hc
     rcases hN with hN | hN
     ·
      simp (maxSteps := 1000000) (disch := (first | omega | (simp only [lnA, List.length_map, List.length_range, true_and, and_true]; (try omega); done) | fail)) only [go_sem, hx, Int.reduceEq, Int.reduceToNat, Nat.reduceAdd, Nat.reduceMul, Nat.reduceEqDiff, ↓reduceIte]
      refine callF (hc) ?_
      refine runW ?_
      refine callW [some 1, some 2] [] (hu) ?_
      refine runW ?_
      refine callT (hsm) ?_
      refine runW ?_
      refine nextW (i + 1, (cs, s, fu), p) [some 0, some 1, some 2, some 3] ⟨h2, hs, hlen, hp⟩ (by dsimp only; omega)
     ·
      have hN0 : ¬ xn < 0 := by omega
      simp (maxSteps := 1000000) (disch := (first | omega | (simp only [lnA, List.length_map, List.length_range, true_and, and_true]; (try omega); done) | fail)) only [go_sem, hx, Int.reduceEq, Int.reduceToNat, Nat.reduceAdd, Nat.reduceMul, Nat.reduceEqDiff, ↓reduceIte]
      refine callF (hc) ?_
      refine runW ?_
      refine callW [some 1, some 2] [] (hu) ?_
      refine runW ?_
      refine callT (hsm) ?_
      refine runW ?_
      refine nextW (i + 1, (cs, s, fu), p) [some 0, some 1, some 2, some 3] ⟨h2, hs, hlen, hp⟩ (by dsimp only; omega)
    ·
     obtain ⟨m, rfl⟩ : ∃ m : Nat, xn = (m : Int) := ⟨xn.toNat, by omega⟩
     have hu := sadd_fn (M := M) (D := D) (S := S) (p := p) (i := k) (n := m) (st := st) (d := false) (L := L) hw hL hp (fun h => by cases h) hX (by omega) hs (by omega)
     have hr := radd19_fn (M := M) (D := D) (S := S) (p := p) (i := k) (n := m) (st := st) (L := L) hw hL hp hX (by omega) hs (by omega)
     rcases add_both (i := k) (m := m) hw hs hlen hp with ⟨r, q, e1, e2, r1, r2, r3⟩ | ⟨r, e1, e2⟩
     ·
      rw [e1] at hu
      rw [e2] at hr
      dsimp only at hu hr
      have his2 := is19_fn (M := M) (D := D) (S := S) (p := q) (st := r) (L := L) (e := 0) hw (by omega) r1.c r1.s1 r1.s2
      have hrd := readT_fn (L := L) (p := q) (d := false)
      obtain ⟨cs, s, fu⟩ := st
      obtain ⟨rs, rss, rf⟩ := r
      dsimp only at hlen
      rw [hlen] at hc
      simp (maxSteps := 1000000) (disch := (first | omega | (simp only [lnA, List.length_map, List.length_range, true_and, and_true]; (try omega); done) | fail)) only [go_sem, hx, Int.reduceEq, Int.reduceToNat, Nat.reduceAdd, Nat.reduceMul, Nat.reduceEqDiff, ↓reduceIte]
      refine callF (hc) ?_
      refine runW ?_
      refine callW [some 1, some 2] [] (hu) ?_
      refine runW ?_
      refine callV0 (hr) rfl rfl ?_
      refine runW ?_
      refine callT (his) ?_
      refine runW ?_
      refine callT (his2) ?_
      refine runW ?_
      refine callT (hrd) ?_
      refine runW ?_
      refine nextW (i + 1, (rs, rss, rf), q) [some 0, some 1, some 2, some 3] ⟨h2, r1, r2, r3⟩ (by dsimp only; omega)
     ·
      rw [e1] at hu
      rw [e2] at hr
      dsimp only at hu hr
      have hdd := deadT_fn (L := L) (p := L.length) (d := true)
      obtain ⟨cs, s, fu⟩ := st
      obtain ⟨rs, rss, rf⟩ := r
      dsimp only at hlen
      rw [hlen] at hc
      simp (maxSteps := 1000000) (disch := (first | omega | (simp only [lnA, List.length_map, List.length_range, true_and, and_true]; (try omega); done) | fail)) only [go_sem, hx, Int.reduceEq, Int.reduceToNat, Nat.reduceAdd, Nat.reduceMul, Nat.reduceEqDiff, ↓reduceIte]
      refine callF (hc) ?_
      refine runW ?_
      refine callW [some 1, some 2] [] (hu) ?_
      refine runW ?_
      refine callV0 (hr) rfl rfl ?_
      refine runW ?_
      refine callT (his) ?_
      refine runW ?_
      refine callT (his) ?_
      refine runW ?_
      refine callT (hdd) ?_
      refine runW ?_
      exact endW [some 1, some 2] (hQ ((cs, s, fu), p, L.length, true) ⟨hs, hlen, hp⟩)
  ·
   refine runW ?_
   exact endW [some 1, some 2] (hQ (st, p, p, false) ⟨hs, hlen, hp⟩)
 ·
  refine runW ?_
  exact endW [some 1, some 2] (hQ (st, p, p, false) ⟨hs, hlen, hp⟩)
end Go.Proofs.YtpkfddfkacijoaaGreatDoor
