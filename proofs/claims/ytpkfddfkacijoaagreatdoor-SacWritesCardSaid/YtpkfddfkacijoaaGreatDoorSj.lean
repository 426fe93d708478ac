import Derived.Test.YtpkfddfkacijoaaGreatDoorSi
namespace Go.Proofs.YtpkfddfkacijoaaGreatDoor
open Go.Eng Go.Vx
set_option linter.unusedSimpArgs false
set_option linter.unusedVariables false
set_option maxRecDepth 100000
def outR {α : Type} (L : List Bool) (d : Bool) (o : Option (α × Nat)) (x : α × Int × Nat × Bool) : Prop := match o with | some (a, q) => x = (a, 0, q, d) | none => x.2 = (8, L.length, true)
theorem outN_some {L : List Bool} {d : Bool} {n k p a q : Nat} (h : (rndD n k).run L p = some (a, q)) : outN L d n k p = (a, 0, q, d) := by unfold outN; rw [h]; rfl
theorem outN_none {L : List Bool} {d : Bool} {n k p : Nat} (h : (rndD n k).run L p = none) : outN L d n k p = (0, 8, L.length, true) := by unfold outN; rw [h]; rfl
theorem rs_map {P : SP} {w : Nat} {i : Int} {L : List Bool} {cs Y : List Cell} {own0 own own' z : Cell} {k p q q' : Nat} (hk : k < Y.length)
  (h : (rsD P w i cs 0 own0).run L p = ((rsD P w i (Y.drop k) k own).run L q).map (fun r => ((Y.take k ++ r.1.1, r.1.2), r.2)))
  (e : (rsD P w i (Y.drop k) k own).run L q = ((rsD P w i (Y.drop (k + 1)) (k + 1) own').run L q').map (fun r => ((z :: r.1.1, r.1.2), r.2))) :
  (rsD P w i cs 0 own0).run L p = ((rsD P w i ((Y.set k z).drop (k + 1)) (k + 1) own').run L q').map (fun r => (((Y.set k z).take (k + 1) ++ r.1.1, r.1.2), r.2)) := by
 have e1 : (Y.set k z).drop (k + 1) = Y.drop (k + 1) := by rw [List.drop_set_of_lt (by omega)]
 have e2 : (Y.set k z).take (k + 1) = Y.take k ++ [z] := by
  rw [List.take_succ_eq_append_getElem (by simpa using hk), List.take_set_of_le (Nat.le_refl k)]
  simp
 rw [h, e, e1, e2, Option.map_map]
 congr 1
 funext r
 simp
set_option maxHeartbeats 4000000 in
theorem srescale_fn {M D S s p : Nat} {cs : List Cell} {f d : Bool} {L : List Bool} {i : Int} {own : Cell} (hw : WB M D S) (hL : L.length ≤ 1048576) (hp : p ≤ L.length) (hd : d = true → p = L.length) (hs : s ≤ 4) (hn : cs.length ≤ 256)
  (hc : ∀ c ∈ cs, COk (SPof M D S) c) (ho : own.1 ≤ 16777216 ∧ own.2 ≤ 3) :
  FnR Tryz.prog 120 [.ref 0 0 0 0, .ref 1 0 0 0, .lit (.int .i64 i), cA own] (W3 M D S cs.length cs s f L p d)
  (outR L d ((rsD (SPof M D S) s i cs 0 own).run L p)) (fun x => .tup [cA x.1.2, .lit (.int .i64 x.2.1)]) (fun x => W3 M D S cs.length x.1.1 (s + 1) f L x.2.2.1 x.2.2.2) := by
 have ht := stops_fn (M := M) (D := D) (S := S) (by have := hw.m8; omega) (by have := hw.d2; omega)
 have hpw := hw.pw
 have hd3 := hpw.d3
 have hm255 := hpw.m255
 rw [show 2 ^ M - 1 = (SPof M D S).m from rfl, show 2 ^ D - 1 = (SPof M D S).d from rfl] at ht
 have hsc := fun (v p' : Nat) (Y : List Cell) (h1 : p' ≤ L.length) (h2 : d = true → p' = L.length) (h3 : v ≤ 1099511627776) => sscaled_fn (M := M) (D := D) (S := S) (n := cs.length) (s := s + 1) (sc := s + 1) (v := v) (p := p') (cs := Y) (f := f) (d := d) (L := L) hw hL h1 h2 h3 (by omega)
 generalize hP : SPof M D S = P at *
 refine fnRN_of pl120 (by kernel_rfl) Tryz.call120 Tryz.func120 rfl (by kernel_rfl) rfl [.cell 8 116, .tmp 9] (by kernel_rfl) fun Q hQ => ?_
 refine runW ?_
 refine callV0 (ht) rfl rfl ?_
 refine runW ?_
 refine loopW (X := Nat × List Cell × Cell × Nat) (st := fun y => ([(0, .ref 0 0 0 0), (1, .ref 1 0 0 0), (2, .lit (.int .i64 i)), (7, .ref 3 0 0 0), (8, .ref 4 0 0 0), (10, .lit (.int .i64 (P.m : Int))), (12, .lit (.int .i64 (s : Int))), (39, .lit (.int .i64 (cs.length : Int))), (40, .lit (.int .i64 (y.1 : Int)))],
   W3 M D S cs.length y.2.1 (s + 1) f L y.2.2.2 d ++ [some (.cells [.lit (.int .i64 (y.2.2.1.1 : Int)), .lit (.int .i64 (y.2.2.1.2 : Int))]), some (.cells [.lit (.int .i64 0), .lit (.int .i64 0)])]))
  (inv := fun y => y.1 ≤ cs.length ∧ y.2.1.length = cs.length ∧ y.2.2.2 ≤ L.length ∧ (d = true → y.2.2.2 = L.length) ∧ (∀ c ∈ y.2.1.drop y.1, COk P c) ∧ (y.2.2.1.1 ≤ 16777216 ∧ y.2.2.1.2 ≤ 3 ∨ i < y.1) ∧
   (rsD P s i cs 0 own).run L p = ((rsD P s i (y.2.1.drop y.1) y.1 y.2.2.1).run L y.2.2.2).map (fun r => ((y.2.1.take y.1 ++ r.1.1, r.1.2), r.2)))
  (m := fun y => cs.length - y.1) (0, cs, own, p) [some 0, some 1, some 2, some 3, some 4] ⟨Nat.zero_le _, rfl, hp, hd, hc, .inl ho, by simp⟩ ?_
 rintro ⟨k, Y, o, q⟩ ⟨hk, hY, hq, hdq, hcY, hoq, hrun⟩
 dsimp only at hk hY hq hdq hcY hoq hrun ⊢
 have hs1 : ((s : Int) + 1) = ((s + 1 : Nat) : Int) := by omega
 by_cases hkl : k < cs.length
 ·
  have hkY : k < Y.length := by omega
  have hdr : Y.drop k = Y[k] :: Y.drop (k + 1) := List.drop_eq_getElem_cons hkY
  have hget : Y.getD k default = Y[k] := by rw [List.getD_eq_getElem?_getD, List.getElem?_eq_getElem hkY]; rfl
  have hself : Y.set k Y[k] = Y := List.set_getElem_self _
  have hck := hcY Y[k] (by rw [hdr]; exact List.mem_cons_self)
  have hcY2 : ∀ c ∈ Y.drop (k + 1), COk P c := fun c hc => hcY c (by rw [hdr]; exact List.mem_cons_of_mem _ hc)
  have hcY3 : ∀ z, ∀ c ∈ (Y.set k z).drop (k + 1), COk P c := by
   intro z c hc
   rw [List.drop_set_of_lt (by omega)] at hc
   exact hcY2 c hc
  have hmap := @rs_map P s i L cs Y own o
  by_cases hki : (k : Int) = i
  ·
   have hob : o.1 ≤ 16777216 ∧ o.2 ≤ 3 := by rcases hoq with h | h; exact h; omega
   have hv := wth_le (c := o) (s := s) hob.1 hob.2 hs
   have hsm := sm_le (s := s) (m := o.2) hs hob.2
   have hwo := sworth_fn (c := o) (s := s) (by omega) (by omega)
   have hsd := hsc (wth o s) q Y hq hdq (by omega)
   have hrs := rsD_own (P := P) (L := L) (w := s) (p := q) (c := Y[k]) (own := o) (cs := Y.drop (k + 1)) hki
   have hml := mode_le (P := P) (v := wth o s) (s := s + 1)
   rw [← hdr, scD_run] at hrs
   generalize modeOf P (wth o s) (s + 1) P.d 0 = mm at *
   cases h1 : (rndD (wth o s) ((s + 1) * mm)).run L q with
   | none =>
    rw [h1] at hrs
    dsimp only [Option.map_none] at hrs
    rw [hrs, Option.map_none] at hrun
    rw [outN_none h1] at hsd
    rw [hrun] at hQ
    generalize wth o s = v at *
    simp (maxSteps := 1000000) (disch := (first | omega | (simp only [lnA, List.length_map, List.length_range, true_and, and_true]; (try omega); done) | fail)) only [go_sem, hget, Int.reduceEq, Int.reduceToNat, Nat.reduceAdd, Nat.reduceMul, Nat.reduceEqDiff, ↓reduceIte]
    refine callV0 (hwo) rfl rfl ?_
    refine runW ?_
    refine callW [some 0, some 1, some 2] [] (hsd) ?_
    simp (maxSteps := 1000000) (disch := (first | omega | (simp only [lnA, List.length_map, List.length_range, true_and, and_true]; (try omega); done) | fail)) only [go_sem, hs1, Int.reduceEq, Int.reduceToNat, Nat.reduceAdd, Nat.reduceMul, Nat.reduceEqDiff, ↓reduceIte]
    exact endW [some 0, some 1, some 2] (hQ ((Y, (0, mm)), 8, L.length, true) rfl)
   | some r =>
    obtain ⟨n, q'⟩ := r
    rw [h1] at hrs
    dsimp only [Option.map_some] at hrs
    have hnx := dead_next hq hdq h1
    have hnl := rnd_le h1
    rw [outN_some h1] at hsd
    have hm2 := hmap hkY hrun hrs
    rw [hself] at hm2
    generalize wth o s = v at *
    simp (maxSteps := 1000000) (disch := (first | omega | (simp only [lnA, List.length_map, List.length_range, true_and, and_true]; (try omega); done) | fail)) only [go_sem, hget, Int.reduceEq, Int.reduceToNat, Nat.reduceAdd, Nat.reduceMul, Nat.reduceEqDiff, ↓reduceIte]
    refine callV0 (hwo) rfl rfl ?_
    refine runW ?_
    refine callW [some 0, some 1, some 2] [] (hsd) ?_
    simp (maxSteps := 1000000) (disch := (first | omega | (simp only [lnA, List.length_map, List.length_range, true_and, and_true]; (try omega); done) | fail)) only [go_sem, hs1, Int.reduceEq, Int.reduceToNat, Nat.reduceAdd, Nat.reduceMul, Nat.reduceEqDiff, ↓reduceIte]
    refine nextW (k + 1, Y, (n, mm), q') [some 0, some 1, some 2, some 3, some 4] ⟨hkl, hY, hnx.1, hnx.2, hcY2, .inr (by dsimp only; omega), hm2⟩ (by dsimp only; omega)
  ·
   obtain ⟨hc1, hc2, -⟩ := hck
   have hv := wth_le (c := Y[k]) (s := s) (A := 255) (by omega) (by omega) hs
   have hsm := sm_le (s := s) (m := Y[k].2) hs (by omega)
   have hwo := sworth_fn (c := Y[k]) (s := s) (by omega) (by omega)
   have hsd := hsc (wth Y[k] s) q Y hq hdq (by omega)
   have hrs := rsD_other (P := P) (L := L) (w := s) (p := q) (c := Y[k]) (own := o) (cs := Y.drop (k + 1)) hki
   have hml := mode_le (P := P) (v := wth Y[k] s) (s := s + 1)
   have hvl : wth Y[k] s ≤ 1044480 := by omega
   rw [← hdr, reD_run, scD_run] at hrs
   have hput := fun (z : Cell) => sput_fn (M := M) (D := D) (S := S) (cs := Y) (s := s + 1) (i := k) (f := f) (c := z) hkY (by omega)
   rw [hY] at hput
   have hoq2 : o.1 ≤ 16777216 ∧ o.2 ≤ 3 ∨ i < ((k + 1 : Nat) : Int) := by rcases hoq with h | h; exact .inl h; exact .inr (by omega)
   have hlen : ∀ z, (Y.set k z).length = cs.length := fun z => by rw [List.length_set]; exact hY
   generalize modeOf P (wth Y[k] s) (s + 1) P.d 0 = mm at *
   generalize Y[k] = y at *
   cases h1 : (rndD (wth y s) ((s + 1) * mm)).run L q with
   | none =>
    rw [h1] at hrs
    dsimp only [Option.map_none] at hrs
    rw [hrs, Option.map_none] at hrun
    rw [outN_none h1] at hsd
    rw [hrun] at hQ
    generalize wth y s = v at *
    simp (maxSteps := 1000000) (disch := (first | omega | (simp only [lnA, List.length_map, List.length_range, true_and, and_true]; (try omega); done) | fail)) only [go_sem, hget, Int.reduceEq, Int.reduceToNat, Nat.reduceAdd, Nat.reduceMul, Nat.reduceEqDiff, ↓reduceIte]
    refine callV0 (hwo) rfl rfl ?_
    refine runW ?_
    refine callW [some 0, some 1, some 2] [] (hsd) ?_
    simp (maxSteps := 1000000) (disch := (first | omega | (simp only [lnA, List.length_map, List.length_range, true_and, and_true]; (try omega); done) | fail)) only [go_sem, hs1, Int.reduceEq, Int.reduceToNat, Nat.reduceAdd, Nat.reduceMul, Nat.reduceEqDiff, ↓reduceIte]
    exact endW [some 0, some 1, some 2] (hQ ((Y, o), 8, L.length, true) rfl)
   | some r =>
    obtain ⟨n, q'⟩ := r
    rw [h1] at hrs
    dsimp only [Option.map_some] at hrs
    have hnx := dead_next hq hdq h1
    have hnl := rnd_le h1
    rw [outN_some h1] at hsd
    generalize wth y s = v at *
    by_cases hb : P.m < n
    ·
     rw [if_pos hb, upD_run] at hrs
     have hup := sup_fn (M := M) (D := D) (S := S) (n := cs.length) (cs := Y) (s := s + 1) (p := q') (f := f) (d := d) (L := L) (c := (n, mm)) hL hnx.1 hnx.2 (by dsimp only; omega) (by dsimp only; omega) (by omega)
     dsimp only at hup hrs
     cases h2 : (rndD n (s + 1)).run L q' with
     | none =>
      rw [h2] at hrs
      dsimp only [Option.map_none] at hrs
      rw [hrs, Option.map_none] at hrun
      rw [outN_none h2] at hup
      rw [hrun] at hQ
      simp (maxSteps := 1000000) (disch := (first | omega | (simp only [lnA, List.length_map, List.length_range, true_and, and_true]; (try omega); done) | fail)) only [go_sem, hget, Int.reduceEq, Int.reduceToNat, Nat.reduceAdd, Nat.reduceMul, Nat.reduceEqDiff, ↓reduceIte]
      refine callV0 (hwo) rfl rfl ?_
      refine runW ?_
      refine callW [some 0, some 1, some 2] [] (hsd) ?_
      simp (maxSteps := 1000000) (disch := (first | omega | (simp only [lnA, List.length_map, List.length_range, true_and, and_true]; (try omega); done) | fail)) only [go_sem, hs1, Int.reduceEq, Int.reduceToNat, Nat.reduceAdd, Nat.reduceMul, Nat.reduceEqDiff, ↓reduceIte]
      refine callW [some 0, some 1, some 2] [] (hup) ?_
      refine runW ?_
      exact endW [some 0, some 1, some 2] (hQ ((Y, o), 8, L.length, true) rfl)
     | some r2 =>
      obtain ⟨n2, q2⟩ := r2
      rw [h2] at hrs
      dsimp only [Option.map_some] at hrs
      have hnx2 := dead_next hnx.1 hnx.2 h2
      rw [outN_some h2] at hup
      have hp2 := hput (n2, mm + 1)
      have hm2 := hmap hkY hrun hrs
      simp (maxSteps := 1000000) (disch := (first | omega | (simp only [lnA, List.length_map, List.length_range, true_and, and_true]; (try omega); done) | fail)) only [go_sem, hget, Int.reduceEq, Int.reduceToNat, Nat.reduceAdd, Nat.reduceMul, Nat.reduceEqDiff, ↓reduceIte]
      refine callV0 (hwo) rfl rfl ?_
      refine runW ?_
      refine callW [some 0, some 1, some 2] [] (hsd) ?_
      simp (maxSteps := 1000000) (disch := (first | omega | (simp only [lnA, List.length_map, List.length_range, true_and, and_true]; (try omega); done) | fail)) only [go_sem, hs1, Int.reduceEq, Int.reduceToNat, Nat.reduceAdd, Nat.reduceMul, Nat.reduceEqDiff, ↓reduceIte]
      refine callW [some 0, some 1, some 2] [] (hup) ?_
      refine runW ?_
      refine callW [some 0, some 2] [] (hp2) ?_
      refine runW ?_
      refine nextW (k + 1, Y.set k (putS (n2, mm + 1)), o, q2) [some 0, some 1, some 2, some 3, some 4] ⟨hkl, hlen _, hnx2.1, hnx2.2, hcY3 _, hoq2, hm2⟩ (by dsimp only; omega)
    ·
     rw [if_neg hb] at hrs
     dsimp only at hrs
     have hp2 := hput (n, mm)
     have hm2 := hmap hkY hrun hrs
     simp (maxSteps := 1000000) (disch := (first | omega | (simp only [lnA, List.length_map, List.length_range, true_and, and_true]; (try omega); done) | fail)) only [go_sem, hget, Int.reduceEq, Int.reduceToNat, Nat.reduceAdd, Nat.reduceMul, Nat.reduceEqDiff, ↓reduceIte]
     refine callV0 (hwo) rfl rfl ?_
     refine runW ?_
     refine callW [some 0, some 1, some 2] [] (hsd) ?_
     simp (maxSteps := 1000000) (disch := (first | omega | (simp only [lnA, List.length_map, List.length_range, true_and, and_true]; (try omega); done) | fail)) only [go_sem, hs1, Int.reduceEq, Int.reduceToNat, Nat.reduceAdd, Nat.reduceMul, Nat.reduceEqDiff, ↓reduceIte]
     refine callW [some 0, some 2] [] (hp2) ?_
     refine runW ?_
     refine nextW (k + 1, Y.set k (putS (n, mm)), o, q') [some 0, some 1, some 2, some 3, some 4] ⟨hkl, hlen _, hnx.1, hnx.2, hcY3 _, hoq2, hm2⟩ (by dsimp only; omega)
 ·
  obtain rfl : k = cs.length := by omega
  have hdr : Y.drop cs.length = [] := List.drop_eq_nil_of_le (by omega)
  have htk : Y.take cs.length = Y := List.take_of_length_le (by omega)
  rw [hdr, htk] at hrun
  have hrun2 : (rsD P s i cs 0 own).run L p = some ((Y, o), q) := by
   rw [hrun]
   show some ((Y ++ [], o), q) = _
   rw [List.append_nil]
  rw [hrun2] at hQ
  refine runW ?_
  exact endW [some 0, some 1, some 2] (hQ ((Y, o), 0, q, d) rfl)
end Go.Proofs.YtpkfddfkacijoaaGreatDoor
