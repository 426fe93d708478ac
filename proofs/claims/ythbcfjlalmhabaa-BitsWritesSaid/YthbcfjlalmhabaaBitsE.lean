import Derived.Test.YthbcfjlalmhabaaBitsD
/-! BitsWrites. -/
namespace Go.Proofs.Ythbcfjlalmhabaa
open Go.Eng
set_option linter.unusedSimpArgs false
set_option linter.unusedVariables false
set_option maxRecDepth 100000

/-- A number, and how wide it is to be. -/
structure PutN where
  n : Nat
  m : Int
instance : Inhabited PutN := ⟨⟨0, 0⟩⟩
def putC (x : PutN) : List Value := [.int .u64 (x.n : Int), .int .i64 x.m]
def putsC (l : List PutN) : List Value := l.flatMap putC
theorem putsC_len (l : List PutN) : (putsC l).length = l.length * 2 := by
  induction l with
  | nil => rfl
  | cons x l ih => simp only [putsC, List.flatMap_cons, List.length_append, List.length_cons] at ih ⊢; rw [ih]; simp [putC]; omega
theorem putsC_get : ∀ (l : List PutN) (i j : Nat), i < l.length → j < 2 → (putsC l)[i * 2 + j]? = (putC (l.getD i default))[j]?
  | x :: l, 0, j, _, hj => by
    simp only [putsC, List.flatMap_cons, Nat.zero_mul, Nat.zero_add]
    rw [List.getElem?_append_left (by simpa [putC] using hj)]
    rfl
  | x :: l, i + 1, j, hi, hj => by
    simp only [putsC, List.flatMap_cons]
    rw [List.getElem?_append_right (by simp [putC]; omega)]
    have := putsC_get l i j (by simpa using hi) hj
    simp only [putsC] at this
    simp only [List.getD_cons_succ]
    rw [← this]
    congr 1
    simp [putC]
    omega
theorem row_put {w : World} {a : Option Addr} {l : List PutN} (h : Row w a (putsC l)) {i : Nat} (hi : i < l.length) (F : Bool → List Value → Prop) :
    cellsK w ⟨ab a, ao a + i * 2, none⟩ 2 F = F true [.int .u64 ((l.getD i default).n : Int), .int .i64 (l.getD i default).m] := by
  refine cellsK_of (fun j hj => ?_) rfl
  have hl := putsC_len l
  have hj2 : j < 2 := by simpa using hj
  have h1 := h.2 (i * 2 + j) (by omega)
  rw [show ao a + i * 2 + j = ao a + (i * 2 + j) by omega, h1]
  have h2 := putsC_get l i j hi hj2
  rw [List.getElem?_eq_getElem (by omega)] at h2
  rw [h2]
  unfold putC
  rw [List.getElem?_eq_getElem hj]

/-- What the bits are after the first i. -/
def putsTo (l : List PutN) : Nat → List Bool
  | 0 => []
  | i + 1 => if 0 ≤ (l.getD i default).m ∧ (l.getD i default).m ≤ 64 ∧ (l.getD i default).n < 2 ^ (l.getD i default).m.toNat then putsTo l i ++ numBits (l.getD i default).n (l.getD i default).m.toNat else putsTo l i
theorem putsTo_len (l : List PutN) : ∀ i, (putsTo l i).length ≤ i * 64
  | 0 => by simp [putsTo]
  | i + 1 => by
    have := putsTo_len l i
    unfold putsTo
    split
    · rw [List.length_append, numBits_len]; omega
    · omega

theorem Wr.ext' {w w' : World} {b : Nat} {v : Value} {L : List Bool} (h : Wr w b v L) (he : Ext [] w w') : Wr w' b v L := ⟨h.blk.ext he (by simp), h.own.ext' he, h.ne⟩
theorem getD_mem {l : List PutN} {i : Nat} (h : i < l.length) : l.getD i default ∈ l := by
  rw [List.getD_eq_getElem?_getD, List.getElem?_eq_getElem h]; exact List.getElem_mem h
/-- An own slice of bytes with a byte changed. -/
theorem own_set {w : World} {a : Option Addr} {n cap i : Nat} {q : List UInt8} (h : OwnC w (.slice a n cap) n 1 (q.map u8v)) (hi : i < n) (x : UInt8) :
    ∃ b C, a = some ⟨b, 0, none⟩ ∧ (∀ K : Bool → World → Prop, stK w ⟨ab a, ao a + i, none⟩ (u8v x) K = K true (setB w b C)) ∧ OwnC (setB w b C) (.slice a n cap) n 1 ((q.set i x).map u8v) := by
  obtain ⟨hl, hor⟩ := h
  rcases hor with ⟨-, h0⟩ | ⟨b, C, cap', e, hB, hC, hn, ht⟩
  · omega
  · injection e with e1 e2 e3
    subst e1 e3
    refine ⟨b, C.set i (u8v x), rfl, fun K => ?_, by simpa using hl, .inr ⟨b, _, cap, rfl, setB_heap hB, by simp; omega, hn, ?_⟩⟩
    · rw [ab_some, ao_some, Nat.zero_add]
      exact stK_blk hB (by omega) rfl
    · rw [List.take_set, ht, List.map_set]

theorem bitsWrites_true {w : World} {a : Option Addr} {n cap : Nat} {l : List PutN} (h : Row w a (putsC l)) (hn : l.length = n) (hc : n ≤ cap) (hcm : cap ≤ maxLen) (hw : ∀ x ∈ l, x.n < 18446744073709551616) :
    Rets Try.prog 3 [.slice a n cap] w fun v w' => v = .bool true ∧ Ext [] w w' := by
  subst hn
  refine rets_den Try.func3 rfl (by kernel_rfl) (by kernel_rfl) [.tmp 2] (by kernel_rfl) ?_
  simp (disch := omega) only [go_sem, ↓reduceIte, Nat.reduceEqDiff]
  refine cllK_of Try.call15 (awake1_rets w) ?_
  rintro v w1 ⟨rfl, he1⟩
  simp (disch := omega) only [go_sem, Bool.not_true, ↓reduceIte, Nat.reduceEqDiff]
  have hlen : l.length ≤ 9223372036854775807 := by unfold maxLen at hcm; omega
  refine LoopK_of (X := Nat × Value × Value) (st := fun x => [(0, .slice a l.length cap), (3, .pointer (some ⟨w1.heap.size, 0, none⟩)), (4, x.2.2), (5, .int .i64 (x.1 : Int))])
    (inv := fun x w' => x.1 ≤ l.length ∧ x.1 ≤ 60 ∧ Ext [] w w' ∧ Wr w' w1.heap.size x.2.1 (putsTo l x.1) ∧ (∀ q ∈ fpv x.2.1, w1.heap.size ≤ q) ∧
      OwnC w' x.2.2 (putsTo l x.1).length 1 ((putsTo l x.1).map bv) ∧ (∀ q ∈ fpv x.2.2, w1.heap.size < q ∧ q ∉ fpv x.2.1)) (m := fun x => 60 - x.1) (0, .slice none 0 0, .slice none 0 0)
    (sub_cons rfl rfl (sub_cons rfl rfl (sub_cons rfl rfl (sub_cons rfl rfl (sub_nil _))))) ⟨Nat.zero_le _, Nat.zero_le _, he1.alloc _, Wr.start w1 _, fun q hq => by simp [fpv] at hq, OwnC.nil _ _, fun q hq => by simp [fpv] at hq⟩ ?_
  rintro ⟨i, v1, v2⟩ w2 ⟨hi, hi60, he, hWr, hF1, hO, hF2⟩
  simp only at hi hi60 he hWr hF1 hO hF2 ⊢
  by_cases hil : i < l.length ∧ i < 60
  · obtain ⟨hil, hi6⟩ := hil
    have R2 := h.ext' he
    have hix : ∀ (q : IntKind) (F : Kv) (w' : World), idxK Try.prog 22 (.slice a l.length cap) (.int q (i : Int)) w' F = F true (.pointer (some ⟨ab a, ao a + i * 2, none⟩)) w' := fun q F w' => ixr_22 R2 (putsC_len l) hil w'
    have hcs : ∀ F, cellsK w2 ⟨ab a, ao a + i * 2, none⟩ 2 F = F true [.int .u64 ((l.getD i default).n : Int), .int .i64 (l.getD i default).m] := fun F => row_put R2 hil F
    simp (disch := omega) only [go_sem, hix, hcs, ↓reduceIte, Nat.reduceEqDiff]
    rw [st_30 (c := [.int .u64 ((l.getD i default).n : Int), .int .i64 (l.getD i default).m]) rfl, stsK_all (C := [.int .u64 0, .int .i64 0]) (vs := [.int .u64 ((l.getD i default).n : Int), .int .i64 (l.getD i default).m]) rfl rfl (by simp [oneC])]
    simp (disch := omega) only [go_sem, ↓reduceIte, Nat.reduceEqDiff]
    have hxn := hw _ (getD_mem hil)
    have hstep : putsTo l (i + 1) = if 0 ≤ (l.getD i default).m ∧ (l.getD i default).m ≤ 64 ∧ (l.getD i default).n < 2 ^ (l.getD i default).m.toNat then putsTo l i ++ numBits (l.getD i default).n (l.getD i default).m.toNat else putsTo l i := rfl
    have hpl := putsTo_len l i
    have hpl1 := putsTo_len l (i + 1)
    generalize l.getD i default = x at *
    obtain ⟨N, M⟩ := x
    simp only at hxn hstep hcs ⊢
    have hB3 : Blk (w2.alloc (.cells [.int .u64 (N : Int), .int .i64 M].toArray 30)) w2.heap.size [.int .u64 (N : Int), .int .i64 M] := Blk.new _ _ _
    have hE3 : Ext [] w2 (w2.alloc (.cells [.int .u64 (N : Int), .int .i64 M].toArray 30)) := (Ext.refl [] w2).alloc _
    have hs3 : (w2.alloc (.cells [.int .u64 (N : Int), .int .i64 M].toArray 30)).heap.size = w2.heap.size + 1 := by simp
    have hWr3 := hWr.ext' hE3
    have hO3 := hO.ext' hE3
    have hb2 := hWr.blk.lt
    have hv2 := hWr.own.lt
    have ho2 := hO.lt
    generalize w2.alloc (.cells [.int .u64 (N : Int), .int .i64 M].toArray 30) = w3 at *
    refine cllK_of Try.call16 (num_rets (n := N) (m := M) hWr3 (by omega) hxn) ?_
    rintro v w4 hor
    obtain ⟨e, v1', rfl, hee, hW4, hE4, hF4⟩ : ∃ e v1', v = .int .i64 e ∧ e = (if 0 ≤ M ∧ M ≤ 64 ∧ N < 2 ^ M.toNat then 0 else 2) ∧ Wr w4 w1.heap.size v1' (putsTo l (i + 1)) ∧ Ext (w1.heap.size :: fpv v1) w3 w4 ∧ ∀ q ∈ fpv v1', q ∈ fpv v1 ∨ w3.heap.size ≤ q := by
      rcases hor with ⟨h1, rfl, v', h2, h3, h4⟩ | ⟨h1, rfl, rfl⟩
      · exact ⟨0, v', rfl, by rw [if_pos h1], by rw [hstep, if_pos h1]; exact h2, h3, h4⟩
      · exact ⟨2, v1, rfl, by rw [if_neg h1], by rw [hstep, if_neg h1]; exact hWr3, Ext.refl _ _, fun q hq => .inl hq⟩
    have hB4 := hB3.ext hE4 (by
      intro hm
      rcases List.mem_cons.1 hm with h | h
      · omega
      · have := hv2 _ h; omega)
    have x0 : ∀ F, cellK w4 ⟨w2.heap.size, 0, none⟩ F = F true (.int .u64 (N : Int)) := fun F => cellK_of (hB4.cell rfl)
    have x1 : ∀ F, cellK w4 ⟨w2.heap.size, 0 + 1, none⟩ F = F true (.int .i64 M) := fun F => cellK_of (hB4.cell rfl)
    have hO4 := hO3.ext hE4 (fun q hq hm => by
      have h1 := hF2 q hq
      rcases List.mem_cons.1 hm with h | h
      · omega
      · exact h1.2 h)
    obtain ⟨a2, c2, rfl, hc2, R4, -⟩ := hO4.row
    simp (disch := omega) only [go_sem, x0, x1, ↓reduceIte, Nat.reduceEqDiff]
    refine cllK_of Try.call17 (refPut_rets (n := N) (m := M) R4 rfl (by omega) hxn) ?_
    rintro v w5 hor5
    obtain ⟨v2', rfl, hO5, hE5, hF5⟩ : ∃ v2', v = .tuple #[v2', .int .i64 e] ∧ OwnC w5 v2' (putsTo l (i + 1)).length 1 ((putsTo l (i + 1)).map bv) ∧ Ext [] w4 w5 ∧ ∀ q ∈ fpv v2', q ∈ fpv (.slice a2 (putsTo l i).length c2) ∨ w4.heap.size ≤ q := by
      rcases hor5 with ⟨h1, v', h2, h3, h4, h5⟩ | ⟨h1, h2, h3⟩
      · rw [if_pos h1] at hee hstep
        subst hee
        exact ⟨v', h2, by rw [hstep, List.length_append, numBits_len]; exact h3, h4, fun q hq => .inr (h5 q hq)⟩
      · rw [if_neg h1] at hee hstep
        subst hee
        exact ⟨_, h2, by rw [hstep]; exact hO4.ext' h3, h3, fun q hq => .inl hq⟩
    have hW5 := hW4.ext' hE5
    obtain ⟨a5, c5, rfl, hc5, R5, -⟩ := hO5.row
    simp (disch := omega) only [go_sem, decide_true, Bool.not_true, ↓reduceIte, Nat.reduceEqDiff]
    refine cllK_of Try.call18 (len_rets hW5.blk) ?_
    rintro v w6 ⟨rfl, hw6⟩
    subst w6
    simp (disch := omega) only [go_sem, decide_true, Bool.not_true, ↓reduceIte, Nat.reduceEqDiff]
    refine cllK_of Try.call20 (bytes_rets hW5 (by omega)) ?_
    rintro v w6 ⟨hv6, hE6, hF6⟩
    obtain ⟨a6, c6, rfl, hc6, R6, -⟩ := hv6.row
    simp (disch := omega) only [go_sem, decide_true, Bool.not_true, ↓reduceIte, Nat.reduceEqDiff]
    refine cllK_of Try.call21 (refBytes_rets (R5.ext' hE6) rfl (by omega)) ?_
    rintro v w7 ⟨hv7, hE7, hF7⟩
    obtain ⟨a7, c7, rfl, hc7, R7, -⟩ := hv7.row
    simp (disch := omega) only [go_sem, decide_true, Bool.not_true, ↓reduceIte, Nat.reduceEqDiff]
    rw [← packed_len]
    refine cllK_of Try.call19 (same_rets (R6.ext' hE7) R7 (by rw [packed_len]; omega)) ?_
    rintro v w8 ⟨rfl, hE8⟩
    simp (disch := omega) only [go_sem, decide_true, Bool.not_true, ↓reduceIte, Nat.reduceEqDiff]
    have z1 := he1.size
    have z2 := hE4.size
    have hE58 := ((hE5.trans' hE6).trans' hE7).trans' hE8
    have hE68 := (hE6.trans' hE7).trans' hE8
    have hE08 : Ext [] w w8 := ((he.trans' hE3).trans hE4 (fun q hq => .inr (by
      rcases List.mem_cons.1 hq with h | h
      · omega
      · have := hF1 q h; omega))).trans' hE58
    have hv4 := hW4.own.lt
    refine NextK_of (i + 1, v1', _) (sub_cons rfl rfl (sub_cons rfl rfl (sub_cons rfl rfl (sub_cons rfl (int_eq (by omega)) (sub_nil _))))) ⟨by simp only; omega, by simp only; omega, hE08, hW5.ext' hE68, fun q hq => ?_, hO5.ext' hE68, fun q hq => ?_⟩ (by simp only; omega)
    · rcases hF4 q hq with h | h
      · exact hF1 q h
      · omega
    · rcases hF5 q hq with h | h
      · have h1 := hF2 q h
        have h2 := ho2 q h
        refine ⟨h1.1, fun h3 => ?_⟩
        rcases hF4 q h3 with h4 | h4
        · exact h1.2 h4
        · omega
      · refine ⟨by omega, fun h3 => ?_⟩
        have := hv4 q h3
        omega
  · have hpl := putsTo_len l i
    by_cases h1 : i < l.length <;> simp (disch := omega) only [go_sem, ↓reduceIte, Nat.reduceEqDiff]
    all_goals
      refine cllK_of Try.call20 (bytes_rets hWr (by omega)) ?_
      rintro v w3 ⟨hv3, hE3, hF3⟩
      obtain ⟨a3, c3, rfl, hc3, R3, -⟩ := hv3.row
      have hpk := packed_len (putsTo l i)
      generalize hm : ((putsTo l i).length + 7) / 8 = m at *
      simp (disch := omega) only [go_sem, ↓reduceIte, Nat.reduceEqDiff]
      refine LoopK_of (X := Nat × List UInt8) (st := fun x => [(3, .pointer (some ⟨w1.heap.size, 0, none⟩)), (4, v2), (10, .slice a3 m c3), (61, .int .i64 (m : Int)), (62, .int .i64 (x.1 : Int))])
        (inv := fun x w' => x.1 ≤ m ∧ x.2.length = m ∧ Ext [] w2 w' ∧ OwnC w' (.slice a3 m c3) m 1 (x.2.map u8v)) (m := fun x => m - x.1) (0, packed (putsTo l i))
        (sub_cons rfl rfl (sub_cons rfl rfl (sub_cons rfl rfl (sub_cons rfl rfl (sub_cons rfl rfl (sub_nil _)))))) ⟨Nat.zero_le _, hpk, hE3, hv3⟩ ?_
      rintro ⟨j, q⟩ w4 ⟨hj, hq, hE4, hO4⟩
      simp only at hj hq hE4 hO4 ⊢
      by_cases hjm : j < m
      · obtain ⟨b3, C3, rfl, hst, hO5⟩ := own_set hO4 hjm (q.getD j default + 1)
        obtain ⟨a4, c4, e4, -, R4, -⟩ := hO4.row
        obtain rfl : some ⟨b3, 0, none⟩ = a4 := by injection e4
        have hix : ∀ (qq : IntKind) (F : Kv) (w' : World), idxK Try.prog 24 (.slice (some ⟨b3, 0, none⟩) m c3) (.int qq (j : Int)) w' F = F true (.pointer (some ⟨b3, 0 + j, none⟩)) w' := fun qq F w' => ixr_24 R4 (by simpa using hq) hjm w'
        have hcc : ∀ F, cellK w4 ⟨b3, 0 + j, none⟩ F = F true (u8v (q.getD j default)) := fun F => R4.get (by omega) F
        have hadd : IntKind.u8.wrap (((q.getD j default).toNat : Int) + 1) = (((q.getD j default + 1).toNat : Nat) : Int) := by
          rw [IntKind.wrap_u8, UInt8.toNat_add]; simp
        have hst2 : ∀ K : Bool → World → Prop, stK w4 ⟨b3, 0 + j, none⟩ (u8v (q.getD j default + 1)) K = K true (setB w4 b3 C3) := hst
        unfold u8v at hcc hst2
        simp (disch := omega) only [go_sem, hix, hcc, hadd, hst2, ↓reduceIte, Nat.reduceEqDiff]
        have hb3 : w2.heap.size ≤ b3 := hF3 b3 (by simp [fpv])
        exact NextK_of (j + 1, q.set j (q.getD j default + 1)) (sub_cons rfl rfl (sub_cons rfl rfl (sub_cons rfl rfl (sub_cons rfl rfl (sub_cons rfl (int_eq (by omega)) (sub_nil _)))))) ⟨by simp only; omega, by simpa using hq, hE4.trans (setB_ext w4 b3 C3) (fun x hx => .inr (by simp at hx; omega)), hO5⟩ (by simp only; omega)
      · obtain rfl : j = m := by omega
        simp (disch := omega) only [go_sem, ↓reduceIte, Nat.reduceEqDiff]
        refine cllK_of Try.call20 (bytes_rets (hWr.ext' hE4) (by omega)) ?_
        rintro v w5 ⟨hv5, hE5, hF5⟩
        obtain ⟨a5, c5, rfl, hc5, R5, -⟩ := hv5.row
        obtain ⟨a6, c6, rfl, hc6, R6, -⟩ := hO.row
        simp (disch := omega) only [go_sem, ↓reduceIte, Nat.reduceEqDiff]
        refine cllK_of Try.call21 (refBytes_rets ((R6.ext' hE4).ext' hE5) (by simp) (by omega)) ?_
        rintro v w6 ⟨hv6, hE6, hF6⟩
        obtain ⟨a7, c7, rfl, hc7, R7, -⟩ := hv6.row
        simp (disch := omega) only [go_sem, ↓reduceIte, Nat.reduceEqDiff]
        rw [hm, ← hpk]
        refine cllK_of Try.call19 (same_rets (R5.ext' hE6) R7 (by omega)) ?_
        rintro v w8 ⟨rfl, hE8⟩
        simp (disch := omega) only [go_sem, decide_true, ↓reduceIte, Nat.reduceEqDiff]
        exact ⟨trivial, (((he.trans' hE4).trans' hE5).trans' hE6).trans' hE8⟩
end Go.Proofs.Ythbcfjlalmhabaa
