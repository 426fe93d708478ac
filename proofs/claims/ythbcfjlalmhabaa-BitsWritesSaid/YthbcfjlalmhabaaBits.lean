import Derived.Test.YthbcfjlalmhabaaGlue
import Derived.Test.YthbcfjlalmhabaaFacts
import Derived.Test.YthbcfjlalmhabaaHeld
/-! Package bits: writing. -/
namespace Go.Proofs.Ythbcfjlalmhabaa
open Go.Eng
set_option linter.unusedSimpArgs false
set_option linter.unusedVariables false

/-! ### bits in bytes -/
def bAt (L : List Bool) (i : Nat) : Nat := (L.getD i false).toNat
theorem bAt_le (L : List Bool) (i : Nat) : bAt L i ≤ 1 := by unfold bAt; cases L.getD i false <;> simp
theorem bAt_out {L : List Bool} {i : Nat} (h : L.length ≤ i) : bAt L i = 0 := by
  unfold bAt; rw [List.getD_eq_getElem?_getD, List.getElem?_eq_none h]; rfl
theorem bAt_snoc_lt {L : List Bool} {i : Nat} (x : Bool) (h : i < L.length) : bAt (L ++ [x]) i = bAt L i := by
  unfold bAt; rw [List.getD_eq_getElem?_getD, List.getElem?_append_left h, ← List.getD_eq_getElem?_getD]
theorem bAt_snoc_eq (L : List Bool) (x : Bool) : bAt (L ++ [x]) L.length = x.toNat := by
  unfold bAt; simp
def byteV (L : List Bool) (k : Nat) : Nat :=
  bAt L (8 * k) * 128 + bAt L (8 * k + 1) * 64 + bAt L (8 * k + 2) * 32 + bAt L (8 * k + 3) * 16 + bAt L (8 * k + 4) * 8 + bAt L (8 * k + 5) * 4 + bAt L (8 * k + 6) * 2 + bAt L (8 * k + 7)
theorem byteV_lt (L : List Bool) (k : Nat) : byteV L k < 256 := by
  unfold byteV
  have h := bAt_le L
  have h0 := h (8 * k); have h1 := h (8 * k + 1); have h2 := h (8 * k + 2); have h3 := h (8 * k + 3); have h4 := h (8 * k + 4); have h5 := h (8 * k + 5); have h6 := h (8 * k + 6); have h7 := h (8 * k + 7)
  omega
def packedTo (L : List Bool) (m : Nat) : List UInt8 := (List.range m).map fun k => UInt8.ofNat (byteV L k)
def packed (L : List Bool) : List UInt8 := packedTo L ((L.length + 7) / 8)
theorem packedTo_len (L : List Bool) (m : Nat) : (packedTo L m).length = m := by simp [packedTo]
theorem byteV_snoc_lt {L : List Bool} {k : Nat} (x : Bool) (h : k < L.length / 8) : byteV (L ++ [x]) k = byteV L k := by
  unfold byteV
  rw [bAt_snoc_lt x (by omega), bAt_snoc_lt x (by omega), bAt_snoc_lt x (by omega), bAt_snoc_lt x (by omega), bAt_snoc_lt x (by omega), bAt_snoc_lt x (by omega), bAt_snoc_lt x (by omega), bAt_snoc_lt x (by omega)]
theorem byteV_snoc (L : List Bool) (x : Bool) : byteV (L ++ [x]) (L.length / 8) = byteV L (L.length / 8) + x.toNat * 2 ^ (7 - L.length % 8) ∧ byteV L (L.length / 8) % 2 ^ (8 - L.length % 8) = 0 := by
  have hs : ∀ i, bAt (L ++ [x]) i = if i < L.length then bAt L i else if i = L.length then x.toNat else 0 := fun i => by
    by_cases h : i < L.length
    · rw [if_pos h, bAt_snoc_lt x h]
    · rw [if_neg h]
      by_cases h' : i = L.length
      · rw [if_pos h', h', bAt_snoc_eq]
      · rw [if_neg h', bAt_out (by simp; omega)]
  have ho : ∀ i, L.length ≤ i → bAt L i = 0 := fun i h => bAt_out h
  have hn : L.length = 8 * (L.length / 8) + L.length % 8 := (Nat.div_add_mod _ 8).symm
  have hx : x.toNat ≤ 1 := by cases x <;> simp
  unfold byteV
  simp only [hs]
  generalize L.length / 8 = k at *
  have hr : L.length % 8 < 8 := Nat.mod_lt _ (by omega)
  generalize L.length % 8 = r at *
  rw [hn] at ho ⊢
  have h := bAt_le L
  have h0 := h (8 * k); have h1 := h (8 * k + 1); have h2 := h (8 * k + 2); have h3 := h (8 * k + 3); have h4 := h (8 * k + 4); have h5 := h (8 * k + 5); have h6 := h (8 * k + 6); have h7 := h (8 * k + 7)
  have o0 := ho (8 * k); have o1 := ho (8 * k + 1); have o2 := ho (8 * k + 2); have o3 := ho (8 * k + 3); have o4 := ho (8 * k + 4); have o5 := ho (8 * k + 5); have o6 := ho (8 * k + 6); have o7 := ho (8 * k + 7)
  generalize bAt L (8 * k) = a0 at *
  generalize bAt L (8 * k + 1) = a1 at *
  generalize bAt L (8 * k + 2) = a2 at *
  generalize bAt L (8 * k + 3) = a3 at *
  generalize bAt L (8 * k + 4) = a4 at *
  generalize bAt L (8 * k + 5) = a5 at *
  generalize bAt L (8 * k + 6) = a6 at *
  generalize bAt L (8 * k + 7) = a7 at *
  generalize x.toNat = q at *
  clear hs ho h hn
  rcases (by omega : r = 0 ∨ r = 1 ∨ r = 2 ∨ r = 3 ∨ r = 4 ∨ r = 5 ∨ r = 6 ∨ r = 7) with rfl | rfl | rfl | rfl | rfl | rfl | rfl | rfl <;> simp (disch := omega) only [if_pos, if_neg, ↓reduceIte] <;> constructor <;> simp only [Nat.reducePow, Nat.reduceSub, ↓reduceIte] <;> omega
theorem packedTo_snoc (L : List Bool) (x : Bool) : packedTo (L ++ [x]) (L.length / 8 + 1) = (packedTo L (L.length / 8 + 1)).set (L.length / 8) (UInt8.ofNat (byteV L (L.length / 8) + x.toNat * 2 ^ (7 - L.length % 8))) := by
  unfold packedTo
  apply List.ext_getElem
  · simp
  · intro i h1 h2
    simp only [List.getElem_set, List.getElem_map, List.getElem_range]
    simp at h1
    by_cases h : L.length / 8 = i
    · subst h
      rw [if_pos rfl, (byteV_snoc L x).1]
    · rw [if_neg h, byteV_snoc_lt x (by omega)]
theorem packedTo_false (L : List Bool) (m : Nat) : packedTo (L ++ [false]) m = packedTo L m := by
  have h : ∀ i, bAt (L ++ [false]) i = bAt L i := fun i => by
    by_cases h : i < L.length
    · exact bAt_snoc_lt _ h
    · rw [bAt_out (L := L) (by omega)]
      by_cases h' : i = L.length
      · subst h'; rw [bAt_snoc_eq]; rfl
      · exact bAt_out (by simp; omega)
  unfold packedTo byteV
  simp only [h]
theorem packed_snoc (L : List Bool) (x : Bool) : packed (L ++ [x]) = packedTo (L ++ [x]) (L.length / 8 + 1) := by
  unfold packed
  congr 1
  simp
  omega
/-- With a byte more, where they are full. -/
theorem packedTo_next (L : List Bool) : packedTo L (L.length / 8 + 1) = if L.length % 8 = 0 then packed L ++ [0] else packed L := by
  unfold packed
  by_cases h : L.length % 8 = 0
  · rw [if_pos h, show (L.length + 7) / 8 = L.length / 8 by omega]
    unfold packedTo
    rw [List.range_succ, List.map_append]
    have h2 := (byteV_snoc L false).2
    rw [h, Nat.sub_zero] at h2
    have := byteV_lt L (L.length / 8)
    rw [show (2 : Nat) ^ 8 = 256 from rfl] at h2
    simp [show byteV L (L.length / 8) = 0 by omega]
  · rw [if_neg h, show (L.length + 7) / 8 = L.length / 8 + 1 by omega]
theorem or_bit : ∀ r : Fin 8, ∀ y : Fin 256, y.val % 2 ^ (8 - r.val) = 0 → y.val ||| 2 ^ (7 - r.val) = y.val + 2 ^ (7 - r.val) := by decide +kernel

/-! ### the writer -/
structure Wr (w : World) (b : Nat) (v : Value) (L : List Bool) : Prop where
  blk : Blk w b [v, .int .i64 (L.length : Int)]
  own : OwnC w v ((L.length + 7) / 8) 1 ((packed L).map u8v)
  ne : b ∉ fpv v

theorem Wr.drew {w : World} {b : Nat} {v : Value} {L : List Bool} (h : Wr w b v L) : Wr w.drew b v L := ⟨h.blk, h.own.ext' (Ext.refl [] w).drew, h.ne⟩
theorem good_rets {w : World} {n : Int} : Rets Try.prog 62 [.int .i64 n] w fun v w' => v = .bool (decide (0 ≤ n ∧ n ≤ 64)) ∧ w' = w := by
  refine rets_den Try.func62 rfl (by kernel_rfl) (by kernel_rfl) [.tmp 2] (by kernel_rfl) ?_
  by_cases h : 0 ≤ n
  · simp (disch := omega) only [go_sem, ge_iff_le, h, decide_true, ↓reduceIte, Nat.reduceEqDiff]
    simp [h]
  · simp (disch := omega) only [go_sem, ge_iff_le, h, decide_false, ↓reduceIte, Nat.reduceEqDiff]
    simp [h]
theorem len_rets {w : World} {b : Nat} {v : Value} {n : Int} (h : Blk w b [v, .int .i64 n]) : Rets Try.prog 18 [.pointer (some ⟨b, 0, none⟩)] w fun u w' => u = .int .i64 n ∧ w' = w := by
  refine rets_den Try.func18 rfl (by kernel_rfl) (by kernel_rfl) [.tmp 2] (by kernel_rfl) ?_
  have hc : ∀ F, cellK w ⟨b, 1, none⟩ F = F true (.int .i64 n) := fun F => cellK_of (h.cell rfl)
  simp (disch := omega) only [go_sem, hc, ↓reduceIte, Nat.reduceEqDiff]
  exact ⟨trivial, trivial⟩

set_option maxRecDepth 100000 in
theorem bit_rets {w : World} {b : Nat} {v : Value} {L : List Bool} {x : Bool} (h : Wr w b v L) (hm : L.length < 1099511627776) :
    Rets Try.prog 44 [.pointer (some ⟨b, 0, none⟩), .bool x] w fun _ w' => ∃ v', Wr w' b v' (L ++ [x]) ∧ Ext (b :: fpv v) w w' ∧ ∀ q ∈ fpv v', q ∈ fpv v ∨ w.heap.size ≤ q := by
  refine rets_den Try.func44 rfl (by kernel_rfl) (by kernel_rfl) [] (by kernel_rfl) ?_
  obtain ⟨hB, hO, hne⟩ := h
  have c0 : ∀ F, cellK w ⟨b, 0, none⟩ F = F true v := fun F => cellK_of (hB.cell rfl)
  have c1 : ∀ F, cellK w ⟨b, 1, none⟩ F = F true (.int .i64 (L.length : Int)) := fun F => cellK_of (hB.cell rfl)
  have hrem : (L.length : Int).tmod 8 = ((L.length % 8 : Nat) : Int) := by rw [Int.tmod_eq_emod_of_nonneg (by omega)]; rfl
  have hquo : (L.length : Int).tdiv 8 = ((L.length / 8 : Nat) : Int) := by rw [Int.tdiv_eq_ediv_of_nonneg (by omega)]; rfl
  by_cases h8 : L.length % 8 = 0
  · simp (disch := omega) only [go_sem, c0, c1, hrem, ↓reduceIte, Nat.reduceEqDiff]
    refine apd_24_24 (n := (L.length + 7) / 8) (m := 1) (cs := (packed L).map u8v) (xs := [.int .u8 0]) (hO.ext' ((Ext.refl [] w).alloc _)) (Row.of_blk (Blk.new _ _ _) (fun i hi => by rw [Nat.zero_add]; exact List.getElem?_eq_getElem hi)) (by simp) (by simp [oneC]) (by omega) ?_
    intro v1 w1 hv he hf
    have hnew := packedTo_next L
    rw [if_pos h8] at hnew
    obtain ⟨hlen, hor⟩ := hv
    rcases hor with ⟨-, h0⟩ | ⟨b1, C1, cap1, rfl, sC1, hM, sN, sT⟩
    · omega
    have hdv : (L.length + 7) / 8 + 1 = L.length / 8 + 1 := by omega
    rw [hdv] at sN sT ⊢
    have hBa : Blk w1 b [v, .int .i64 (L.length : Int)] := (hB.alloc _).ext he hne
    have hb1 : b1 ∈ fpv v ∨ w.heap.size + 1 ≤ b1 := by have := hf b1 (by simp [fpv]); simpa using this
    have hbl := hB.lt
    have sE : b ≠ b1 := by
      intro e
      subst e
      rcases hb1 with h | h
      · exact hne h
      · omega
    have hs0 : ∀ (u : Option Addr) (l c : Nat) (K : Bool → World → Prop), stK w1 ⟨b, 0, none⟩ (.slice u l c) K = K true (setB w1 b [.slice u l c, .int .i64 (L.length : Int)]) := fun u l c K => stK_blk hBa (by simp) rfl
    simp (disch := omega) only [go_sem, hs0, ↓reduceIte, Nat.reduceEqDiff]
    have sB : Blk (setB w1 b [.slice (some ⟨b1, 0, none⟩) (L.length / 8 + 1) cap1, .int .i64 (L.length : Int)]) b [.slice (some ⟨b1, 0, none⟩) (L.length / 8 + 1) cap1, .int .i64 (L.length : Int)] := setB_heap hBa
    have sC := sC1.ext (setB_ext w1 b [.slice (some ⟨b1, 0, none⟩) (L.length / 8 + 1) cap1, .int .i64 (L.length : Int)]) (by simp; exact fun h => sE h.symm)
    have hE2 : Ext (b :: fpv v) w (setB w1 b [.slice (some ⟨b1, 0, none⟩) (L.length / 8 + 1) cap1, .int .i64 (L.length : Int)]) :=
      ((((Ext.refl (b :: fpv v) w).alloc _).trans he (fun q hq => .inl (by simp [hq])))).trans (setB_ext w1 b _) (fun q hq => .inl (by simp at hq; simp [hq]))
    have hF2 : b1 ∈ fpv v ∨ w.heap.size ≤ b1 := hb1.imp id (by omega)
    have sM : L.length / 8 + 1 ≤ C1.length := by omega
    rw [Nat.mul_one] at sT
    rw [show ((packed L).map u8v ++ [Value.int .u8 0]) = (packedTo L (L.length / 8 + 1)).map u8v by rw [hnew, List.map_append]; rfl] at sT
    generalize setB w1 b [.slice (some ⟨b1, 0, none⟩) (L.length / 8 + 1) cap1, .int .i64 (L.length : Int)] = w2 at *
    have d0 : ∀ F, cellK w2 ⟨b, 0, none⟩ F = F true (.slice (some ⟨b1, 0, none⟩) (L.length / 8 + 1) cap1) := fun F => cellK_of (sB.cell rfl)
    have d1 : ∀ F, cellK w2 ⟨b, 1, none⟩ F = F true (.int .i64 (L.length : Int)) := fun F => cellK_of (sB.cell rfl)
    have hidx : ∀ (q : IntKind) (k : Kv) (w' : World), idxK Try.prog 24 (.slice (some ⟨b1, 0, none⟩) (L.length / 8 + 1) cap1) (.int q ((L.length / 8 : Nat) : Int)) w' k = k true (.pointer (some ⟨b1, L.length / 8, none⟩)) w' := fun q k w' => by
      have h := ixn_24 (k := k) (w := w') (i := q) (b := b1) (o := 0) (cap := cap1) (len := L.length / 8 + 1) (m := L.length / 8) (by omega)
      simpa only [Nat.zero_add] using h
    have hby : ∀ F, cellK w2 ⟨b1, L.length / 8, none⟩ F = F true (.int .u8 ((byteV L (L.length / 8) : Nat) : Int)) := fun F => by
      refine cellK_of (sC.cell ?_)
      have h1 : (C1.take (L.length / 8 + 1))[L.length / 8]? = some (u8v (UInt8.ofNat (byteV L (L.length / 8)))) := by rw [sT]; simp [packedTo]
      rw [List.getElem?_take_of_lt (by omega)] at h1
      rw [h1]
      unfold u8v
      rw [UInt8.toNat_ofNat', Nat.mod_eq_of_lt (byteV_lt _ _)]
    have hst : ∀ (q : Int) (K : Bool → World → Prop), stK w2 ⟨b1, L.length / 8, none⟩ (.int .u8 q) K = K true (setB w2 b1 (C1.set (L.length / 8) (.int .u8 q))) := fun q K => stK_blk sC (by omega) rfl
    have hsn : ∀ (w3 : World) (q : Int) (K : Bool → World → Prop), Blk w3 b [.slice (some ⟨b1, 0, none⟩) (L.length / 8 + 1) cap1, .int .i64 (L.length : Int)] → stK w3 ⟨b, 0 + 1, none⟩ (.int .i64 q) K = K true (setB w3 b [.slice (some ⟨b1, 0, none⟩) (L.length / 8 + 1) cap1, .int .i64 q]) := fun w3 q K hb => stK_blk hb (by simp) rfl
    have hsnoc := packedTo_snoc L x
    have hq2 : 0 + ((L.length : Int) / 8).toNat * 1 = L.length / 8 := by omega
    have hr8 : L.length % 8 < 8 := Nat.mod_lt _ (by omega)
    have hsb := byteV_snoc L true
    have hlt := byteV_lt (L ++ [true]) (L.length / 8)
    have hpw : (2 : Nat) ^ (7 - L.length % 8) < 256 := Nat.lt_of_le_of_lt (Nat.pow_le_pow_right (by omega) (show 7 - L.length % 8 ≤ 7 by omega)) (by decide)
    have horv : bitK .or .u8 ((byteV L (L.length / 8) : Nat) : Int) (IntKind.u8.wrap (1 * 2 ^ (7 - (L.length : Int) % 8).toNat)) = ((byteV L (L.length / 8) + 2 ^ (7 - L.length % 8) : Nat) : Int) := by
      have e1 : (1 * 2 ^ (7 - (L.length : Int) % 8).toNat : Int) = ((2 ^ (7 - L.length % 8) : Nat) : Int) := by
        rw [show (7 - (L.length : Int) % 8).toNat = 7 - L.length % 8 by omega, Int.one_mul]
        norm_cast
      rw [e1, wrap_u8 ⟨Int.natCast_nonneg _, by exact_mod_cast Nat.le_of_lt_succ hpw⟩, or_u8 (byteV_lt _ _) hpw, or_bit ⟨L.length % 8, hr8⟩ ⟨byteV L (L.length / 8), byteV_lt _ _⟩ hsb.2]
    have hsn2 := fun q K => hsn w2 q K sB
    have hfin : ∀ (w3 : World) (C3 : List Value), Blk w3 b [.slice (some ⟨b1, 0, none⟩) (L.length / 8 + 1) cap1, .int .i64 (L.length : Int)] → Blk w3 b1 C3 → C3.length = C1.length → C3.take (L.length / 8 + 1) = (packedTo (L ++ [x]) (L.length / 8 + 1)).map u8v →
        Wr (setB w3 b [.slice (some ⟨b1, 0, none⟩) (L.length / 8 + 1) cap1, .int .i64 ((L.length : Int) + 1)]) b (.slice (some ⟨b1, 0, none⟩) (L.length / 8 + 1) cap1) (L ++ [x]) := by
      intro w3 C3 hb hc hl ht
      refine ⟨by simpa using setB_heap hb, ?_, by simp [fpv]; exact sE⟩
      rw [packed_snoc]
      refine ⟨by simp [packedTo]; omega, .inr ⟨b1, C3, cap1, ?_, hc.ext (setB_ext w3 b _) (by simp; exact fun h => sE h.symm), by omega, by simp; omega, ?_⟩⟩
      · congr 1; simp; omega
      · rw [← ht]; congr 1; simp; omega
    cases x with
    | true =>
      simp (disch := omega) only [go_sem, ↓reduceIte, Nat.reduceEqDiff]
      refine DrawK_held [(0, 0), (1, 0), (2, 0), (3, 0), (4, 0), (5, 0), (6, 0), (7, 0), (8, 0), (9, 0), (10, 0), (11, 0), (12, 0), (13, 0), (14, 0), (15, 0), (16, 0), (17, 0), (18, 0), (19, 0), (20, 2)] (by kernel_rfl) (by kernel_rfl) (by kernel_rfl) ?_
      simp (disch := omega) only [go_sem, d0, d1, hidx, hby, hst, hrem, hquo, hq2, horv, ↓reduceIte, Nat.reduceEqDiff]
      have sB3 := sB.ext (setB_ext w2 b1 (C1.set (L.length / 8) (.int .u8 ((byteV L (L.length / 8) + 2 ^ (7 - L.length % 8) : Nat) : Int)))) (by simp; exact sE)
      have sC3 := setB_heap (D := C1.set (L.length / 8) (.int .u8 ((byteV L (L.length / 8) + 2 ^ (7 - L.length % 8) : Nat) : Int))) sC
      have hE3 := hE2.trans (setB_ext w2 b1 (C1.set (L.length / 8) (.int .u8 ((byteV L (L.length / 8) + 2 ^ (7 - L.length % 8) : Nat) : Int)))) (fun q hq => by
        simp at hq
        subst hq
        exact hF2.imp (fun h => List.mem_cons_of_mem _ h) id)
      have hT3 : (C1.set (L.length / 8) (.int .u8 ((byteV L (L.length / 8) + 2 ^ (7 - L.length % 8) : Nat) : Int))).take (L.length / 8 + 1) = (packedTo (L ++ [true]) (L.length / 8 + 1)).map u8v := by
        rw [List.take_set, sT, hsnoc, List.map_set]
        congr 1
        unfold u8v
        rw [hsb.1] at hlt
        simp only [Bool.toNat_true, Nat.one_mul] at hlt ⊢
        rw [UInt8.toNat_ofNat', Nat.mod_eq_of_lt hlt]
      generalize hw3 : setB w2 b1 (C1.set (L.length / 8) (.int .u8 ((byteV L (L.length / 8) + 2 ^ (7 - L.length % 8) : Nat) : Int))) = w3 at *
      have d3 : ∀ F, cellK w3 ⟨b, 0 + 1, none⟩ F = F true (.int .i64 (L.length : Int)) := fun F => cellK_of (sB3.cell rfl)
      have hsn3 := fun q K => hsn w3 q K sB3
      simp (disch := omega) only [go_sem, d3, hsn3, ↓reduceIte, Nat.reduceEqDiff]
      exact ⟨_, (hfin w3 _ sB3 sC3 (by simp) hT3).drew, (hE3.trans (setB_ext w3 b _) (fun q hq => .inl (by simp at hq; simp [hq]))).drew, fun q hq => by simp [fpv] at hq; subst hq; exact hF2⟩
    | false =>
      simp (disch := omega) only [go_sem, d0, d1, hsn2, ↓reduceIte, Nat.reduceEqDiff]
      exact ⟨_, hfin w2 _ sB sC rfl (by rw [packedTo_false]; exact sT), hE2.trans (setB_ext w2 b _) (fun q hq => .inl (by simp at hq; simp [hq])), fun q hq => by simp [fpv] at hq; subst hq; exact hF2⟩
  · have hnew := packedTo_next L
    rw [if_neg h8] at hnew
    have hdv : (L.length + 7) / 8 = L.length / 8 + 1 := by omega
    obtain ⟨hlen, hor⟩ := hO
    rcases hor with ⟨-, h0⟩ | ⟨b1, C1, cap1, rfl, sC, hM, sN, sT⟩
    · omega
    rw [hdv] at sN sT hB c0
    rw [Nat.mul_one, ← hnew] at sT
    have sE : b ≠ b1 := fun e => hne (by simp [fpv, e])
    have sB := hB
    have sM : L.length / 8 + 1 ≤ C1.length := by omega
    rw [hdv] at hne ⊢
    have hE2 : Ext (b :: fpv (.slice (some ⟨b1, 0, none⟩) (L.length / 8 + 1) cap1)) w w := Ext.refl _ _
    have hF2 : b1 ∈ fpv (.slice (some ⟨b1, 0, none⟩) (L.length / 8 + 1) cap1) ∨ w.heap.size ≤ b1 := .inl (by simp [fpv])
    simp (disch := omega) only [go_sem, c0, c1, hrem, ↓reduceIte, Nat.reduceEqDiff]
    clear c0 c1
    generalize hw2 : w = w2 at *
    have d0 : ∀ F, cellK w2 ⟨b, 0, none⟩ F = F true (.slice (some ⟨b1, 0, none⟩) (L.length / 8 + 1) cap1) := fun F => cellK_of (sB.cell rfl)
    have d1 : ∀ F, cellK w2 ⟨b, 1, none⟩ F = F true (.int .i64 (L.length : Int)) := fun F => cellK_of (sB.cell rfl)
    have hidx : ∀ (q : IntKind) (k : Kv) (w' : World), idxK Try.prog 24 (.slice (some ⟨b1, 0, none⟩) (L.length / 8 + 1) cap1) (.int q ((L.length / 8 : Nat) : Int)) w' k = k true (.pointer (some ⟨b1, L.length / 8, none⟩)) w' := fun q k w' => by
      have h := ixn_24 (k := k) (w := w') (i := q) (b := b1) (o := 0) (cap := cap1) (len := L.length / 8 + 1) (m := L.length / 8) (by omega)
      simpa only [Nat.zero_add] using h
    have hby : ∀ F, cellK w2 ⟨b1, L.length / 8, none⟩ F = F true (.int .u8 ((byteV L (L.length / 8) : Nat) : Int)) := fun F => by
      refine cellK_of (sC.cell ?_)
      have h1 : (C1.take (L.length / 8 + 1))[L.length / 8]? = some (u8v (UInt8.ofNat (byteV L (L.length / 8)))) := by rw [sT]; simp [packedTo]
      rw [List.getElem?_take_of_lt (by omega)] at h1
      rw [h1]
      unfold u8v
      rw [UInt8.toNat_ofNat', Nat.mod_eq_of_lt (byteV_lt _ _)]
    have hst : ∀ (q : Int) (K : Bool → World → Prop), stK w2 ⟨b1, L.length / 8, none⟩ (.int .u8 q) K = K true (setB w2 b1 (C1.set (L.length / 8) (.int .u8 q))) := fun q K => stK_blk sC (by omega) rfl
    have hsn : ∀ (w3 : World) (q : Int) (K : Bool → World → Prop), Blk w3 b [.slice (some ⟨b1, 0, none⟩) (L.length / 8 + 1) cap1, .int .i64 (L.length : Int)] → stK w3 ⟨b, 0 + 1, none⟩ (.int .i64 q) K = K true (setB w3 b [.slice (some ⟨b1, 0, none⟩) (L.length / 8 + 1) cap1, .int .i64 q]) := fun w3 q K hb => stK_blk hb (by simp) rfl
    have hsnoc := packedTo_snoc L x
    have hq2 : 0 + ((L.length : Int) / 8).toNat * 1 = L.length / 8 := by omega
    have hr8 : L.length % 8 < 8 := Nat.mod_lt _ (by omega)
    have hsb := byteV_snoc L true
    have hlt := byteV_lt (L ++ [true]) (L.length / 8)
    have hpw : (2 : Nat) ^ (7 - L.length % 8) < 256 := Nat.lt_of_le_of_lt (Nat.pow_le_pow_right (by omega) (show 7 - L.length % 8 ≤ 7 by omega)) (by decide)
    have horv : bitK .or .u8 ((byteV L (L.length / 8) : Nat) : Int) (IntKind.u8.wrap (1 * 2 ^ (7 - (L.length : Int) % 8).toNat)) = ((byteV L (L.length / 8) + 2 ^ (7 - L.length % 8) : Nat) : Int) := by
      have e1 : (1 * 2 ^ (7 - (L.length : Int) % 8).toNat : Int) = ((2 ^ (7 - L.length % 8) : Nat) : Int) := by
        rw [show (7 - (L.length : Int) % 8).toNat = 7 - L.length % 8 by omega, Int.one_mul]
        norm_cast
      rw [e1, wrap_u8 ⟨Int.natCast_nonneg _, by exact_mod_cast Nat.le_of_lt_succ hpw⟩, or_u8 (byteV_lt _ _) hpw, or_bit ⟨L.length % 8, hr8⟩ ⟨byteV L (L.length / 8), byteV_lt _ _⟩ hsb.2]
    have hsn2 := fun q K => hsn w2 q K sB
    have hfin : ∀ (w3 : World) (C3 : List Value), Blk w3 b [.slice (some ⟨b1, 0, none⟩) (L.length / 8 + 1) cap1, .int .i64 (L.length : Int)] → Blk w3 b1 C3 → C3.length = C1.length → C3.take (L.length / 8 + 1) = (packedTo (L ++ [x]) (L.length / 8 + 1)).map u8v →
        Wr (setB w3 b [.slice (some ⟨b1, 0, none⟩) (L.length / 8 + 1) cap1, .int .i64 ((L.length : Int) + 1)]) b (.slice (some ⟨b1, 0, none⟩) (L.length / 8 + 1) cap1) (L ++ [x]) := by
      intro w3 C3 hb hc hl ht
      refine ⟨by simpa using setB_heap hb, ?_, by simp [fpv]; exact sE⟩
      rw [packed_snoc]
      refine ⟨by simp [packedTo]; omega, .inr ⟨b1, C3, cap1, ?_, hc.ext (setB_ext w3 b _) (by simp; exact fun h => sE h.symm), by omega, by simp; omega, ?_⟩⟩
      · congr 1; simp; omega
      · rw [← ht]; congr 1; simp; omega
    cases x with
    | true =>
      simp (disch := omega) only [go_sem, ↓reduceIte, Nat.reduceEqDiff]
      refine DrawK_held [(0, 0), (1, 0), (2, 0), (3, 0), (4, 0), (5, 0), (6, 0), (7, 0), (8, 0), (9, 0), (10, 0), (11, 0), (12, 0), (13, 0), (14, 0), (15, 0), (16, 0), (17, 0), (18, 0), (19, 0), (20, 2)] (by kernel_rfl) (by kernel_rfl) (by kernel_rfl) ?_
      simp (disch := omega) only [go_sem, d0, d1, hidx, hby, hst, hrem, hquo, hq2, horv, ↓reduceIte, Nat.reduceEqDiff]
      have sB3 := sB.ext (setB_ext w2 b1 (C1.set (L.length / 8) (.int .u8 ((byteV L (L.length / 8) + 2 ^ (7 - L.length % 8) : Nat) : Int)))) (by simp; exact sE)
      have sC3 := setB_heap (D := C1.set (L.length / 8) (.int .u8 ((byteV L (L.length / 8) + 2 ^ (7 - L.length % 8) : Nat) : Int))) sC
      have hE3 := hE2.trans (setB_ext w2 b1 (C1.set (L.length / 8) (.int .u8 ((byteV L (L.length / 8) + 2 ^ (7 - L.length % 8) : Nat) : Int)))) (fun q hq => by
        simp at hq
        subst hq
        exact hF2.imp (fun h => List.mem_cons_of_mem _ h) id)
      have hT3 : (C1.set (L.length / 8) (.int .u8 ((byteV L (L.length / 8) + 2 ^ (7 - L.length % 8) : Nat) : Int))).take (L.length / 8 + 1) = (packedTo (L ++ [true]) (L.length / 8 + 1)).map u8v := by
        rw [List.take_set, sT, hsnoc, List.map_set]
        congr 1
        unfold u8v
        rw [hsb.1] at hlt
        simp only [Bool.toNat_true, Nat.one_mul] at hlt ⊢
        rw [UInt8.toNat_ofNat', Nat.mod_eq_of_lt hlt]
      generalize hw3 : setB w2 b1 (C1.set (L.length / 8) (.int .u8 ((byteV L (L.length / 8) + 2 ^ (7 - L.length % 8) : Nat) : Int))) = w3 at *
      have d3 : ∀ F, cellK w3 ⟨b, 0 + 1, none⟩ F = F true (.int .i64 (L.length : Int)) := fun F => cellK_of (sB3.cell rfl)
      have hsn3 := fun q K => hsn w3 q K sB3
      simp (disch := omega) only [go_sem, d3, hsn3, ↓reduceIte, Nat.reduceEqDiff]
      exact ⟨_, (hfin w3 _ sB3 sC3 (by simp) hT3).drew, (hE3.trans (setB_ext w3 b _) (fun q hq => .inl (by simp at hq; simp [hq]))).drew, fun q hq => by simp [fpv] at hq; subst hq; exact hF2⟩
    | false =>
      simp (disch := omega) only [go_sem, d0, d1, hsn2, ↓reduceIte, Nat.reduceEqDiff]
      exact ⟨_, hfin w2 _ sB sC rfl (by rw [packedTo_false]; exact sT), hE2.trans (setB_ext w2 b _) (fun q hq => .inl (by simp at hq; simp [hq])), fun q hq => by simp [fpv] at hq; subst hq; exact hF2⟩

end Go.Proofs.Ythbcfjlalmhabaa
