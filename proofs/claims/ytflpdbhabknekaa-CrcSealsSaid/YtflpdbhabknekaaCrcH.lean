import Derived.Test.YtflpdbhabknekaaCrcG
/-! CrcSeals. -/
namespace Go.Proofs.Ytflpdbhabknekaa
open Go.Eng
set_option linter.unusedSimpArgs false
set_option linter.unusedVariables false

/-! ### the plain law: one changed byte is told -/
theorem xor_poly_lt {x y : Nat} (hx : x < 2147483648) (hy : y < 2147483648) : x ^^^ 3988292384 ≠ y := by
  intro h
  have h1 := congrArg (fun n => n.testBit 31) h
  simp only [Nat.testBit_xor] at h1
  rw [Nat.testBit_lt_two_pow (i := 31) (x := x) hx, Nat.testBit_lt_two_pow (i := 31) (x := y) hy] at h1
  revert h1
  decide
theorem xor_cancel {x y z : Nat} (h : x ^^^ z = y ^^^ z) : x = y := by
  have := congrArg (· ^^^ z) h
  simpa [Nat.xor_assoc] using this
theorem tstep_inj {x y : Nat} (hx : x < 4294967296) (hy : y < 4294967296) (h : tstep x = tstep y) : x = y := by
  unfold tstep at h
  split at h <;> split at h
  · have := xor_cancel h
    omega
  · exact absurd h (xor_poly_lt (by omega) (by omega))
  · exact absurd h.symm (xor_poly_lt (by omega) (by omega))
  · omega
theorem tsteps_inj {x y : Nat} (hx : x < 4294967296) (hy : y < 4294967296) : ∀ k, tsteps x k = tsteps y k → x = y
  | 0, h => h
  | k + 1, h => tsteps_inj hx hy k (tstep_inj (tsteps_lt hx k) (tsteps_lt hy k) h)
theorem xor_u8_lt {c : Nat} (b : UInt8) (h : c < 4294967296) : c ^^^ b.toNat < 4294967296 :=
  Nat.xor_lt_two_pow (n := 32) h (by have := b.toNat_lt; omega)
theorem moreStep_inj {c d : Nat} (b : UInt8) (hc : c < 4294967296) (hd : d < 4294967296) (h : moreStep c b = moreStep d b) : c = d := by
  rw [moreStep_tsteps, moreStep_tsteps] at h
  exact xor_cancel (tsteps_inj (xor_u8_lt b hc) (xor_u8_lt b hd) 8 h)
theorem moreStep_byte {c : Nat} {x y : UInt8} (hc : c < 4294967296) (h : moreStep c x = moreStep c y) : x = y := by
  rw [moreStep_tsteps, moreStep_tsteps] at h
  have h1 := tsteps_inj (xor_u8_lt x hc) (xor_u8_lt y hc) 8 h
  rw [Nat.xor_comm c, Nat.xor_comm c] at h1
  exact UInt8.toNat_inj.1 (xor_cancel h1)
theorem crcT_inj : ∀ (l : List UInt8) {c d : Nat}, c < 4294967296 → d < 4294967296 → crcT c l = crcT d l → c = d
  | [], _, _, _, _, h => h
  | b :: l, c, d, hc, hd, h => moreStep_inj b hc hd (crcT_inj l (moreStep_lt b hc) (moreStep_lt b hd) h)
theorem crcT_set : ∀ (l : List UInt8) (i : Nat) (y : UInt8) {c : Nat}, c < 4294967296 → i < l.length → y ≠ l.getD i default → crcT c (l.set i y) ≠ crcT c l
  | [], _, _, _, _, hi, _ => by simp at hi
  | b :: l, 0, y, c, hc, _, hy => fun h => hy (moreStep_byte hc (crcT_inj l (moreStep_lt y hc) (moreStep_lt b hc) h))
  | b :: l, i + 1, y, c, hc, hi, hy => crcT_set l i y (moreStep_lt b hc) (by simpa using hi) (by simpa using hy)
theorem crcSum_set (l : List UInt8) (i : Nat) (y : UInt8) (hi : i < l.length) (hy : y ≠ l.getD i default) : crcSum (l.set i y) ≠ crcSum l := by
  have h1 := crcT_set l i y (c := 4294967295) (by omega) hi hy
  have h2 := crcT_lt (l.set i y) (c := 4294967295) (by omega)
  have h3 := crcT_lt l (c := 4294967295) (by omega)
  unfold crcSum more
  intro h
  rw [Nat.sub_zero] at h
  exact h1 (by omega)
theorem be4_inj {S T : Nat} (hS : S < 4294967296) (hT : T < 4294967296) (h : be4 S = be4 T) : S = T := by
  simp only [be4, List.cons.injEq, and_true] at h
  obtain ⟨h1, h2, h3, h4⟩ := h
  have e1 := congrArg UInt8.toNat h1
  have e2 := congrArg UInt8.toNat h2
  have e3 := congrArg UInt8.toNat h3
  have e4 := congrArg UInt8.toNat h4
  simp only [UInt8.toNat_ofNat'] at e1 e2 e3 e4
  omega
/-- A sealed text with one byte changed is no sealed text. -/
theorem sealed_set (l : List UInt8) (i : Nat) (y : UInt8) (hi : i < l.length + 4) (hy : y ≠ (sealed l).getD i default) :
    sealed (((sealed l).set i y).take (l.length + 4 - 4)) ≠ (sealed l).set i y := by
  have hne : (sealed l).set i y ≠ sealed l := fun h => hy (by
    have := congrArg (fun m => m.getD i default) h
    simp only [List.getD_eq_getElem?_getD] at this ⊢
    rw [List.getElem?_set_self (by rw [sealed_len]; exact hi)] at this
    simpa using this)
  rw [Nat.add_sub_cancel]
  by_cases h : i < l.length
  · have e : (sealed l).set i y = l.set i y ++ be4 (crcSum l) := by unfold sealed; rw [List.set_append_left _ _ h]
    rw [e, List.take_left' (by simp)]
    unfold sealed
    intro h2
    have h3 := be4_inj (crcSum_lt _) (crcSum_lt _) (List.append_cancel_left h2)
    refine crcSum_set l i y h ?_ h3
    unfold sealed at hy
    simpa [List.getD_eq_getElem?_getD, List.getElem?_append_left h] using hy
  · have e : (sealed l).set i y = l ++ (be4 (crcSum l)).set (i - l.length) y := by unfold sealed; rw [List.set_append_right _ _ (by omega)]
    rw [show ((sealed l).set i y).take l.length = l by rw [e, List.take_left' rfl]]
    exact fun h => hne h.symm
theorem or_one (b : Nat) (hb : b < 256) : ∃ k : UInt8, k ≠ 0 ∧ bitK .or .u8 (b : Int) 1 = (k.toNat : Int) := by
  refine ⟨UInt8.ofNat (b ||| 1), ?_, ?_⟩
  · intro h
    have h1 := congrArg UInt8.toNat h
    have h2 : b ||| 1 < 256 := Nat.or_lt_two_pow (n := 8) hb (by omega)
    rw [UInt8.toNat_ofNat', Nat.mod_eq_of_lt h2] at h1
    have h3 : (b ||| 1).testBit 0 = true := by simp
    rw [h1] at h3
    simp at h3
  · have h2 : b ||| 1 < 256 := Nat.or_lt_two_pow (n := 8) hb (by omega)
    rw [UInt8.toNat_ofNat', Nat.mod_eq_of_lt h2]
    exact or_u8 (y := 1) hb (by omega)

theorem row_take {w : World} {b n : Nat} {D cs : List Value} (h : Blk w b D) (ht : D.take n = cs) : Row w (some ⟨b, 0, none⟩) cs := by
  refine Row.of_blk h (fun i hi => ?_)
  subst ht
  simp at hi ⊢

set_option maxRecDepth 100000 in
theorem crcSeals_true {w : World} {a : Option Addr} {n cap by_ : Nat} {at_ : Int} {l0 : List UInt8} (h0 : Row w a (l0.map u8v)) (hn : l0.length = n) (hc : n ≤ cap) (hcm : cap ≤ maxLen)
    (ha : -9223372036854775808 ≤ at_ ∧ at_ ≤ 9223372036854775807) (hb : by_ < 256) :
    Rets Try.prog 6 [.slice a n cap, .int .i64 at_, .int .u8 (by_ : Int)] w fun v w' => v = .bool true ∧ Ext [] w w' := by
  subst hn
  refine rets_den Try.func6 rfl (by kernel_rfl) (by kernel_rfl) [.tmp 6] (by kernel_rfl) ?_
  simp (disch := omega) only [go_sem, ↓reduceIte, Nat.reduceEqDiff]
  refine cllK_of Try.call7 (awake_rets w) ?_
  rintro v w1 ⟨rfl, he1⟩
  simp (disch := omega) only [go_sem, Bool.not_true, ↓reduceIte, Nat.reduceEqDiff]
  refine cllK_of Try.call8 (short_rets hc) ?_
  rintro v w2 ⟨rfl, hw2⟩
  subst w2
  have hla : (l0.take 300).length = min l0.length 300 := by rw [List.length_take, Nat.min_comm]
  have rl := (h0.ext' he1).takeM 300
  generalize l0.take 300 = l at *
  rw [← hla]
  have hl : l.length ≤ 300 := by omega
  have hlc : l.length ≤ cap := by omega
  simp (disch := omega) only [go_sem, ↓reduceIte, Nat.reduceEqDiff]
  refine cllK_of Try.call13 (seal_rets rl rfl (by omega)) ?_
  rintro v w3 ⟨hs3, he3, hf3⟩
  obtain ⟨a3, c3, rfl, hc3, R3, -⟩ := hs3.row
  have hsl := sealed_len l
  simp (disch := omega) only [go_sem, ↓reduceIte, Nat.reduceEqDiff]
  refine cllK_of Try.call14 (open_rets R3 hsl (by omega) hc3) ?_
  rintro v w4 ⟨d, e, rfl, he4, hor⟩
  have hts : (sealed l).take (l.length + 4 - 4) = l := by unfold sealed; rw [Nat.add_sub_cancel, List.take_left' rfl]
  obtain ⟨h4, hsd, rfl, ho4⟩ : 4 ≤ l.length + 4 ∧ sealed ((sealed l).take (l.length + 4 - 4)) = sealed l ∧ e = 0 ∧ OwnC w4 d (l.length + 4 - 4) 1 (((sealed l).take (l.length + 4 - 4)).map u8v) := by
    rcases hor with h | h | h
    · omega
    · exact absurd (by rw [hts]) h.2.1
    · exact h
  rw [hts, Nat.add_sub_cancel] at ho4
  obtain ⟨a5, c5, rfl, hc5, R5, -⟩ := ho4.row
  have E4 := he3.trans' he4
  simp (disch := omega) only [go_sem, ↓reduceIte, Nat.reduceEqDiff]
  refine cllK_of Try.call16 (refSeal_rets (rl.ext' E4) (by omega)) ?_
  rintro v w5 ⟨hs5, he5, hf5⟩
  rw [← crcSum_ref, show l ++ be4 (crcSum l) = sealed l from rfl] at hs5
  obtain ⟨a6, c6, rfl, hc6, R6, -⟩ := hs5.row
  have E5 := E4.trans' he5
  simp (disch := omega) only [go_sem, ↓reduceIte, Nat.reduceEqDiff]
  rw [← hsl]
  refine cllK_of Try.call15 (same_rets ((R3.ext' he4).ext' he5) R6 (by omega)) ?_
  rintro v w6 ⟨rfl, he6⟩
  have E6 := E5.trans' he6
  simp (disch := omega) only [go_sem, decide_true, Bool.not_true, ↓reduceIte, Nat.reduceEqDiff]
  refine cllK_of Try.call15 (same_rets ((R5.ext' he5).ext' he6) (rl.ext' E6) (by omega)) ?_
  rintro v w7 ⟨rfl, he7⟩
  have E7 := E6.trans' he7
  simp (disch := omega) only [go_sem, decide_true, Bool.not_true, ↓reduceIte, Nat.reduceEqDiff]
  have R3' := (((R3.ext' he4).ext' he5).ext' he6).ext' he7
  refine apd_22_22 (n := 0) (m := (sealed l).length) (cs := []) (xs := (sealed l).map u8v) ?_ (R3'.alloc _) (by simp) (u8v_one _) (by omega) ?_
  · exact ⟨rfl, .inr ⟨_, _, 0, rfl, Blk.new _ _ _, by simp, by simp, by simp⟩⟩
  intro v8 w8 hv8 he8 hf8
  have E8 : Ext [] w7 w8 := ((Ext.refl [] w7).alloc _).trans he8 (fun b hb => .inr (by simp [fpv] at hb; omega))
  have F8 : ∀ b ∈ fpv v8, w7.heap.size ≤ b := fun b hb => by
    rcases hf8 b hb with h1 | h1
    · simp [fpv] at h1; omega
    · simp at h1; omega
  have hrow8 := hv8.row
  obtain ⟨hlen8, hor8⟩ := hv8
  rcases hor8 with ⟨-, h8⟩ | ⟨b8, C8, c8, rfl, hB8, hC8, hn8, ht8⟩
  · omega
  rw [Nat.zero_add] at hn8 ht8
  have F8' : w7.heap.size ≤ b8 := F8 b8 (by simp [fpv])
  simp only [Nat.zero_add, List.nil_append] at ht8
  obtain ⟨ix, hix, hixl⟩ : ∃ ix : Nat, ((at_.tmod ((sealed l).length : Int) + ((sealed l).length : Int)).tmod ((sealed l).length : Int)) = (ix : Int) ∧ ix < (sealed l).length := by
    have hp : 0 < ((sealed l).length : Int) := by omega
    have q1 : -((sealed l).length : Int) < at_.tmod ((sealed l).length : Int) := by
      have := Int.lt_tmod_of_pos at_ hp
      omega
    have q2 : 0 ≤ at_.tmod ((sealed l).length : Int) + ((sealed l).length : Int) := by omega
    refine ⟨((at_.tmod ((sealed l).length : Int) + ((sealed l).length : Int)).tmod ((sealed l).length : Int)).toNat, ?_, ?_⟩
    · have := Int.tmod_nonneg ((sealed l).length : Int) q2
      omega
    · have := Int.tmod_nonneg ((sealed l).length : Int) q2
      have := Int.tmod_lt_of_pos (at_.tmod ((sealed l).length : Int) + ((sealed l).length : Int)) hp
      omega
  obtain ⟨a9, c9, h9, -, R8, -⟩ := hrow8
  obtain rfl : some ⟨b8, 0, none⟩ = a9 := by injection h9
  rw [List.nil_append] at R8
  have hwr : IntKind.i64.wrap (at_.tmod ((sealed l).length : Int) + ((sealed l).length : Int)) = at_.tmod ((sealed l).length : Int) + ((sealed l).length : Int) := by
    have hp : 0 < ((sealed l).length : Int) := by omega
    have q1 := Int.lt_tmod_of_pos at_ hp
    have q2 := Int.tmod_lt_of_pos at_ hp
    exact wrap_i64 (by omega)
  have hidx : ∀ (q : IntKind) (k : Kv) (w' : World), idxK Try.prog 22 (.slice (some ⟨b8, 0, none⟩) (sealed l).length c8) (.int q (ix : Int)) w' k = k true (.pointer (some ⟨b8, ix, none⟩)) w' := fun q k w' => by
    have h := ixr_22 (i := q) (k := k) (cap := c8) R8 (by simp) hixl w'
    simpa only [ab_some, ao_some, Nat.zero_add] using h
  have hcell : ∀ F, cellK w8 ⟨b8, ix, none⟩ F = F true (u8v ((sealed l).getD ix default)) := fun F => by
    have h := R8.get hixl F
    simpa only [ab_some, ao_some, Nat.zero_add] using h
  have hixC : ix < C8.length := by omega
  have hst : ∀ (x : Int) (K : Bool → World → Prop), stK w8 ⟨b8, ix, none⟩ (.int .u8 x) K = K true (setB w8 b8 (C8.set ix (.int .u8 x))) := fun x K => stK_blk hB8 hixC rfl
  obtain ⟨kb, hk0, hkb⟩ := or_one by_ hb
  have hxor : bitK .xor .u8 (((sealed l).getD ix default).toNat : Int) (kb.toNat : Int) = (((sealed l).getD ix default ^^^ kb).toNat : Int) := by
    rw [xor_u8 (UInt8.toNat_lt _) (UInt8.toNat_lt _), UInt8.toNat_xor]
  unfold u8v at hcell
  simp (disch := omega) only [go_sem, Nat.zero_add, hwr, hix, hidx, hcell, hst, hkb, hxor, ↓reduceIte, Nat.reduceEqDiff]
  generalize hy : (sealed l).getD ix default ^^^ kb = y at *
  have hyn : y ≠ (sealed l).getD ix default := fun h => hk0 (by
    rw [h] at hy
    have h2 := congrArg (fun z => (sealed l).getD ix default ^^^ z) hy
    simpa [← UInt8.xor_assoc] using h2)
  have hB9 := setB_heap (D := C8.set ix (.int .u8 (y.toNat : Int))) hB8
  have R9 := row_take (n := (sealed l).length) (cs := ((sealed l).set ix y).map u8v) hB9 (by
    rw [List.take_set, Nat.mul_one] at *
    rw [show C8.take (sealed l).length = (sealed l).map u8v by simpa using ht8, List.map_set]
    rfl)
  have E7' := (he1.trans' E7).trans' E8
  have E9 : Ext [] w (setB w8 b8 (C8.set ix (.int .u8 (y.toNat : Int)))) := E7'.trans (setB_ext w8 b8 _) (fun x hx => .inr (by
    have := (he1.trans' E7).size
    simp at hx
    omega))
  have E9' : Ext [] w7 (setB w8 b8 (C8.set ix (.int .u8 (y.toNat : Int)))) := E8.trans (setB_ext w8 b8 _) (fun x hx => .inr (by
    simp at hx
    omega))
  refine cllK_of Try.call14 (open_rets R9 (by simp) (by omega) (by omega)) ?_
  rintro v w10 ⟨d', e, rfl, he10, hor⟩
  obtain rfl : e = 6 := by
    rcases hor with h | h | h
    · omega
    · exact h.2.2
    · refine absurd h.2.1 ?_
      have := sealed_set l ix y (by omega) hyn
      rw [← hsl] at this
      exact this
  simp (disch := omega) only [go_sem, ↓reduceIte, Nat.reduceEqDiff]
  have R10 := (R3'.ext' E9').ext' he10
  have hq : (max 0 (min at_ 3)).toNat < 4 := by omega
  generalize (max 0 (min at_ 3)).toNat = q at *
  have hql : ((sealed l).take q).length = q := by simp; omega
  refine cllK_of Try.call14 (open_rets (R10.takeM q) hql (by omega) (by omega)) ?_
  rintro v w11 ⟨d2, e, rfl, he11, hor⟩
  obtain rfl : e = 5 := by
    rcases hor with h | h | h
    · exact h.2
    · omega
    · omega
  simp (disch := omega) only [go_sem, ↓reduceIte, Nat.reduceEqDiff]
  exact ⟨by simp, (E9.trans' he10).trans' he11⟩
end Go.Proofs.Ytflpdbhabknekaa
