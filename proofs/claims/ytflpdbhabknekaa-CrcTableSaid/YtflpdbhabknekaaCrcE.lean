import Derived.Test.YtflpdbhabknekaaCrcD
import Derived.Test.YtflpdbhabknekaaLaw4
import Derived.Test.YtflpdbhabknekaaHeld
/-! CrcTable. -/
namespace Go.Proofs.Ytflpdbhabknekaa
open Go.Eng
set_option linter.unusedSimpArgs false
set_option linter.unusedVariables false

theorem entry_xor (x y : Nat) : entry (x ^^^ y) = entry x ^^^ entry y := tsteps_xor x y 8
theorem entry_zero : entry 0 = 0 := by decide +kernel
theorem entry_128 : entry 128 = 3988292384 := by decide +kernel

set_option maxRecDepth 100000 in
theorem crcTable_true {w : World} {b c : Nat} (hb : b < 256) (hc : c < 4294967296) :
    Rets Try.prog 4 [.int .u8 (b : Int), .int .u32 (c : Int)] w fun v w' => v = .bool true ∧ Ext [] w w' := by
  refine rets_den Try.func4 rfl (by kernel_rfl) (by kernel_rfl) [.tmp 4] (by kernel_rfl) ?_
  simp (disch := omega) only [go_sem, ↓reduceIte, Nat.reduceEqDiff]
  refine cllK_of Try.call7 (awake_rets w) ?_
  rintro v w1 ⟨rfl, he1⟩
  simp (disch := omega) only [go_sem, Bool.not_true, ↓reduceIte, Nat.reduceEqDiff]
  refine cllK_of Try.call12 (table_rets w1) ?_
  rintro v w0 ⟨rfl, he0⟩
  have hlen := tabTo_len (i := 256) (by omega)
  have hz := tabTo_zero
  simp (disch := omega) only [go_sem, ↓reduceIte, Nat.reduceEqDiff]
  rw [← hz, stsK_all rfl (by have := tabTo_len (i := 0) (by omega); omega) tab_one]
  simp (disch := omega) only [go_sem, ↓reduceIte, Nat.reduceEqDiff]
  generalize hw2 : w0.alloc (.cells (tabTo 256).toArray 30) = w2
  have hB : Blk w2 w0.heap.size (tabTo 256) := by rw [← hw2]; exact Blk.new _ _ _
  have he2 : Ext [] w w2 := by rw [← hw2]; exact (he1.trans' he0).alloc _
  refine DrawK_held [(0, 0), (1, 0), (2, 0), (3, 0), (4, 0), (5, 0), (6, 0), (7, 0), (8, 0), (9, 0), (10, 0), (11, 0), (12, 0), (13, 0), (14, 0), (15, 0), (16, 0), (17, 0), (18, 0), (19, 0), (20, 0), (21, 0), (22, 0), (23, 0), (24, 0), (25, 0), (26, 0), (29, 0), (30, 0), (31, 0), (32, 0), (33, 0), (34, 0), (35, 0), (36, 0), (37, 0), (38, 0), (27, 1), (28, 1), (39, 0), (40, 0), (41, 0)] (by kernel_rfl) (by kernel_rfl) (by kernel_rfl) ?_
  have hx : IntKind.u8.wrap (c : Int) = ((c % 256 : Nat) : Int) := by rw [IntKind.wrap_u8]; rfl
  have hX : c % 256 < 256 := by omega
  generalize hXe : c % 256 = X at *
  have hJx : bitK .xor .u8 (b : Int) (X : Int) = ((b ^^^ X : Nat) : Int) := xor_u8 hb hX
  have hIx : bitK .xor .u8 (X : Int) (b : Int) = ((b ^^^ X : Nat) : Int) := by rw [Nat.xor_comm]; exact xor_u8 hX hb
  have hJ := xor_lt_256 hb hX
  have hEJ : entry (b ^^^ X) = entry b ^^^ entry X := entry_xor b X
  generalize hJe : b ^^^ X = J at *
  have eb := entry_lt hb
  have eX := entry_lt hX
  have eJ := entry_lt hJ
  have hcell : ∀ j F, j < 256 → cellK w2 ⟨w0.heap.size, 0 + j, none⟩ F = F true (enV j) := fun j F hj => cellK_of (hB.cell (by rw [Nat.zero_add]; exact tabTo_get hj))
  unfold enV at hcell
  have hnot := not_u32 hc
  have hxe : bitK .xor .u32 (entry b : Int) (entry X : Int) = ((entry J : Nat) : Int) := by rw [xor_u32 eb eX, hEJ]
  have e0 : ((entry (Int.toNat 0 * 1) : Nat) : Int) = 0 := by rw [show Int.toNat 0 * 1 = 0 from rfl, entry_zero]; rfl
  have e128 : ((entry (Int.toNat 128 * 1) : Nat) : Int) = 3988292384 := by rw [show Int.toNat 128 * 1 = 128 from rfl, entry_128]; rfl
  simp (disch := omega) only [go_sem, hx, hJx, hIx, hcell, hxe, hnot, e0, e128, decide_true, ↓reduceIte, Nat.reduceEqDiff]
  refine ⟨(Ext.refl _ _).alloc _, ?_⟩
  have hbl : [UInt8.ofNat b].map u8v = [Value.int .u8 (b : Int)] := by simp [u8v, Nat.mod_eq_of_lt hb]
  refine cllK_of Try.call11 (more_rets (s := 4294967295 - c) (l := [UInt8.ofNat b]) (Row.of_blk (Blk.new _ [Value.int .u8 (b : Int)] _) (fun i hi => by rw [Nat.zero_add]; simp only [hbl]; exact List.getElem?_eq_getElem (by simpa using hi))) (by simp) (by omega)) ?_
  rintro v w3 ⟨hv, he3⟩
  have hmore : more (4294967295 - c) [UInt8.ofNat b] = 4294967295 - (entry J ^^^ c / 256) := by
    unfold more crcT
    rw [show 4294967295 - (4294967295 - c) = c by omega]
    simp only [List.foldl_cons, List.foldl_nil, moreStep]
    rw [hXe, show (UInt8.ofNat b).toNat = b by simp [Nat.mod_eq_of_lt hb], Nat.xor_comm X b, hJe]
  have hlt : entry J ^^^ c / 256 < 4294967296 := Nat.xor_lt_two_pow (n := 32) eJ (by omega)
  have hxor : bitK .xor .u32 (entry J : Int) ((c : Int) / 256) = ((entry J ^^^ c / 256 : Nat) : Int) := by
    rw [← xor_u32 eJ (by omega)]; rfl
  have hnot2 := not_u32 hlt
  rw [hmore] at hv
  subst hv
  refine ⟨he3, ?_⟩
  simp (disch := omega) only [go_sem, hxor, hnot2, decide_true, ↓reduceIte, Nat.reduceEqDiff]
  exact ⟨trivial, (he2.drew.alloc _).trans' he3⟩
end Go.Proofs.Ytflpdbhabknekaa
