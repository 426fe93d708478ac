import Derived.Test.YtflpdbhabknekaaCrcD
import Derived.Test.YtflpdbhabknekaaLaw4
import Derived.Test.YtflpdbhabknekaaHeld
/-! CrcAffine. -/
namespace Go.Proofs.Ytflpdbhabknekaa
open Go.Eng
set_option linter.unusedSimpArgs false
set_option linter.unusedVariables false

/-! ### the plain law -/
theorem moreStep_xor (c d : Nat) (x y : UInt8) : moreStep (c ^^^ d) (x ^^^ y) = moreStep c x ^^^ moreStep d y := by
  rw [moreStep_tsteps, moreStep_tsteps, moreStep_tsteps, ← tsteps_xor, UInt8.toNat_xor]
  congr 1
  rw [Nat.xor_assoc, Nat.xor_assoc]
  congr 1
  rw [← Nat.xor_assoc, Nat.xor_comm d, Nat.xor_assoc]
def zip3 (l m k : List UInt8) (n : Nat) : List UInt8 := (List.range n).map fun i => l.getD i default ^^^ m.getD i default ^^^ k.getD i default
theorem zip3_succ (l m k : List UInt8) (n : Nat) : zip3 l m k (n + 1) = zip3 l m k n ++ [l.getD n default ^^^ m.getD n default ^^^ k.getD n default] := by
  unfold zip3; rw [List.range_succ, List.map_append]; rfl
theorem zip3_len (l m k : List UInt8) (n : Nat) : (zip3 l m k n).length = n := by simp [zip3]
theorem crcT_zip3 (F : Nat) (l m k : List UInt8) : ∀ n, n ≤ l.length → n ≤ m.length → n ≤ k.length →
    crcT F (zip3 l m k n) = crcT F (l.take n) ^^^ crcT F (m.take n) ^^^ crcT F (k.take n)
  | 0, _, _, _ => by simp [zip3, crcT]
  | n + 1, h1, h2, h3 => by
    rw [zip3_succ, crcT_snoc, crcT_zip3 F l m k n (by omega) (by omega) (by omega), moreStep_xor, moreStep_xor,
      take_succ_getD l n (by omega), take_succ_getD m n (by omega), take_succ_getD k n (by omega), crcT_snoc, crcT_snoc, crcT_snoc]
theorem sub_xor {c : Nat} (h : c < 4294967296) : 4294967295 - c = 4294967295 ^^^ c := by
  have h1 := BitVec.toNat_not (x := BitVec.ofNat 32 c)
  rw [BitVec.not_def, BitVec.toNat_xor, BitVec.toNat_allOnes, BitVec.toNat_ofNat, Nat.mod_eq_of_lt (by omega)] at h1
  exact h1.symm
theorem crcSum_lt (l : List UInt8) : crcSum l < 4294967296 := by unfold crcSum more; omega
theorem crcSum_zip3 (l m k : List UInt8) (n : Nat) (h1 : n ≤ l.length) (h2 : n ≤ m.length) (h3 : n ≤ k.length) :
    crcSum (zip3 l m k n) = crcSum (l.take n) ^^^ crcSum (m.take n) ^^^ crcSum (k.take n) := by
  unfold crcSum more
  rw [sub_xor (crcT_lt _ (by omega)), sub_xor (crcT_lt _ (by omega)), sub_xor (crcT_lt _ (by omega)), sub_xor (crcT_lt _ (by omega)), crcT_zip3 _ l m k n h1 h2 h3]
  generalize crcT _ (l.take n) = x
  generalize crcT _ (m.take n) = y
  generalize crcT _ (k.take n) = z
  generalize (4294967295 : Nat) = F
  rw [show F ^^^ x ^^^ (F ^^^ y) ^^^ (F ^^^ z) = F ^^^ (x ^^^ y ^^^ z) ^^^ (F ^^^ F) from ?_, Nat.xor_self, Nat.xor_zero]
  ac_rfl
theorem xor3_lt {x y z : Nat} (hx : x < 256) (hy : y < 256) (hz : z < 256) : (x ^^^ y) ^^^ z < 256 := xor_lt_256 (xor_lt_256 hx hy) hz

theorem sum_at {w : World} {a : Option Addr} {cap n : Nat} {l : List UInt8} (h : Row w a (l.map u8v)) (hn : l.length = n) (hm : n < 4294967296) :
    Rets Try.prog 9 [.slice a n cap] w fun v w' => v = .int .u32 (crcSum l : Int) ∧ Ext [] w w' := by
  subst hn; exact sum_rets h hm
set_option maxRecDepth 100000 in
theorem crcAffine_true {w : World} {a b c : Option Addr} {n1 n2 n3 c1 c2 c3 : Nat} {l m k : List UInt8} (hl : Row w a (l.map u8v)) (hm : Row w b (m.map u8v)) (hk : Row w c (k.map u8v))
    (e1 : l.length = n1) (e2 : m.length = n2) (e3 : k.length = n3) (l1 : n1 ≤ c1) (l2 : n2 ≤ c2) (l3 : n3 ≤ c3) (m1 : c1 ≤ maxLen) (m2 : c2 ≤ maxLen) (m3 : c3 ≤ maxLen) :
    Rets Try.prog 5 [.slice a n1 c1, .slice b n2 c2, .slice c n3 c3] w fun v w' => v = .bool true ∧ Ext [] w w' := by
  subst e1 e2 e3
  unfold maxLen at m1 m2 m3
  refine rets_den Try.func5 rfl (by kernel_rfl) (by kernel_rfl) [.tmp 6] (by kernel_rfl) ?_
  simp (disch := omega) only [go_sem, ↓reduceIte, Nat.reduceEqDiff]
  refine cllK_of Try.call7 (awake_rets w) ?_
  rintro v w1 ⟨rfl, he1⟩
  simp (disch := omega) only [go_sem, Bool.not_true, ↓reduceIte, Nat.reduceEqDiff]
  obtain ⟨N, hN, k1, k2, k3, k4⟩ : ∃ N : Nat, min (min (min (l.length : Int) m.length) k.length) 200 = (N : Int) ∧ N ≤ l.length ∧ N ≤ m.length ∧ N ≤ k.length ∧ N ≤ 200 :=
    ⟨min (min (min l.length m.length) k.length) 200, by omega, by omega, by omega, by omega, by omega⟩
  rw [hN]
  refine LoopK_of (X := Nat × Value) (st := fun x => [(0, .slice a l.length c1), (1, .slice b m.length c2), (2, .slice c k.length c3), (7, .int .i64 N), (8, x.2), (19, .int .i64 N), (20, .int .i64 x.1)])
    (inv := fun x w' => x.1 ≤ N ∧ Ext [] w w' ∧ OwnC w' x.2 x.1 1 ((zip3 l m k x.1).map u8v) ∧ ∀ b ∈ fpv x.2, w.heap.size ≤ b) (m := fun x => N - x.1) (0, .slice none 0 0)
    (sub_cons rfl rfl (sub_cons rfl rfl (sub_cons rfl rfl (sub_cons rfl rfl (sub_cons rfl rfl (sub_cons rfl rfl (sub_cons rfl rfl (sub_nil _)))))))) ⟨Nat.zero_le _, he1, OwnC.nil _ _, fun b hb => by simp [fpv] at hb⟩ ?_
  rintro ⟨i, d⟩ w2 ⟨hi, he, ho, hf⟩
  simp only at hi he ho hf ⊢
  have hl2 := hl.ext' he
  have hm2 := hm.ext' he
  have hk2 := hk.ext' he
  by_cases hiN : i < N
  · have hil : i < l.length := by omega
    have him : i < m.length := by omega
    have hik : i < k.length := by omega
    have x1 : ∀ (q : IntKind) (F : Kv) (w' : World), idxK Try.prog 22 (.slice a l.length c1) (.int q (i : Int)) w' F = F true (.pointer (some ⟨ab a, ao a + i, none⟩)) w' := fun q F w' => ixr_22 hl2 (by simp) hil w'
    have x2 : ∀ (q : IntKind) (F : Kv) (w' : World), idxK Try.prog 22 (.slice b m.length c2) (.int q (i : Int)) w' F = F true (.pointer (some ⟨ab b, ao b + i, none⟩)) w' := fun q F w' => ixr_22 hm2 (by simp) him w'
    have x3 : ∀ (q : IntKind) (F : Kv) (w' : World), idxK Try.prog 22 (.slice c k.length c3) (.int q (i : Int)) w' F = F true (.pointer (some ⟨ab c, ao c + i, none⟩)) w' := fun q F w' => ixr_22 hk2 (by simp) hik w'
    have y1 : ∀ F, cellK w2 ⟨ab a, ao a + i, none⟩ F = F true (u8v (l.getD i default)) := fun F => hl2.get hil F
    have y2 : ∀ F, cellK w2 ⟨ab b, ao b + i, none⟩ F = F true (u8v (m.getD i default)) := fun F => hm2.get him F
    have y3 : ∀ F, cellK w2 ⟨ab c, ao c + i, none⟩ F = F true (u8v (k.getD i default)) := fun F => hk2.get hik F
    unfold u8v at y1 y2 y3
    have t1 := (l.getD i default).toNat_lt
    have t2 := (m.getD i default).toNat_lt
    have t3 := (k.getD i default).toNat_lt
    have hxy : (l.getD i default ^^^ m.getD i default ^^^ k.getD i default).toNat = (l.getD i default).toNat ^^^ (m.getD i default).toNat ^^^ (k.getD i default).toNat := by rw [UInt8.toNat_xor, UInt8.toNat_xor]
    have z1 : bitK .xor .u8 ((l.getD i default).toNat : Int) ((m.getD i default).toNat : Int) = (((l.getD i default).toNat ^^^ (m.getD i default).toNat : Nat) : Int) := xor_u8 t1 t2
    have z2 : bitK .xor .u8 (((l.getD i default).toNat ^^^ (m.getD i default).toNat : Nat) : Int) ((k.getD i default).toNat : Int) = ((l.getD i default ^^^ m.getD i default ^^^ k.getD i default).toNat : Int) := by
      rw [xor_u8 (xor_lt_256 t1 t2) t3, hxy]
    simp (disch := omega) only [go_sem, ↓reduceIte, Nat.reduceEqDiff]
    refine DrawK_held [(0, 0), (1, 0), (2, 0), (3, 0), (4, 0), (5, 0), (6, 0), (7, 0), (8, 0), (9, 0), (10, 0), (11, 0), (12, 0), (13, 0), (14, 0), (15, 1), (16, 2), (17, 0)] (by kernel_rfl) (by kernel_rfl) (by kernel_rfl) ?_
    simp (disch := omega) only [go_sem, x1, x2, x3, y1, y2, y3, z1, z2, ↓reduceIte, Nat.reduceEqDiff]
    refine ⟨(Ext.refl _ _).alloc _, ?_⟩
    have hX : [Value.int .u8 ((l.getD i default ^^^ m.getD i default ^^^ k.getD i default).toNat : Int)] = [l.getD i default ^^^ m.getD i default ^^^ k.getD i default].map u8v := rfl
    refine apd_22_22 (n := i) (m := 1) (cs := (zip3 l m k i).map u8v) (xs := [l.getD i default ^^^ m.getD i default ^^^ k.getD i default].map u8v) (ho.ext' ((Ext.refl [] w2).drew.alloc _))
      (Row.of_blk (Blk.new _ _ _) (fun j hj => by rw [Nat.zero_add]; exact List.getElem?_eq_getElem hj)) (by simp) (u8v_one _) (by omega) ?_
    intro v' w' hv he' hf'
    have E3 : Ext [] w w' := (he.drew.alloc _).trans he' (fun b hb => .inr (hf b hb))
    simp (disch := omega) only [go_sem, ↓reduceIte, Nat.reduceEqDiff]
    refine NextK_of (i + 1, v') (sub_cons rfl rfl (sub_cons rfl rfl (sub_cons rfl rfl (sub_cons rfl rfl (sub_cons rfl rfl (sub_cons rfl rfl (sub_cons rfl (int_eq (by omega)) (sub_nil _)))))))) ⟨by simp only; omega, E3, ?_, ?_⟩ (by simp only; omega)
    · simp only
      rw [zip3_succ, List.map_append]
      exact hv
    · intro b hb
      rcases hf' b hb with h1 | h1
      · exact hf b h1
      · have := he.size
        simp only [World.size_alloc] at h1
        have h2 : w2.drew.heap.size = w2.heap.size := rfl
        omega
  · obtain rfl : i = N := by omega
    obtain ⟨a4, c4, rfl, hc4, R4, -⟩ := ho.row
    simp (disch := omega) only [go_sem, ↓reduceIte, Nat.reduceEqDiff]
    refine DrawK_held [(0, 0), (2, 0), (3, 0), (4, 0), (6, 0), (7, 0), (8, 0), (11, 0), (12, 0), (13, 0), (1, 1), (5, 1), (9, 1), (10, 0), (14, 1), (15, 0), (16, 0), (17, 0)] (by kernel_rfl) (by kernel_rfl) (by kernel_rfl) ?_
    simp (disch := omega) only [go_sem, ↓reduceIte, Nat.reduceEqDiff]
    refine cllK_of Try.call9 (sum_at R4 (zip3_len l m k i) (by omega)) ?_
    rintro v w3 ⟨rfl, q3⟩
    refine ⟨q3, ?_⟩
    have hE3 := he.drew.trans' q3
    simp (disch := omega) only [go_sem, ↓reduceIte, Nat.reduceEqDiff]
    refine cllK_of Try.call9 (sum_at ((hl.ext' hE3).takeM i) (by simp; omega) (by omega)) ?_
    rintro v w4 ⟨rfl, q4⟩
    refine ⟨q4, ?_⟩
    have hE4 := hE3.trans' q4
    simp (disch := omega) only [go_sem, ↓reduceIte, Nat.reduceEqDiff]
    refine cllK_of Try.call9 (sum_at ((hm.ext' hE4).takeM i) (by simp; omega) (by omega)) ?_
    rintro v w5 ⟨rfl, q5⟩
    refine ⟨q5, ?_⟩
    have hE5 := hE4.trans' q5
    have z1 := xor_u32 (crcSum_lt (l.take i)) (crcSum_lt (m.take i))
    have z2 : bitK .xor .u32 ((crcSum (l.take i) ^^^ crcSum (m.take i) : Nat) : Int) (crcSum (k.take i) : Int) = ((crcSum (zip3 l m k i) : Nat) : Int) := by
      rw [xor_u32 (Nat.xor_lt_two_pow (n := 32) (crcSum_lt _) (crcSum_lt _)) (crcSum_lt _), crcSum_zip3 l m k i (by omega) (by omega) (by omega)]
    simp (disch := omega) only [go_sem, z1, ↓reduceIte, Nat.reduceEqDiff]
    refine cllK_of Try.call9 (sum_at ((hk.ext' hE5).takeM i) (by simp; omega) (by omega)) ?_
    rintro v w6 ⟨rfl, q6⟩
    refine ⟨q6, ?_⟩
    simp (disch := omega) only [go_sem, z2, decide_true, ↓reduceIte, Nat.reduceEqDiff]
    exact ⟨trivial, hE5.trans' q6⟩
end Go.Proofs.Ytflpdbhabknekaa
