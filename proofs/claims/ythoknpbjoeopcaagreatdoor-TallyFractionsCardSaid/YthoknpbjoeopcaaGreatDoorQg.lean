import Derived.Test.YthoknpbjoeopcaaGreatDoorN1
import Derived.Lib.Bytealg
import Derived.Test.YthoknpbjoeopcaaGreatDoorUg
/-! strings.Cut at a stroke; texts of numbers read back. -/
namespace Go.Proofs.YthoknpbjoeopcaaGreatDoor
open Go.Eng Go.Vx
set_option linter.unusedSimpArgs false
set_option linter.unusedVariables false
set_option maxRecDepth 100000
theorem call_ixbs {P : Program} {e : Bool} {f : FuncId} {fn : Func} {s : List UInt8} {c : Nat} {σ : St} {K : KV} (hf : P.funcs[f]? = some fn) (h1 : (fn.name == "runtime.NumGoroutine") = false)
    (h2 : fn.body.isNone = true) (h3 : Extern.findNext fn = none) (h4 : Extern.find fn = some Extern.BytealgIndexByte.indexByte)
    (hk : K true (.lit (.int .i64 (Lib.indexByte s (UInt8.ofNat c)))) σ) :
    callV P e f [.lit (.string (bs s)), .lit (.int .u8 (c : Int))] σ K := by
  refine callX (xs := [.string (bs s), .int .u8 (c : Int)]) (fun w => ?_) (fun w Im μ => .lit rfl) hk
  rw [run_callFunc_extern hf h1 h2 h3 h4]
  have h := Lib.run_indexByteString (P := P) (bs s) (c : Int) w
  rw [show (bs s).data.toList = s by simp [bs], Int.toNat_natCast] at h
  rw [h]
  rfl
/-- What stands before the first stroke, what behind it. -/
def cutA (s : List UInt8) : List UInt8 := s.takeWhile (fun b => b != 47)
def cutB (s : List UInt8) : List UInt8 := (s.dropWhile (fun b => b != 47)).drop 1
def hasL (s : List UInt8) : Bool := s.any (fun b => b == 47)
theorem ix_cut : ∀ (s : List UInt8), (hasL s = false → Lib.indexByte s 47 = -1 ∧ cutA s = s) ∧ (hasL s = true → Lib.indexByte s 47 = ((cutA s).length : Int) ∧ s = cutA s ++ 47 :: cutB s)
  | [] => by simp [hasL, cutA, Lib.indexByte]
  | b :: l => by
    obtain ⟨i1, i2⟩ := ix_cut l
    by_cases hb : b = 47
    · subst hb
      refine ⟨fun h => by simp [hasL] at h, fun _ => ?_⟩
      refine ⟨by simp [Lib.indexByte, cutA], by simp [cutA, cutB]⟩
    · have h1 : (b == 47) = false := by simpa using hb
      have h2 : (b != 47) = true := by simpa using hb
      have hh : hasL (b :: l) = hasL l := by unfold hasL; rw [List.any_cons, h1, Bool.false_or]
      have ha : cutA (b :: l) = b :: cutA l := by unfold cutA; rw [List.takeWhile_cons, if_pos h2]
      have hB : cutB (b :: l) = cutB l := by unfold cutB; rw [List.dropWhile_cons, if_pos h2]
      rw [hh, ha, hB]
      refine ⟨fun h => ?_, fun h => ?_⟩
      · obtain ⟨j1, j2⟩ := i1 h
        refine ⟨?_, by rw [j2]⟩
        unfold Lib.indexByte
        rw [h1, j1]
        rfl
      · obtain ⟨j1, j2⟩ := i2 h
        refine ⟨?_, by rw [List.cons_append, ← j2]⟩
        unfold Lib.indexByte
        rw [h1, j1]
        have : (((cutA l).length : Int) == -1) = false := by
          rw [beq_eq_false_iff_ne]; omega
        rw [this]
        simp only [Bool.false_eq_true, if_false, List.length_cons]
        omega
theorem ixb_fn {s : List UInt8} : Fn1 Tryz.prog 165 [.lit (.string (bs s)), .lit (.int .u8 47)] [] (.lit (.int .i64 (Lib.indexByte s 47))) [] := by
  refine fn1N_of pl165 (by kernel_rfl) Tryz.call165 Tryz.func165 rfl (by kernel_rfl) rfl [.tmp 4] (by kernel_rfl) fun Q hQ => ?_
  simp (maxSteps := 1000000) (disch := (first | omega | (simp only [lnA, List.length_map, List.length_range, true_and, and_true]; (try omega); done) | fail)) only [go_sem, Int.reduceEq, Int.reduceToNat, Nat.reduceAdd, Nat.reduceMul, Nat.reduceEqDiff, ↓reduceIte]
  refine call_ixbs (c := 47) Tryz.func177 (by kernel_rfl) (by kernel_rfl) (by kernel_rfl) (by kernel_rfl) ?_
  simp (maxSteps := 1000000) (disch := (first | omega | (simp only [lnA, List.length_map, List.length_range, true_and, and_true]; (try omega); done) | fail)) only [go_sem, Int.reduceEq, Int.reduceToNat, Nat.reduceAdd, Nat.reduceMul, Nat.reduceEqDiff, ↓reduceIte]
  exact endW [] hQ
theorem ixl_fn {s : List UInt8} (hs : s.length ≤ 9223372036854775807) : Fn1 Tryz.prog 145 [.lit (.string (bs s)), .lit (.string (bs [47]))] [] (.lit (.int .i64 (Lib.indexByte s 47))) [] := by
  have h := ixb_fn (s := s)
  have hg : ((([47] : List UInt8).getD 0 0).toNat : Int) = 47 := rfl
  have hl : (([47] : List UInt8).length : Int) = 1 := rfl
  by_cases e : ([47] : List UInt8) = s
  · have h0 : Lib.indexByte s 47 = 0 := by rw [← e]; rfl
    rw [h0]
    refine fn1N_of pl145 (by kernel_rfl) Tryz.call145 Tryz.func145 rfl (by kernel_rfl) rfl [.tmp 4] (by kernel_rfl) fun Q hQ => ?_
    simp (maxSteps := 1000000) (disch := (first | omega | (simp only [lnA, List.length_map, List.length_range, true_and, and_true]; (try omega); done) | fail)) only [go_sem, hl, decide_eq_true e, Int.reduceEq, Int.reduceToNat, Nat.reduceAdd, Nat.reduceMul, Nat.reduceEqDiff, ↓reduceIte]
    exact endW [] hQ
  · refine fn1N_of pl145 (by kernel_rfl) Tryz.call145 Tryz.func145 rfl (by kernel_rfl) rfl [.tmp 4] (by kernel_rfl) fun Q hQ => ?_
    simp (maxSteps := 1000000) (disch := (first | omega | (simp only [lnA, List.length_map, List.length_range, true_and, and_true]; (try omega); done) | fail)) only [go_sem, hl, hg, decide_eq_false e, Int.reduceEq, Int.reduceToNat, Nat.reduceAdd, Nat.reduceMul, Nat.reduceEqDiff, ↓reduceIte]
    refine callV0 (h) rfl rfl ?_
    simp (maxSteps := 1000000) (disch := (first | omega | (simp only [lnA, List.length_map, List.length_range, true_and, and_true]; (try omega); done) | fail)) only [go_sem, Int.reduceEq, Int.reduceToNat, Nat.reduceAdd, Nat.reduceMul, Nat.reduceEqDiff, ↓reduceIte]
    exact endW [] hQ
theorem cutl_fn {s : List UInt8} (hs : s.length ≤ 9223372036854775807) : Fn1 Tryz.prog 74 [.lit (.string (bs s)), .lit (.string (bs [47]))] [] (.tup [.lit (.string (bs (cutA s))), .lit (.string (bs (if hasL s then cutB s else []))), .lit (.bool (hasL s))]) [] := by
  have hx := ixl_fn hs
  have hl : (([47] : List UInt8).length : Int) = 1 := rfl
  have hc : Fn1 Tryz.prog 114 [.lit (.string (bs s)), .lit (.string (bs [47]))] [] (.tup [.lit (.string (bs (cutA s))), .lit (.string (bs (if hasL s then cutB s else []))), .lit (.bool (hasL s))]) [] := by
    cases h : hasL s with
    | false =>
      obtain ⟨i1, i2⟩ := (ix_cut s).1 h
      rw [i1] at hx
      rw [i2, if_neg (by decide)]
      refine fn1N_of pl114 (by kernel_rfl) Tryz.call114 Tryz.func114 rfl (by kernel_rfl) rfl [.tmp 4, .tmp 5, .tmp 6] (by kernel_rfl) fun Q hQ => ?_
      simp (maxSteps := 1000000) (disch := (first | omega | (simp only [lnA, List.length_map, List.length_range, true_and, and_true]; (try omega); done) | fail)) only [go_sem, Int.reduceEq, Int.reduceToNat, Nat.reduceAdd, Nat.reduceMul, Nat.reduceEqDiff, ↓reduceIte]
      refine callV0 (hx) rfl rfl ?_
      simp (maxSteps := 1000000) (disch := (first | omega | (simp only [lnA, List.length_map, List.length_range, true_and, and_true]; (try omega); done) | fail)) only [go_sem, Int.reduceEq, Int.reduceToNat, Nat.reduceAdd, Nat.reduceMul, Nat.reduceEqDiff, ↓reduceIte]
      exact endW [] hQ
    | true =>
      obtain ⟨i1, i2⟩ := (ix_cut s).2 h
      rw [i1] at hx
      rw [if_pos rfl]
      generalize cutA s = A at *
      generalize cutB s = B at *
      have hlen : s.length = A.length + 1 + B.length := by
        rw [i2, List.length_append, List.length_cons]
        omega
      have t1 : s.take A.length = A := by
        rw [i2, List.take_left']
        rfl
      have t3 : s.drop (A.length + 1) = B := by
        rw [i2, ← List.drop_drop, List.drop_left']
        · rfl
        · rfl
      have t2 : (s.take s.length).drop (A.length + 1) = B := by rw [List.take_length, t3]
      have hk : ((A.length : Int) + ((1 : Nat) : Int)).toNat = A.length + 1 := by omega
      have hk2 : ((A.length : Int) + 1).toNat = A.length + 1 := by omega
      refine fn1N_of pl114 (by kernel_rfl) Tryz.call114 Tryz.func114 rfl (by kernel_rfl) rfl [.tmp 4, .tmp 5, .tmp 6] (by kernel_rfl) fun Q hQ => ?_
      simp (maxSteps := 1000000) (disch := (first | omega | (simp only [lnA, List.length_map, List.length_range, true_and, and_true]; (try omega); done) | fail)) only [go_sem, Int.reduceEq, Int.reduceToNat, Nat.reduceAdd, Nat.reduceMul, Nat.reduceEqDiff, ↓reduceIte]
      refine callV0 (hx) rfl rfl ?_
      simp (maxSteps := 1000000) (disch := (first | omega | (simp only [lnA, List.length_map, List.length_range, true_and, and_true]; (try omega); done) | fail)) only [go_sem, hl, t1, t2, hk, hk2, t3, Int.reduceEq, Int.reduceToNat, Nat.reduceAdd, Nat.reduceMul, Nat.reduceEqDiff, ↓reduceIte]
      exact endW [] hQ
  refine fn1N_of pl74 (by kernel_rfl) Tryz.call74 Tryz.func74 rfl (by kernel_rfl) rfl [.tmp 4, .tmp 5, .tmp 6] (by kernel_rfl) fun Q hQ => ?_
  simp (maxSteps := 1000000) (disch := (first | omega | (simp only [lnA, List.length_map, List.length_range, true_and, and_true]; (try omega); done) | fail)) only [go_sem, Int.reduceEq, Int.reduceToNat, Nat.reduceAdd, Nat.reduceMul, Nat.reduceEqDiff, ↓reduceIte]
  refine callV0 (hc) rfl rfl ?_
  simp (maxSteps := 1000000) (disch := (first | omega | (simp only [lnA, List.length_map, List.length_range, true_and, and_true]; (try omega); done) | fail)) only [go_sem, Int.reduceEq, Int.reduceToNat, Nat.reduceAdd, Nat.reduceMul, Nat.reduceEqDiff, ↓reduceIte]
  exact endW [] hQ
theorem decS_inj {a b : Nat} (h : decS a = decS b) : a = b := by rw [← valD_decS a, h, valD_decS]
theorem decS_dig {n : Nat} : ∀ b ∈ decS n, isD b = true := List.all_eq_true.1 (decS_ok n).2.2
theorem mn_decS (n : Nat) : mnS (decS n) = false := by
  refine Bool.eq_false_iff.2 fun h => ?_
  obtain ⟨t, ht⟩ := mnS_iff.1 h
  have := decS_dig (n := n) 45 (by rw [ht]; simp)
  exact absurd this (by decide)
theorem mn_zS (z : Int) : mnS (zS z) = decide (z < 0) := by
  unfold zS
  by_cases h : z < 0
  · rw [if_pos h, decide_eq_true h]
    exact mnS_iff.2 ⟨_, rfl⟩
  · rw [if_neg h, decide_eq_false h]
    exact mn_decS _
theorem dg_zS (z : Int) : dgS (zS z) = decS z.natAbs := by
  unfold dgS
  rw [mn_zS]
  unfold zS
  by_cases h : z < 0
  · rw [decide_eq_true h, if_pos rfl, if_pos h]
    rfl
  · rw [decide_eq_false h, if_neg (by decide), if_neg h]
theorem okZ_zS (z : Int) : okZ (zS z) := by
  unfold okZ
  rw [dg_zS, mn_zS]
  refine ⟨decS_ok _, fun ⟨h1, h2⟩ => ?_⟩
  have h1 := of_decide_eq_true h1
  rw [← decS_0] at h2
  have := decS_inj h2
  omega
theorem zS_inj {x y : Int} (h : zS x = zS y) : x = y := by
  have h1 := congrArg dgS h
  have h2 := congrArg mnS h
  rw [dg_zS, dg_zS] at h1
  rw [mn_zS, mn_zS] at h2
  have h1 := decS_inj h1
  by_cases hx : x < 0
  · rw [decide_eq_true hx] at h2
    have := of_decide_eq_true h2.symm
    omega
  · rw [decide_eq_false hx] at h2
    have := of_decide_eq_false h2.symm
    omega
theorem zS_len {z : Int} {k : Nat} (h : (wg z.natAbs).length ≤ k) : (zS z).length ≤ 20 * k + 2 := by
  have := decS_wg h
  unfold zS
  split <;> simp <;> omega
theorem wparse_zS {z : Int} (h : (wg z.natAbs).length ≤ 90) : Fn1 Tryz.prog 18 [.lit (.string (bs (zS z)))] [] (.tup [WV z, .lit (.int .i64 0)]) [] := by
  obtain ⟨y, e, p, k1, -, -⟩ := wparse_of (s := zS z) (by have := zS_len h; omega)
  obtain ⟨rfl, h2⟩ := k1 (okZ_zS z)
  rw [zS_inj h2] at p
  exact p
theorem nparse_decS {n : Nat} (h : (wg n).length ≤ 90) : Fn1 Tryz.prog 60 [.lit (.string (bs (decS n)))] [] (.tup [NV n, .lit (.int .i64 0)]) [] := by
  have p := nparse_fn (s := decS n) (by have := decS_wg h; omega) (decS_ok n)
  rw [valD_decS] at p
  exact p
end Go.Proofs.YthoknpbjoeopcaaGreatDoor
