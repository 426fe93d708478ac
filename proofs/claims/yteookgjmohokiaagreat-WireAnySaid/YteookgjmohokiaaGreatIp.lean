import Derived.Test.YteookgjmohokiaaGreatIo
namespace Go.Proofs.YteookgjmohokiaaGreat
open Go.Eng Go.Vx
set_option linter.unusedSimpArgs false
set_option linter.unusedVariables false
set_option maxRecDepth 100000
theorem IsB_nl {l : List Nat} (hl : ∀ x ∈ l, x < 256) : IsB (nl l) := fun x hx => by
  obtain ⟨y, hy, rfl⟩ := List.mem_map.1 hx
  have := hl y hy
  omega
theorem openS_fn {l : List Nat} (h4 : l.length < 4) : Fn1 Tryz.prog 35 [.row 1 ((nl l).map (ie .u8))] [] (.tup [.lit (.slice none 0 0), .lit (.int .i64 5)]) [] := by
  refine fn1N_of pl35 (by kernel_rfl) Tryz.call35 Tryz.func35 rfl (by kernel_rfl) rfl [.tmp 2, .tmp 3] (by kernel_rfl) fun Q hQ => ?_
  have hnl := nl_len l
  refine runW ?_
  exact endW [] hQ
theorem dec_long {l : List Nat} (hm : 4096 < l.length) (hm2 : l.length < 1000000) : Fn1 Tryz.prog 17 [.row 1 ((nl l).map (ie .u8))] [] (.tup [itN 0, .lit (.int .i64 13)]) [] := by
  refine fn1N_of pl17 (by kernel_rfl) Tryz.call17 Tryz.func17 rfl (by kernel_rfl) rfl [.cell 2 52, .tmp 3] (by kernel_rfl) fun Q hQ => ?_
  have hnl := nl_len l
  refine runW ?_
  exact endW [] hQ
theorem dec_open {l : List Nat} {e : Int} (hm : l.length ≤ 4096) (he : e ≠ 0) (op : Fn1 Tryz.prog 35 [.row 1 ((nl l).map (ie .u8))] [] (.tup [.lit (.slice none 0 0), .lit (.int .i64 e)]) []) : Fn1 Tryz.prog 17 [.row 1 ((nl l).map (ie .u8))] [] (.tup [itN 0, .lit (.int .i64 13)]) [] := by
  refine fn1N_of pl17 (by kernel_rfl) Tryz.call17 Tryz.func17 rfl (by kernel_rfl) rfl [.cell 2 52, .tmp 3] (by kernel_rfl) fun Q hQ => ?_
  have hnl := nl_len l
  refine runW ?_
  refine callV0 (op) rfl rfl ?_
  refine runW ?_
  exact endW [] hQ
def inb (l : List Nat) : List Nat := l.take (l.length - 4)

theorem dec_empty {l : List Nat} (hl : ∀ x ∈ l, x < 256) (h4 : 4 ≤ l.length) (hm : l.length ≤ 4096) (hs : sealN (l.take (l.length - 4)) = l) (h0 : l.length = 4) : Fn1 Tryz.prog 17 [.row 1 ((nl l).map (ie .u8))] [] (.tup [itN 0, .lit (.int .i64 13)]) [] := by
  have op := open_fn hl (by omega) h4 hs
  have hIB : IsB (nl (inb l)) := IsB_nl fun x hx => hl x (List.mem_of_mem_take hx)
  have hlb : (nl (inb l)).length = l.length - 4 := by rw [nl_len]; unfold inb; simp
  change Fn1 _ _ _ _ (.tup [.row 1 ((nl (inb l)).map (ie .u8)), _]) _ at op
  have hnl := nl_len l
  generalize nl (inb l) = B at *
  generalize nl l = N at *
  have hbl := bitsOf_len B
  have rd := read_fn (B := B) (by omega)
  have n4 := rnumE_fn (B := B) (p := 0) (w := 4) hIB (by omega) (by decide) (by omega) (by omega)
  have n3 := rnumE_fn (B := B) (p := 0) (w := 3) hIB (by omega) (by decide) (by omega) (by omega)
  rw [show ((4 : Nat) : Int) = 4 from rfl] at n4
  rw [show ((3 : Nat) : Int) = 3 from rfl] at n3
  refine fn1N_of pl17 (by kernel_rfl) Tryz.call17 Tryz.func17 rfl (by kernel_rfl) rfl [.cell 2 52, .tmp 3] (by kernel_rfl) fun Q hQ => ?_
  refine runW ?_
  refine callV0 (op) rfl rfl ?_
  refine runW ?_
  refine callW [] [] (rd) ?_
  refine runW ?_
  refine callW [some 1] [] (n4) ?_
  refine runW ?_
  refine callW [some 1] [] (n3) ?_
  refine runW ?_
  exact endW [] hQ

theorem dec_version {l : List Nat} (hl : ∀ x ∈ l, x < 256) (h4 : 4 ≤ l.length) (hm : l.length ≤ 4096) (hs : sealN (l.take (l.length - 4)) = l) (h0 : 4 < l.length) (hv : numOf ((bitsOf (nl (inb l))).take 4) ≠ 1) : Fn1 Tryz.prog 17 [.row 1 ((nl l).map (ie .u8))] [] (.tup [itN 0, .lit (.int .i64 13)]) [] := by
  have op := open_fn hl (by omega) h4 hs
  have hIB : IsB (nl (inb l)) := IsB_nl fun x hx => hl x (List.mem_of_mem_take hx)
  have hlb : (nl (inb l)).length = l.length - 4 := by rw [nl_len]; unfold inb; simp
  change Fn1 _ _ _ _ (.tup [.row 1 ((nl (inb l)).map (ie .u8)), _]) _ at op
  have hnl := nl_len l
  generalize nl (inb l) = B at *
  generalize nl l = N at *
  have hbl := bitsOf_len B
  have rd := read_fn (B := B) (by omega)
  have n4 := brnum_fn (B := B) (p := 0) (w := 4) hIB (by omega) (by decide) (by omega)
  have n3 := brnum_fn (B := B) (p := 4) (w := 3) hIB (by omega) (by decide) (by omega)
  rw [show ((4 : Nat) : Int) = 4 from rfl] at n4
  rw [show ((3 : Nat) : Int) = 3 from rfl] at n3
  rw [List.drop_zero] at n4
  generalize numOf ((bitsOf B).take 4) = v at *
  generalize numOf (((bitsOf B).drop 4).take 3) = t at *
  refine fn1N_of pl17 (by kernel_rfl) Tryz.call17 Tryz.func17 rfl (by kernel_rfl) rfl [.cell 2 52, .tmp 3] (by kernel_rfl) fun Q hQ => ?_
  refine runW ?_
  refine callV0 (op) rfl rfl ?_
  refine runW ?_
  refine callW [] [] (rd) ?_
  refine runW ?_
  refine callW [some 1] [] (n4) ?_
  refine runW ?_
  refine callW [some 1] [] (n3) ?_
  refine runW ?_
  exact endW [] hQ

theorem dec_errN {l : List Nat} (hl : ∀ x ∈ l, x < 256) (h4 : 4 ≤ l.length) (hm : l.length ≤ 4096) (hs : sealN (l.take (l.length - 4)) = l) (h0 : 4 < l.length) (hv : numOf ((bitsOf (nl (inb l))).take 4) = 1) {t : Nat} (ht : numOf (((bitsOf (nl (inb l))).drop 4).take 3) = t)  {e : Int} {q : Nat} (he : e ≠ 0) (hb : Fn1 Tryz.prog 38 [.ref 0 0 0 0, .lit (.int .i64 (t : Int))] [some (wrdC 1 0), some (rdC (nl (inb l)) 7)] (itN t) [some (wrdC 1 e), some (rdC (nl (inb l)) q)]) : Fn1 Tryz.prog 17 [.row 1 ((nl l).map (ie .u8))] [] (.tup [itN 0, .lit (.int .i64 13)]) [] := by
  have op := open_fn hl (by omega) h4 hs
  have hIB : IsB (nl (inb l)) := IsB_nl fun x hx => hl x (List.mem_of_mem_take hx)
  have hlb : (nl (inb l)).length = l.length - 4 := by rw [nl_len]; unfold inb; simp
  change Fn1 _ _ _ _ (.tup [.row 1 ((nl (inb l)).map (ie .u8)), _]) _ at op
  have hnl := nl_len l
  generalize nl (inb l) = B at *
  generalize nl l = N at *
  have hbl := bitsOf_len B
  have rd := read_fn (B := B) (by omega)
  have n4 := brnum_fn (B := B) (p := 0) (w := 4) hIB (by omega) (by decide) (by omega)
  have n3 := brnum_fn (B := B) (p := 4) (w := 3) hIB (by omega) (by decide) (by omega)
  rw [show ((4 : Nat) : Int) = 4 from rfl] at n4
  rw [show ((3 : Nat) : Int) = 3 from rfl] at n3
  rw [List.drop_zero] at n4
  have ht7 := numOf_take_lt ((bitsOf B).drop 4) 3
  rw [hv] at n4
  rw [ht] at n3 ht7
  refine fn1N_of pl17 (by kernel_rfl) Tryz.call17 Tryz.func17 rfl (by kernel_rfl) rfl [.cell 2 52, .tmp 3] (by kernel_rfl) fun Q hQ => ?_
  refine runW ?_
  refine callV0 (op) rfl rfl ?_
  refine runW ?_
  refine callW [] [] (rd) ?_
  refine runW ?_
  refine callW [some 1] [] (n4) ?_
  refine runW ?_
  refine callW [some 1] [] (n3) ?_
  refine runW ?_
  refine callW [some 2, some 1] [] (hb) ?_
  refine runW ?_
  exact endW [] hQ

theorem dec_errR {l : List Nat} (hl : ∀ x ∈ l, x < 256) (h4 : 4 ≤ l.length) (hm : l.length ≤ 4096) (hs : sealN (l.take (l.length - 4)) = l) (h0 : 4 < l.length) (hv : numOf ((bitsOf (nl (inb l))).take 4) = 1) {t : Nat} (ht : numOf (((bitsOf (nl (inb l))).drop 4).take 3) = t) {K A Z s1 s2 : Int} {f : Bool} {e : Int} {q : Nat} (he : e ≠ 0) (hb : Fn1 Tryz.prog 38 [.ref 0 0 0 0, .lit (.int .i64 (t : Int))] [some (wrdC 1 0), some (rdC (nl (inb l)) 7)] (.agg [.lit (.int .i64 1), .lit (.int .i64 K), .lit (.int .i64 A), .lit (.int .i64 Z), .lit (.int .i64 s1), .lit (.int .i64 s2), .lit (.bool f), .lit (.pointer none), .lit (.pointer none), .lit (.pointer none), .lit (.pointer none)]) [some (wrdC 1 e), some (rdC (nl (inb l)) q)]) : Fn1 Tryz.prog 17 [.row 1 ((nl l).map (ie .u8))] [] (.tup [itN 0, .lit (.int .i64 13)]) [] := by
  have op := open_fn hl (by omega) h4 hs
  have hIB : IsB (nl (inb l)) := IsB_nl fun x hx => hl x (List.mem_of_mem_take hx)
  have hlb : (nl (inb l)).length = l.length - 4 := by rw [nl_len]; unfold inb; simp
  change Fn1 _ _ _ _ (.tup [.row 1 ((nl (inb l)).map (ie .u8)), _]) _ at op
  have hnl := nl_len l
  generalize nl (inb l) = B at *
  generalize nl l = N at *
  have hbl := bitsOf_len B
  have rd := read_fn (B := B) (by omega)
  have n4 := brnum_fn (B := B) (p := 0) (w := 4) hIB (by omega) (by decide) (by omega)
  have n3 := brnum_fn (B := B) (p := 4) (w := 3) hIB (by omega) (by decide) (by omega)
  rw [show ((4 : Nat) : Int) = 4 from rfl] at n4
  rw [show ((3 : Nat) : Int) = 3 from rfl] at n3
  rw [List.drop_zero] at n4
  have ht7 := numOf_take_lt ((bitsOf B).drop 4) 3
  rw [hv] at n4
  rw [ht] at n3 ht7
  refine fn1N_of pl17 (by kernel_rfl) Tryz.call17 Tryz.func17 rfl (by kernel_rfl) rfl [.cell 2 52, .tmp 3] (by kernel_rfl) fun Q hQ => ?_
  refine runW ?_
  refine callV0 (op) rfl rfl ?_
  refine runW ?_
  refine callW [] [] (rd) ?_
  refine runW ?_
  refine callW [some 1] [] (n4) ?_
  refine runW ?_
  refine callW [some 1] [] (n3) ?_
  refine runW ?_
  refine callW [some 2, some 1] [] (hb) ?_
  refine runW ?_
  exact endW [] hQ

theorem dec_errC {l : List Nat} (hl : ∀ x ∈ l, x < 256) (h4 : 4 ≤ l.length) (hm : l.length ≤ 4096) (hs : sealN (l.take (l.length - 4)) = l) (h0 : 4 < l.length) (hv : numOf ((bitsOf (nl (inb l))).take 4) = 1) {t : Nat} (ht : numOf (((bitsOf (nl (inb l))).drop 4).take 3) = t) {r0 c0 k a b T : Nat} {m : List RW} {e : Int} {q : Nat} (he : e ≠ 0) (hb : Fn1 Tryz.prog 38 [.ref 0 0 0 0, .lit (.int .i64 (t : Int))] [some (wrdC 1 0), some (rdC (nl (inb l)) 7)] (itC 2) [some (wrdC 1 e), some (rdC (nl (inb l)) q), some (cmC r0 c0 k a b m T)]) : Fn1 Tryz.prog 17 [.row 1 ((nl l).map (ie .u8))] [] (.tup [itN 0, .lit (.int .i64 13)]) [] := by
  have op := open_fn hl (by omega) h4 hs
  have hIB : IsB (nl (inb l)) := IsB_nl fun x hx => hl x (List.mem_of_mem_take hx)
  have hlb : (nl (inb l)).length = l.length - 4 := by rw [nl_len]; unfold inb; simp
  change Fn1 _ _ _ _ (.tup [.row 1 ((nl (inb l)).map (ie .u8)), _]) _ at op
  have hnl := nl_len l
  generalize nl (inb l) = B at *
  generalize nl l = N at *
  have hbl := bitsOf_len B
  have rd := read_fn (B := B) (by omega)
  have n4 := brnum_fn (B := B) (p := 0) (w := 4) hIB (by omega) (by decide) (by omega)
  have n3 := brnum_fn (B := B) (p := 4) (w := 3) hIB (by omega) (by decide) (by omega)
  rw [show ((4 : Nat) : Int) = 4 from rfl] at n4
  rw [show ((3 : Nat) : Int) = 3 from rfl] at n3
  rw [List.drop_zero] at n4
  have ht7 := numOf_take_lt ((bitsOf B).drop 4) 3
  rw [hv] at n4
  rw [ht] at n3 ht7
  refine fn1N_of pl17 (by kernel_rfl) Tryz.call17 Tryz.func17 rfl (by kernel_rfl) rfl [.cell 2 52, .tmp 3] (by kernel_rfl) fun Q hQ => ?_
  refine runW ?_
  refine callV0 (op) rfl rfl ?_
  refine runW ?_
  refine callW [] [] (rd) ?_
  refine runW ?_
  refine callW [some 1] [] (n4) ?_
  refine runW ?_
  refine callW [some 1] [] (n3) ?_
  refine runW ?_
  refine callW [some 2, some 1] [] (hb) ?_
  refine runW ?_
  exact endW [] hQ

theorem decR_close {l : List Nat} (hl : ∀ x ∈ l, x < 256) (h4 : 4 ≤ l.length) (hm : l.length ≤ 4096) (hs : sealN (l.take (l.length - 4)) = l) (h0 : 4 < l.length) (hv : numOf ((bitsOf (nl (inb l))).take 4) = 1) (ht : numOf (((bitsOf (nl (inb l))).drop 4).take 3) = 1) {k a b : Nat} {s : Nat × Nat × Bool} {q : Nat} (gd : goodN k a b) (w : wellN k a b s) (hq : q ≤ 8 * (l.length - 4)) (hc : closeX (bitsOf (nl (inb l))) q ≠ 0) (hb : Fn1 Tryz.prog 38 [.ref 0 0 0 0, .lit (.int .i64 (1 : Int))] [some (wrdC 1 0), some (rdC (nl (inb l)) 7)] (itR k a b s) [some (wrdC 1 0), some (rdC (nl (inb l)) q)]) : Fn1 Tryz.prog 17 [.row 1 ((nl l).map (ie .u8))] [] (.tup [itN 0, .lit (.int .i64 13)]) [] := by
  have op := open_fn hl (by omega) h4 hs
  have hIB : IsB (nl (inb l)) := IsB_nl fun x hx => hl x (List.mem_of_mem_take hx)
  have hlb : (nl (inb l)).length = l.length - 4 := by rw [nl_len]; unfold inb; simp
  change Fn1 _ _ _ _ (.tup [.row 1 ((nl (inb l)).map (ie .u8)), _]) _ at op
  have hnl := nl_len l
  generalize nl (inb l) = B at *
  generalize nl l = N at *
  have hbl := bitsOf_len B
  have rd := read_fn (B := B) (by omega)
  have n4 := brnum_fn (B := B) (p := 0) (w := 4) hIB (by omega) (by decide) (by omega)
  have n3 := brnum_fn (B := B) (p := 4) (w := 3) hIB (by omega) (by decide) (by omega)
  rw [show ((4 : Nat) : Int) = 4 from rfl] at n4
  rw [show ((3 : Nat) : Int) = 3 from rfl] at n3
  rw [List.drop_zero] at n4
  have ht7 := numOf_take_lt ((bitsOf B).drop 4) 3
  rw [hv] at n4
  rw [ht] at n3
  rw [show ((1 : Nat) : Int) = 1 from rfl] at n3
  have cl := close_fn (B := B) (p := q) hIB (by omega) (by omega)
  have ck := ckReg_fn gd w
  refine fn1N_of pl17 (by kernel_rfl) Tryz.call17 Tryz.func17 rfl (by kernel_rfl) rfl [.cell 2 52, .tmp 3] (by kernel_rfl) fun Q hQ => ?_
  refine runW ?_
  refine callV0 (op) rfl rfl ?_
  refine runW ?_
  refine callW [] [] (rd) ?_
  refine runW ?_
  refine callW [some 1] [] (n4) ?_
  refine runW ?_
  refine callW [some 1] [] (n3) ?_
  refine runW ?_
  refine callW [some 2, some 1] [] (hb) ?_
  refine runW ?_
  refine callW [some 1] [] (cl) ?_
  refine runW ?_
  exact endW [] hQ

theorem decR_other {l : List Nat} (hl : ∀ x ∈ l, x < 256) (h4 : 4 ≤ l.length) (hm : l.length ≤ 4096) (hs : sealN (l.take (l.length - 4)) = l) (h0 : 4 < l.length) (hv : numOf ((bitsOf (nl (inb l))).take 4) = 1) (ht : numOf (((bitsOf (nl (inb l))).drop 4).take 3) = 1) {k a b : Nat} {s : Nat × Nat × Bool} {q n0 : Nat} {E : List Nat} (gd : goodN k a b) (w : wellN k a b s) (hq : q ≤ 8 * (l.length - 4)) (hc : closeX (bitsOf (nl (inb l))) q = 0) (hb : Fn1 Tryz.prog 38 [.ref 0 0 0 0, .lit (.int .i64 (1 : Int))] [some (wrdC 1 0), some (rdC (nl (inb l)) 7)] (itR k a b s) [some (wrdC 1 0), some (rdC (nl (inb l)) q)]) (en : Fn1 Tryz.prog 12 [itR k a b s] [] (.tup [.sl 0 1 0 n0, .lit (.int .i64 0)]) [some (.row 1 ((nl E).map (ie .u8)))]) (hE : E.length = n0) (hE2 : n0 ≤ 1000000) (hne : nl E ≠ nl l) : Fn1 Tryz.prog 17 [.row 1 ((nl l).map (ie .u8))] [] (.tup [itN 0, .lit (.int .i64 13)]) [] := by
  have op := open_fn hl (by omega) h4 hs
  have hIB : IsB (nl (inb l)) := IsB_nl fun x hx => hl x (List.mem_of_mem_take hx)
  have hlb : (nl (inb l)).length = l.length - 4 := by rw [nl_len]; unfold inb; simp
  change Fn1 _ _ _ _ (.tup [.row 1 ((nl (inb l)).map (ie .u8)), _]) _ at op
  have hnl := nl_len l
  generalize nl (inb l) = B at *
  generalize nl l = N at *
  have hbl := bitsOf_len B
  have rd := read_fn (B := B) (by omega)
  have n4 := brnum_fn (B := B) (p := 0) (w := 4) hIB (by omega) (by decide) (by omega)
  have n3 := brnum_fn (B := B) (p := 4) (w := 3) hIB (by omega) (by decide) (by omega)
  rw [show ((4 : Nat) : Int) = 4 from rfl] at n4
  rw [show ((3 : Nat) : Int) = 3 from rfl] at n3
  rw [List.drop_zero] at n4
  have ht7 := numOf_take_lt ((bitsOf B).drop 4) 3
  rw [hv] at n4
  rw [ht] at n3
  rw [show ((1 : Nat) : Int) = 1 from rfl] at n3
  have cl := close_fn (B := B) (p := q) hIB (by omega) (by omega)
  have ck := ckReg_fn gd w
  have hEl := nl_len E
  have eq := equalB_fn (A := nl E) (B := N) (by omega) (by omega)
  rw [decide_eq_false hne] at eq
  rw [hc] at cl
  refine fn1N_of pl17 (by kernel_rfl) Tryz.call17 Tryz.func17 rfl (by kernel_rfl) rfl [.cell 2 52, .tmp 3] (by kernel_rfl) fun Q hQ => ?_
  refine runW ?_
  refine callV0 (op) rfl rfl ?_
  refine runW ?_
  refine callW [] [] (rd) ?_
  refine runW ?_
  refine callW [some 1] [] (n4) ?_
  refine runW ?_
  refine callW [some 1] [] (n3) ?_
  refine runW ?_
  refine callW [some 2, some 1] [] (hb) ?_
  refine runW ?_
  refine callW [some 1] [] (cl) ?_
  refine runW ?_
  refine callV0 (ck) rfl rfl ?_
  refine runW ?_
  refine callF (en) ?_
  refine runW ?_
  refine callT (eq) ?_
  refine runW ?_
  exact endW [] hQ

theorem decR_ok {l : List Nat} (hl : ∀ x ∈ l, x < 256) (h4 : 4 ≤ l.length) (hm : l.length ≤ 4096) (hs : sealN (l.take (l.length - 4)) = l) (h0 : 4 < l.length) (hv : numOf ((bitsOf (nl (inb l))).take 4) = 1) (ht : numOf (((bitsOf (nl (inb l))).drop 4).take 3) = 1) {k a b : Nat} {s : Nat × Nat × Bool} {q n0 : Nat} {E : List Nat} (gd : goodN k a b) (w : wellN k a b s) (hq : q ≤ 8 * (l.length - 4)) (hc : closeX (bitsOf (nl (inb l))) q = 0) (hb : Fn1 Tryz.prog 38 [.ref 0 0 0 0, .lit (.int .i64 (1 : Int))] [some (wrdC 1 0), some (rdC (nl (inb l)) 7)] (itR k a b s) [some (wrdC 1 0), some (rdC (nl (inb l)) q)]) (en : Fn1 Tryz.prog 12 [itR k a b s] [] (.tup [.sl 0 1 0 n0, .lit (.int .i64 0)]) [some (.row 1 ((nl E).map (ie .u8)))]) (hE : E.length = n0) (hE2 : n0 ≤ 1000000) (hne : nl E = nl l) : Fn1 Tryz.prog 17 [.row 1 ((nl l).map (ie .u8))] [] (.tup [itR k a b s, .lit (.int .i64 0)]) [] := by
  have op := open_fn hl (by omega) h4 hs
  have hIB : IsB (nl (inb l)) := IsB_nl fun x hx => hl x (List.mem_of_mem_take hx)
  have hlb : (nl (inb l)).length = l.length - 4 := by rw [nl_len]; unfold inb; simp
  change Fn1 _ _ _ _ (.tup [.row 1 ((nl (inb l)).map (ie .u8)), _]) _ at op
  have hnl := nl_len l
  generalize nl (inb l) = B at *
  generalize nl l = N at *
  have hbl := bitsOf_len B
  have rd := read_fn (B := B) (by omega)
  have n4 := brnum_fn (B := B) (p := 0) (w := 4) hIB (by omega) (by decide) (by omega)
  have n3 := brnum_fn (B := B) (p := 4) (w := 3) hIB (by omega) (by decide) (by omega)
  rw [show ((4 : Nat) : Int) = 4 from rfl] at n4
  rw [show ((3 : Nat) : Int) = 3 from rfl] at n3
  rw [List.drop_zero] at n4
  have ht7 := numOf_take_lt ((bitsOf B).drop 4) 3
  rw [hv] at n4
  rw [ht] at n3
  rw [show ((1 : Nat) : Int) = 1 from rfl] at n3
  have cl := close_fn (B := B) (p := q) hIB (by omega) (by omega)
  have ck := ckReg_fn gd w
  have hEl := nl_len E
  have eq := equalB_fn (A := nl E) (B := N) (by omega) (by omega)
  rw [decide_eq_true hne] at eq
  rw [hc] at cl
  refine fn1N_of pl17 (by kernel_rfl) Tryz.call17 Tryz.func17 rfl (by kernel_rfl) rfl [.cell 2 52, .tmp 3] (by kernel_rfl) fun Q hQ => ?_
  refine runW ?_
  refine callV0 (op) rfl rfl ?_
  refine runW ?_
  refine callW [] [] (rd) ?_
  refine runW ?_
  refine callW [some 1] [] (n4) ?_
  refine runW ?_
  refine callW [some 1] [] (n3) ?_
  refine runW ?_
  refine callW [some 2, some 1] [] (hb) ?_
  refine runW ?_
  refine callW [some 1] [] (cl) ?_
  refine runW ?_
  refine callV0 (ck) rfl rfl ?_
  refine runW ?_
  refine callF (en) ?_
  refine runW ?_
  refine callT (eq) ?_
  refine runW ?_
  exact endW [] hQ

theorem decA_close {l : List Nat} (hl : ∀ x ∈ l, x < 256) (h4 : 4 ≤ l.length) (hm : l.length ≤ 4096) (hs : sealN (l.take (l.length - 4)) = l) (h0 : 4 < l.length) (hv : numOf ((bitsOf (nl (inb l))).take 4) = 1) (ht : numOf (((bitsOf (nl (inb l))).drop 4).take 3) = 2) {k a b n : Nat} {m : List SR} {q : Nat}  (hq : q ≤ 8 * (l.length - 4)) (hc : closeX (bitsOf (nl (inb l))) q ≠ 0) (hb : Fn1 Tryz.prog 38 [.ref 0 0 0 0, .lit (.int .i64 (2 : Int))] [some (wrdC 1 0), some (rdC (nl (inb l)) 7)] (itA 2) [some (wrdC 1 0), some (rdC (nl (inb l)) q), some (caC 3 k a b), some (vcC 4 n (wd k a b)), some (vcR n (wd k a b) (packN (wd k a b) (m.map (nuO k a b))))]) : Fn1 Tryz.prog 17 [.row 1 ((nl l).map (ie .u8))] [] (.tup [itN 0, .lit (.int .i64 13)]) [] := by
  have op := open_fn hl (by omega) h4 hs
  have hIB : IsB (nl (inb l)) := IsB_nl fun x hx => hl x (List.mem_of_mem_take hx)
  have hlb : (nl (inb l)).length = l.length - 4 := by rw [nl_len]; unfold inb; simp
  change Fn1 _ _ _ _ (.tup [.row 1 ((nl (inb l)).map (ie .u8)), _]) _ at op
  have hnl := nl_len l
  generalize nl (inb l) = B at *
  generalize nl l = N at *
  have hbl := bitsOf_len B
  have rd := read_fn (B := B) (by omega)
  have n4 := brnum_fn (B := B) (p := 0) (w := 4) hIB (by omega) (by decide) (by omega)
  have n3 := brnum_fn (B := B) (p := 4) (w := 3) hIB (by omega) (by decide) (by omega)
  rw [show ((4 : Nat) : Int) = 4 from rfl] at n4
  rw [show ((3 : Nat) : Int) = 3 from rfl] at n3
  rw [List.drop_zero] at n4
  have ht7 := numOf_take_lt ((bitsOf B).drop 4) 3
  rw [hv] at n4
  rw [ht] at n3
  rw [show ((2 : Nat) : Int) = 2 from rfl] at n3
  have cl := close_fn (B := B) (p := q) hIB (by omega) (by omega)
  have ck := ckAP_fn (k := k) (a := a) (b := b) (n := n) (l := m)
  have hlw := words_len (nwd n (wd k a b)) (packN (wd k a b) (m.map (nuO k a b)))
  refine fn1N_of pl17 (by kernel_rfl) Tryz.call17 Tryz.func17 rfl (by kernel_rfl) rfl [.cell 2 52, .tmp 3] (by kernel_rfl) fun Q hQ => ?_
  refine runW ?_
  refine callV0 (op) rfl rfl ?_
  refine runW ?_
  refine callW [] [] (rd) ?_
  refine runW ?_
  refine callW [some 1] [] (n4) ?_
  refine runW ?_
  refine callW [some 1] [] (n3) ?_
  refine runW ?_
  refine callW [some 2, some 1] [] (hb) ?_
  refine runW ?_
  refine callW [some 1] [] (cl) ?_
  refine runW ?_
  exact endW [] hQ

theorem decA_other {l : List Nat} (hl : ∀ x ∈ l, x < 256) (h4 : 4 ≤ l.length) (hm : l.length ≤ 4096) (hs : sealN (l.take (l.length - 4)) = l) (h0 : 4 < l.length) (hv : numOf ((bitsOf (nl (inb l))).take 4) = 1) (ht : numOf (((bitsOf (nl (inb l))).drop 4).take 3) = 2) {k a b n : Nat} {m : List SR} {q n0 : Nat} {E : List Nat}  (hq : q ≤ 8 * (l.length - 4)) (hc : closeX (bitsOf (nl (inb l))) q = 0) (hb : Fn1 Tryz.prog 38 [.ref 0 0 0 0, .lit (.int .i64 (2 : Int))] [some (wrdC 1 0), some (rdC (nl (inb l)) 7)] (itA 2) [some (wrdC 1 0), some (rdC (nl (inb l)) q), some (caC 3 k a b), some (vcC 4 n (wd k a b)), some (vcR n (wd k a b) (packN (wd k a b) (m.map (nuO k a b))))]) (en : Fn1 Tryz.prog 12 [itAP k a b n m] [] (.tup [.sl 0 1 0 n0, .lit (.int .i64 0)]) [some (.row 1 ((nl E).map (ie .u8)))]) (hE : E.length = n0) (hE2 : n0 ≤ 1000000) (hne : nl E ≠ nl l) : Fn1 Tryz.prog 17 [.row 1 ((nl l).map (ie .u8))] [] (.tup [itN 0, .lit (.int .i64 13)]) [] := by
  have op := open_fn hl (by omega) h4 hs
  have hIB : IsB (nl (inb l)) := IsB_nl fun x hx => hl x (List.mem_of_mem_take hx)
  have hlb : (nl (inb l)).length = l.length - 4 := by rw [nl_len]; unfold inb; simp
  change Fn1 _ _ _ _ (.tup [.row 1 ((nl (inb l)).map (ie .u8)), _]) _ at op
  have hnl := nl_len l
  generalize nl (inb l) = B at *
  generalize nl l = N at *
  have hbl := bitsOf_len B
  have rd := read_fn (B := B) (by omega)
  have n4 := brnum_fn (B := B) (p := 0) (w := 4) hIB (by omega) (by decide) (by omega)
  have n3 := brnum_fn (B := B) (p := 4) (w := 3) hIB (by omega) (by decide) (by omega)
  rw [show ((4 : Nat) : Int) = 4 from rfl] at n4
  rw [show ((3 : Nat) : Int) = 3 from rfl] at n3
  rw [List.drop_zero] at n4
  have ht7 := numOf_take_lt ((bitsOf B).drop 4) 3
  rw [hv] at n4
  rw [ht] at n3
  rw [show ((2 : Nat) : Int) = 2 from rfl] at n3
  have cl := close_fn (B := B) (p := q) hIB (by omega) (by omega)
  have ck := ckAP_fn (k := k) (a := a) (b := b) (n := n) (l := m)
  have hlw := words_len (nwd n (wd k a b)) (packN (wd k a b) (m.map (nuO k a b)))
  have hEl := nl_len E
  have eq := equalB_fn (A := nl E) (B := N) (by omega) (by omega)
  rw [decide_eq_false hne] at eq
  rw [hc] at cl
  refine fn1N_of pl17 (by kernel_rfl) Tryz.call17 Tryz.func17 rfl (by kernel_rfl) rfl [.cell 2 52, .tmp 3] (by kernel_rfl) fun Q hQ => ?_
  refine runW ?_
  refine callV0 (op) rfl rfl ?_
  refine runW ?_
  refine callW [] [] (rd) ?_
  refine runW ?_
  refine callW [some 1] [] (n4) ?_
  refine runW ?_
  refine callW [some 1] [] (n3) ?_
  refine runW ?_
  refine callW [some 2, some 1] [] (hb) ?_
  refine runW ?_
  refine callW [some 1] [] (cl) ?_
  refine runW ?_
  refine callT (ck) ?_
  refine runW ?_
  refine callF (en) ?_
  refine runW ?_
  refine callT (eq) ?_
  refine runW ?_
  exact endW [] hQ

theorem decA_ok {l : List Nat} (hl : ∀ x ∈ l, x < 256) (h4 : 4 ≤ l.length) (hm : l.length ≤ 4096) (hs : sealN (l.take (l.length - 4)) = l) (h0 : 4 < l.length) (hv : numOf ((bitsOf (nl (inb l))).take 4) = 1) (ht : numOf (((bitsOf (nl (inb l))).drop 4).take 3) = 2) {k a b n : Nat} {m : List SR} {q n0 : Nat} {E : List Nat}  (hq : q ≤ 8 * (l.length - 4)) (hc : closeX (bitsOf (nl (inb l))) q = 0) (hb : Fn1 Tryz.prog 38 [.ref 0 0 0 0, .lit (.int .i64 (2 : Int))] [some (wrdC 1 0), some (rdC (nl (inb l)) 7)] (itA 2) [some (wrdC 1 0), some (rdC (nl (inb l)) q), some (caC 3 k a b), some (vcC 4 n (wd k a b)), some (vcR n (wd k a b) (packN (wd k a b) (m.map (nuO k a b))))]) (en : Fn1 Tryz.prog 12 [itAP k a b n m] [] (.tup [.sl 0 1 0 n0, .lit (.int .i64 0)]) [some (.row 1 ((nl E).map (ie .u8)))]) (hE : E.length = n0) (hE2 : n0 ≤ 1000000) (hne : nl E = nl l) : Fn1 Tryz.prog 17 [.row 1 ((nl l).map (ie .u8))] [] (.tup [itA 0, .lit (.int .i64 0)]) [some (caC 1 k a b), some (vcC 2 n (wd k a b)), some (vcR n (wd k a b) (packN (wd k a b) (m.map (nuO k a b))))] := by
  have op := open_fn hl (by omega) h4 hs
  have hIB : IsB (nl (inb l)) := IsB_nl fun x hx => hl x (List.mem_of_mem_take hx)
  have hlb : (nl (inb l)).length = l.length - 4 := by rw [nl_len]; unfold inb; simp
  change Fn1 _ _ _ _ (.tup [.row 1 ((nl (inb l)).map (ie .u8)), _]) _ at op
  have hnl := nl_len l
  generalize nl (inb l) = B at *
  generalize nl l = N at *
  have hbl := bitsOf_len B
  have rd := read_fn (B := B) (by omega)
  have n4 := brnum_fn (B := B) (p := 0) (w := 4) hIB (by omega) (by decide) (by omega)
  have n3 := brnum_fn (B := B) (p := 4) (w := 3) hIB (by omega) (by decide) (by omega)
  rw [show ((4 : Nat) : Int) = 4 from rfl] at n4
  rw [show ((3 : Nat) : Int) = 3 from rfl] at n3
  rw [List.drop_zero] at n4
  have ht7 := numOf_take_lt ((bitsOf B).drop 4) 3
  rw [hv] at n4
  rw [ht] at n3
  rw [show ((2 : Nat) : Int) = 2 from rfl] at n3
  have cl := close_fn (B := B) (p := q) hIB (by omega) (by omega)
  have ck := ckAP_fn (k := k) (a := a) (b := b) (n := n) (l := m)
  have hlw := words_len (nwd n (wd k a b)) (packN (wd k a b) (m.map (nuO k a b)))
  have hEl := nl_len E
  have eq := equalB_fn (A := nl E) (B := N) (by omega) (by omega)
  rw [decide_eq_true hne] at eq
  rw [hc] at cl
  refine fn1N_of pl17 (by kernel_rfl) Tryz.call17 Tryz.func17 rfl (by kernel_rfl) rfl [.cell 2 52, .tmp 3] (by kernel_rfl) fun Q hQ => ?_
  refine runW ?_
  refine callV0 (op) rfl rfl ?_
  refine runW ?_
  refine callW [] [] (rd) ?_
  refine runW ?_
  refine callW [some 1] [] (n4) ?_
  refine runW ?_
  refine callW [some 1] [] (n3) ?_
  refine runW ?_
  refine callW [some 2, some 1] [] (hb) ?_
  refine runW ?_
  refine callW [some 1] [] (cl) ?_
  refine runW ?_
  refine callT (ck) ?_
  refine runW ?_
  refine callF (en) ?_
  refine runW ?_
  refine callT (eq) ?_
  refine runW ?_
  exact endW [some 3, some 4, some 5] hQ

theorem decS_close {l : List Nat} (hl : ∀ x ∈ l, x < 256) (h4 : 4 ≤ l.length) (hm : l.length ≤ 4096) (hs : sealN (l.take (l.length - 4)) = l) (h0 : 4 < l.length) (hv : numOf ((bitsOf (nl (inb l))).take 4) = 1) (ht : numOf (((bitsOf (nl (inb l))).drop 4).take 3) = 3) {M D S : Nat} {st : SS} {q : Nat}  (hq : q ≤ 8 * (l.length - 4)) (hc : closeX (bitsOf (nl (inb l))) q ≠ 0) (hb : Fn1 Tryz.prog 38 [.ref 0 0 0 0, .lit (.int .i64 (3 : Int))] [some (wrdC 1 0), some (rdC (nl (inb l)) 7)] (itS 2) [some (wrdC 1 0), some (rdC (nl (inb l)) q), some (saC M D S st)]) : Fn1 Tryz.prog 17 [.row 1 ((nl l).map (ie .u8))] [] (.tup [itN 0, .lit (.int .i64 13)]) [] := by
  have op := open_fn hl (by omega) h4 hs
  have hIB : IsB (nl (inb l)) := IsB_nl fun x hx => hl x (List.mem_of_mem_take hx)
  have hlb : (nl (inb l)).length = l.length - 4 := by rw [nl_len]; unfold inb; simp
  change Fn1 _ _ _ _ (.tup [.row 1 ((nl (inb l)).map (ie .u8)), _]) _ at op
  have hnl := nl_len l
  generalize nl (inb l) = B at *
  generalize nl l = N at *
  have hbl := bitsOf_len B
  have rd := read_fn (B := B) (by omega)
  have n4 := brnum_fn (B := B) (p := 0) (w := 4) hIB (by omega) (by decide) (by omega)
  have n3 := brnum_fn (B := B) (p := 4) (w := 3) hIB (by omega) (by decide) (by omega)
  rw [show ((4 : Nat) : Int) = 4 from rfl] at n4
  rw [show ((3 : Nat) : Int) = 3 from rfl] at n3
  rw [List.drop_zero] at n4
  have ht7 := numOf_take_lt ((bitsOf B).drop 4) 3
  rw [hv] at n4
  rw [ht] at n3
  rw [show ((3 : Nat) : Int) = 3 from rfl] at n3
  have cl := close_fn (B := B) (p := q) hIB (by omega) (by omega)
  have ck := ckSP_fn (M := M) (D := D) (S := S) (st := st)
  refine fn1N_of pl17 (by kernel_rfl) Tryz.call17 Tryz.func17 rfl (by kernel_rfl) rfl [.cell 2 52, .tmp 3] (by kernel_rfl) fun Q hQ => ?_
  refine runW ?_
  refine callV0 (op) rfl rfl ?_
  refine runW ?_
  refine callW [] [] (rd) ?_
  refine runW ?_
  refine callW [some 1] [] (n4) ?_
  refine runW ?_
  refine callW [some 1] [] (n3) ?_
  refine runW ?_
  refine callW [some 2, some 1] [] (hb) ?_
  refine runW ?_
  refine callW [some 1] [] (cl) ?_
  refine runW ?_
  exact endW [] hQ

theorem decS_other {l : List Nat} (hl : ∀ x ∈ l, x < 256) (h4 : 4 ≤ l.length) (hm : l.length ≤ 4096) (hs : sealN (l.take (l.length - 4)) = l) (h0 : 4 < l.length) (hv : numOf ((bitsOf (nl (inb l))).take 4) = 1) (ht : numOf (((bitsOf (nl (inb l))).drop 4).take 3) = 3) {M D S : Nat} {st : SS} {q n0 : Nat} {E : List Nat}  (hq : q ≤ 8 * (l.length - 4)) (hc : closeX (bitsOf (nl (inb l))) q = 0) (hb : Fn1 Tryz.prog 38 [.ref 0 0 0 0, .lit (.int .i64 (3 : Int))] [some (wrdC 1 0), some (rdC (nl (inb l)) 7)] (itS 2) [some (wrdC 1 0), some (rdC (nl (inb l)) q), some (saC M D S st)]) (en : Fn1 Tryz.prog 12 [itSP M D S st] [] (.tup [.sl 0 1 0 n0, .lit (.int .i64 0)]) [some (.row 1 ((nl E).map (ie .u8)))]) (hE : E.length = n0) (hE2 : n0 ≤ 1000000) (hne : nl E ≠ nl l) : Fn1 Tryz.prog 17 [.row 1 ((nl l).map (ie .u8))] [] (.tup [itN 0, .lit (.int .i64 13)]) [] := by
  have op := open_fn hl (by omega) h4 hs
  have hIB : IsB (nl (inb l)) := IsB_nl fun x hx => hl x (List.mem_of_mem_take hx)
  have hlb : (nl (inb l)).length = l.length - 4 := by rw [nl_len]; unfold inb; simp
  change Fn1 _ _ _ _ (.tup [.row 1 ((nl (inb l)).map (ie .u8)), _]) _ at op
  have hnl := nl_len l
  generalize nl (inb l) = B at *
  generalize nl l = N at *
  have hbl := bitsOf_len B
  have rd := read_fn (B := B) (by omega)
  have n4 := brnum_fn (B := B) (p := 0) (w := 4) hIB (by omega) (by decide) (by omega)
  have n3 := brnum_fn (B := B) (p := 4) (w := 3) hIB (by omega) (by decide) (by omega)
  rw [show ((4 : Nat) : Int) = 4 from rfl] at n4
  rw [show ((3 : Nat) : Int) = 3 from rfl] at n3
  rw [List.drop_zero] at n4
  have ht7 := numOf_take_lt ((bitsOf B).drop 4) 3
  rw [hv] at n4
  rw [ht] at n3
  rw [show ((3 : Nat) : Int) = 3 from rfl] at n3
  have cl := close_fn (B := B) (p := q) hIB (by omega) (by omega)
  have ck := ckSP_fn (M := M) (D := D) (S := S) (st := st)
  have hEl := nl_len E
  have eq := equalB_fn (A := nl E) (B := N) (by omega) (by omega)
  rw [decide_eq_false hne] at eq
  rw [hc] at cl
  refine fn1N_of pl17 (by kernel_rfl) Tryz.call17 Tryz.func17 rfl (by kernel_rfl) rfl [.cell 2 52, .tmp 3] (by kernel_rfl) fun Q hQ => ?_
  refine runW ?_
  refine callV0 (op) rfl rfl ?_
  refine runW ?_
  refine callW [] [] (rd) ?_
  refine runW ?_
  refine callW [some 1] [] (n4) ?_
  refine runW ?_
  refine callW [some 1] [] (n3) ?_
  refine runW ?_
  refine callW [some 2, some 1] [] (hb) ?_
  refine runW ?_
  refine callW [some 1] [] (cl) ?_
  refine runW ?_
  refine callT (ck) ?_
  refine runW ?_
  refine callF (en) ?_
  refine runW ?_
  refine callT (eq) ?_
  refine runW ?_
  exact endW [] hQ

theorem decS_ok {l : List Nat} (hl : ∀ x ∈ l, x < 256) (h4 : 4 ≤ l.length) (hm : l.length ≤ 4096) (hs : sealN (l.take (l.length - 4)) = l) (h0 : 4 < l.length) (hv : numOf ((bitsOf (nl (inb l))).take 4) = 1) (ht : numOf (((bitsOf (nl (inb l))).drop 4).take 3) = 3) {M D S : Nat} {st : SS} {q n0 : Nat} {E : List Nat}  (hq : q ≤ 8 * (l.length - 4)) (hc : closeX (bitsOf (nl (inb l))) q = 0) (hb : Fn1 Tryz.prog 38 [.ref 0 0 0 0, .lit (.int .i64 (3 : Int))] [some (wrdC 1 0), some (rdC (nl (inb l)) 7)] (itS 2) [some (wrdC 1 0), some (rdC (nl (inb l)) q), some (saC M D S st)]) (en : Fn1 Tryz.prog 12 [itSP M D S st] [] (.tup [.sl 0 1 0 n0, .lit (.int .i64 0)]) [some (.row 1 ((nl E).map (ie .u8)))]) (hE : E.length = n0) (hE2 : n0 ≤ 1000000) (hne : nl E = nl l) : Fn1 Tryz.prog 17 [.row 1 ((nl l).map (ie .u8))] [] (.tup [itS 0, .lit (.int .i64 0)]) [some (saC M D S st)] := by
  have op := open_fn hl (by omega) h4 hs
  have hIB : IsB (nl (inb l)) := IsB_nl fun x hx => hl x (List.mem_of_mem_take hx)
  have hlb : (nl (inb l)).length = l.length - 4 := by rw [nl_len]; unfold inb; simp
  change Fn1 _ _ _ _ (.tup [.row 1 ((nl (inb l)).map (ie .u8)), _]) _ at op
  have hnl := nl_len l
  generalize nl (inb l) = B at *
  generalize nl l = N at *
  have hbl := bitsOf_len B
  have rd := read_fn (B := B) (by omega)
  have n4 := brnum_fn (B := B) (p := 0) (w := 4) hIB (by omega) (by decide) (by omega)
  have n3 := brnum_fn (B := B) (p := 4) (w := 3) hIB (by omega) (by decide) (by omega)
  rw [show ((4 : Nat) : Int) = 4 from rfl] at n4
  rw [show ((3 : Nat) : Int) = 3 from rfl] at n3
  rw [List.drop_zero] at n4
  have ht7 := numOf_take_lt ((bitsOf B).drop 4) 3
  rw [hv] at n4
  rw [ht] at n3
  rw [show ((3 : Nat) : Int) = 3 from rfl] at n3
  have cl := close_fn (B := B) (p := q) hIB (by omega) (by omega)
  have ck := ckSP_fn (M := M) (D := D) (S := S) (st := st)
  have hEl := nl_len E
  have eq := equalB_fn (A := nl E) (B := N) (by omega) (by omega)
  rw [decide_eq_true hne] at eq
  rw [hc] at cl
  refine fn1N_of pl17 (by kernel_rfl) Tryz.call17 Tryz.func17 rfl (by kernel_rfl) rfl [.cell 2 52, .tmp 3] (by kernel_rfl) fun Q hQ => ?_
  refine runW ?_
  refine callV0 (op) rfl rfl ?_
  refine runW ?_
  refine callW [] [] (rd) ?_
  refine runW ?_
  refine callW [some 1] [] (n4) ?_
  refine runW ?_
  refine callW [some 1] [] (n3) ?_
  refine runW ?_
  refine callW [some 2, some 1] [] (hb) ?_
  refine runW ?_
  refine callW [some 1] [] (cl) ?_
  refine runW ?_
  refine callT (ck) ?_
  refine runW ?_
  refine callF (en) ?_
  refine runW ?_
  refine callT (eq) ?_
  refine runW ?_
  exact endW [some 3] hQ

theorem decC_close {l : List Nat} (hl : ∀ x ∈ l, x < 256) (h4 : 4 ≤ l.length) (hm : l.length ≤ 4096) (hs : sealN (l.take (l.length - 4)) = l) (h0 : 4 < l.length) (hv : numOf ((bitsOf (nl (inb l))).take 4) = 1) (ht : numOf (((bitsOf (nl (inb l))).drop 4).take 3) = 4) {r0 c0 k a b T : Nat} {m : List RW} {q : Nat}  (hq : q ≤ 8 * (l.length - 4)) (hc : closeX (bitsOf (nl (inb l))) q ≠ 0) (hb : Fn1 Tryz.prog 38 [.ref 0 0 0 0, .lit (.int .i64 (4 : Int))] [some (wrdC 1 0), some (rdC (nl (inb l)) 7)] (itC 2) [some (wrdC 1 0), some (rdC (nl (inb l)) q), some (cmC r0 c0 k a b m T)]) : Fn1 Tryz.prog 17 [.row 1 ((nl l).map (ie .u8))] [] (.tup [itN 0, .lit (.int .i64 13)]) [] := by
  have op := open_fn hl (by omega) h4 hs
  have hIB : IsB (nl (inb l)) := IsB_nl fun x hx => hl x (List.mem_of_mem_take hx)
  have hlb : (nl (inb l)).length = l.length - 4 := by rw [nl_len]; unfold inb; simp
  change Fn1 _ _ _ _ (.tup [.row 1 ((nl (inb l)).map (ie .u8)), _]) _ at op
  have hnl := nl_len l
  generalize nl (inb l) = B at *
  generalize nl l = N at *
  have hbl := bitsOf_len B
  have rd := read_fn (B := B) (by omega)
  have n4 := brnum_fn (B := B) (p := 0) (w := 4) hIB (by omega) (by decide) (by omega)
  have n3 := brnum_fn (B := B) (p := 4) (w := 3) hIB (by omega) (by decide) (by omega)
  rw [show ((4 : Nat) : Int) = 4 from rfl] at n4
  rw [show ((3 : Nat) : Int) = 3 from rfl] at n3
  rw [List.drop_zero] at n4
  have ht7 := numOf_take_lt ((bitsOf B).drop 4) 3
  rw [hv] at n4
  rw [ht] at n3
  rw [show ((4 : Nat) : Int) = 4 from rfl] at n3
  have cl := close_fn (B := B) (p := q) hIB (by omega) (by omega)
  have ck := ckCP_fn (R := r0) (C := c0) (k := k) (a := a) (b := b) (T := T) (l := m)
  refine fn1N_of pl17 (by kernel_rfl) Tryz.call17 Tryz.func17 rfl (by kernel_rfl) rfl [.cell 2 52, .tmp 3] (by kernel_rfl) fun Q hQ => ?_
  refine runW ?_
  refine callV0 (op) rfl rfl ?_
  refine runW ?_
  refine callW [] [] (rd) ?_
  refine runW ?_
  refine callW [some 1] [] (n4) ?_
  refine runW ?_
  refine callW [some 1] [] (n3) ?_
  refine runW ?_
  refine callW [some 2, some 1] [] (hb) ?_
  refine runW ?_
  refine callW [some 1] [] (cl) ?_
  refine runW ?_
  exact endW [] hQ

theorem decC_other {l : List Nat} (hl : ∀ x ∈ l, x < 256) (h4 : 4 ≤ l.length) (hm : l.length ≤ 4096) (hs : sealN (l.take (l.length - 4)) = l) (h0 : 4 < l.length) (hv : numOf ((bitsOf (nl (inb l))).take 4) = 1) (ht : numOf (((bitsOf (nl (inb l))).drop 4).take 3) = 4) {r0 c0 k a b T : Nat} {m : List RW} {q n0 : Nat} {E : List Nat}  (hq : q ≤ 8 * (l.length - 4)) (hc : closeX (bitsOf (nl (inb l))) q = 0) (hb : Fn1 Tryz.prog 38 [.ref 0 0 0 0, .lit (.int .i64 (4 : Int))] [some (wrdC 1 0), some (rdC (nl (inb l)) 7)] (itC 2) [some (wrdC 1 0), some (rdC (nl (inb l)) q), some (cmC r0 c0 k a b m T)]) (en : Fn1 Tryz.prog 12 [itCP r0 c0 k a b m T] [] (.tup [.sl 0 1 0 n0, .lit (.int .i64 0)]) [some (.row 1 ((nl E).map (ie .u8)))]) (hE : E.length = n0) (hE2 : n0 ≤ 1000000) (hne : nl E ≠ nl l) : Fn1 Tryz.prog 17 [.row 1 ((nl l).map (ie .u8))] [] (.tup [itN 0, .lit (.int .i64 13)]) [] := by
  have op := open_fn hl (by omega) h4 hs
  have hIB : IsB (nl (inb l)) := IsB_nl fun x hx => hl x (List.mem_of_mem_take hx)
  have hlb : (nl (inb l)).length = l.length - 4 := by rw [nl_len]; unfold inb; simp
  change Fn1 _ _ _ _ (.tup [.row 1 ((nl (inb l)).map (ie .u8)), _]) _ at op
  have hnl := nl_len l
  generalize nl (inb l) = B at *
  generalize nl l = N at *
  have hbl := bitsOf_len B
  have rd := read_fn (B := B) (by omega)
  have n4 := brnum_fn (B := B) (p := 0) (w := 4) hIB (by omega) (by decide) (by omega)
  have n3 := brnum_fn (B := B) (p := 4) (w := 3) hIB (by omega) (by decide) (by omega)
  rw [show ((4 : Nat) : Int) = 4 from rfl] at n4
  rw [show ((3 : Nat) : Int) = 3 from rfl] at n3
  rw [List.drop_zero] at n4
  have ht7 := numOf_take_lt ((bitsOf B).drop 4) 3
  rw [hv] at n4
  rw [ht] at n3
  rw [show ((4 : Nat) : Int) = 4 from rfl] at n3
  have cl := close_fn (B := B) (p := q) hIB (by omega) (by omega)
  have ck := ckCP_fn (R := r0) (C := c0) (k := k) (a := a) (b := b) (T := T) (l := m)
  have hEl := nl_len E
  have eq := equalB_fn (A := nl E) (B := N) (by omega) (by omega)
  rw [decide_eq_false hne] at eq
  rw [hc] at cl
  refine fn1N_of pl17 (by kernel_rfl) Tryz.call17 Tryz.func17 rfl (by kernel_rfl) rfl [.cell 2 52, .tmp 3] (by kernel_rfl) fun Q hQ => ?_
  refine runW ?_
  refine callV0 (op) rfl rfl ?_
  refine runW ?_
  refine callW [] [] (rd) ?_
  refine runW ?_
  refine callW [some 1] [] (n4) ?_
  refine runW ?_
  refine callW [some 1] [] (n3) ?_
  refine runW ?_
  refine callW [some 2, some 1] [] (hb) ?_
  refine runW ?_
  refine callW [some 1] [] (cl) ?_
  refine runW ?_
  refine callT (ck) ?_
  refine runW ?_
  refine callF (en) ?_
  refine runW ?_
  refine callT (eq) ?_
  refine runW ?_
  exact endW [] hQ

theorem decC_ok {l : List Nat} (hl : ∀ x ∈ l, x < 256) (h4 : 4 ≤ l.length) (hm : l.length ≤ 4096) (hs : sealN (l.take (l.length - 4)) = l) (h0 : 4 < l.length) (hv : numOf ((bitsOf (nl (inb l))).take 4) = 1) (ht : numOf (((bitsOf (nl (inb l))).drop 4).take 3) = 4) {r0 c0 k a b T : Nat} {m : List RW} {q n0 : Nat} {E : List Nat}  (hq : q ≤ 8 * (l.length - 4)) (hc : closeX (bitsOf (nl (inb l))) q = 0) (hb : Fn1 Tryz.prog 38 [.ref 0 0 0 0, .lit (.int .i64 (4 : Int))] [some (wrdC 1 0), some (rdC (nl (inb l)) 7)] (itC 2) [some (wrdC 1 0), some (rdC (nl (inb l)) q), some (cmC r0 c0 k a b m T)]) (en : Fn1 Tryz.prog 12 [itCP r0 c0 k a b m T] [] (.tup [.sl 0 1 0 n0, .lit (.int .i64 0)]) [some (.row 1 ((nl E).map (ie .u8)))]) (hE : E.length = n0) (hE2 : n0 ≤ 1000000) (hne : nl E = nl l) : Fn1 Tryz.prog 17 [.row 1 ((nl l).map (ie .u8))] [] (.tup [itC 0, .lit (.int .i64 0)]) [some (cmC r0 c0 k a b m T)] := by
  have op := open_fn hl (by omega) h4 hs
  have hIB : IsB (nl (inb l)) := IsB_nl fun x hx => hl x (List.mem_of_mem_take hx)
  have hlb : (nl (inb l)).length = l.length - 4 := by rw [nl_len]; unfold inb; simp
  change Fn1 _ _ _ _ (.tup [.row 1 ((nl (inb l)).map (ie .u8)), _]) _ at op
  have hnl := nl_len l
  generalize nl (inb l) = B at *
  generalize nl l = N at *
  have hbl := bitsOf_len B
  have rd := read_fn (B := B) (by omega)
  have n4 := brnum_fn (B := B) (p := 0) (w := 4) hIB (by omega) (by decide) (by omega)
  have n3 := brnum_fn (B := B) (p := 4) (w := 3) hIB (by omega) (by decide) (by omega)
  rw [show ((4 : Nat) : Int) = 4 from rfl] at n4
  rw [show ((3 : Nat) : Int) = 3 from rfl] at n3
  rw [List.drop_zero] at n4
  have ht7 := numOf_take_lt ((bitsOf B).drop 4) 3
  rw [hv] at n4
  rw [ht] at n3
  rw [show ((4 : Nat) : Int) = 4 from rfl] at n3
  have cl := close_fn (B := B) (p := q) hIB (by omega) (by omega)
  have ck := ckCP_fn (R := r0) (C := c0) (k := k) (a := a) (b := b) (T := T) (l := m)
  have hEl := nl_len E
  have eq := equalB_fn (A := nl E) (B := N) (by omega) (by omega)
  rw [decide_eq_true hne] at eq
  rw [hc] at cl
  refine fn1N_of pl17 (by kernel_rfl) Tryz.call17 Tryz.func17 rfl (by kernel_rfl) rfl [.cell 2 52, .tmp 3] (by kernel_rfl) fun Q hQ => ?_
  refine runW ?_
  refine callV0 (op) rfl rfl ?_
  refine runW ?_
  refine callW [] [] (rd) ?_
  refine runW ?_
  refine callW [some 1] [] (n4) ?_
  refine runW ?_
  refine callW [some 1] [] (n3) ?_
  refine runW ?_
  refine callW [some 2, some 1] [] (hb) ?_
  refine runW ?_
  refine callW [some 1] [] (cl) ?_
  refine runW ?_
  refine callT (ck) ?_
  refine runW ?_
  refine callF (en) ?_
  refine runW ?_
  refine callT (eq) ?_
  refine runW ?_
  exact endW [some 3] hQ

theorem decM_close {l : List Nat} (hl : ∀ x ∈ l, x < 256) (h4 : 4 ≤ l.length) (hm : l.length ≤ 4096) (hs : sealN (l.take (l.length - 4)) = l) (h0 : 4 < l.length) (hv : numOf ((bitsOf (nl (inb l))).take 4) = 1) (ht : numOf (((bitsOf (nl (inb l))).drop 4).take 3) = 5) {K P C T : Nat} {X : List (Nat × Nat)} {q : Nat}  (hq : q ≤ 8 * (l.length - 4)) (hc : closeX (bitsOf (nl (inb l))) q ≠ 0) (hb : Fn1 Tryz.prog 38 [.ref 0 0 0 0, .lit (.int .i64 (5 : Int))] [some (wrdC 1 0), some (rdC (nl (inb l)) 7)] (itM 2) [some (wrdC 1 0), some (rdC (nl (inb l)) q), some (amC (K : Int) (P : Int) (C : Int) X T)]) : Fn1 Tryz.prog 17 [.row 1 ((nl l).map (ie .u8))] [] (.tup [itN 0, .lit (.int .i64 13)]) [] := by
  have op := open_fn hl (by omega) h4 hs
  have hIB : IsB (nl (inb l)) := IsB_nl fun x hx => hl x (List.mem_of_mem_take hx)
  have hlb : (nl (inb l)).length = l.length - 4 := by rw [nl_len]; unfold inb; simp
  change Fn1 _ _ _ _ (.tup [.row 1 ((nl (inb l)).map (ie .u8)), _]) _ at op
  have hnl := nl_len l
  generalize nl (inb l) = B at *
  generalize nl l = N at *
  have hbl := bitsOf_len B
  have rd := read_fn (B := B) (by omega)
  have n4 := brnum_fn (B := B) (p := 0) (w := 4) hIB (by omega) (by decide) (by omega)
  have n3 := brnum_fn (B := B) (p := 4) (w := 3) hIB (by omega) (by decide) (by omega)
  rw [show ((4 : Nat) : Int) = 4 from rfl] at n4
  rw [show ((3 : Nat) : Int) = 3 from rfl] at n3
  rw [List.drop_zero] at n4
  have ht7 := numOf_take_lt ((bitsOf B).drop 4) 3
  rw [hv] at n4
  rw [ht] at n3
  rw [show ((5 : Nat) : Int) = 5 from rfl] at n3
  have cl := close_fn (B := B) (p := q) hIB (by omega) (by omega)
  have ck := ckMP_fn (K := K) (P := P) (C := C) (T := T) (X := X)
  refine fn1N_of pl17 (by kernel_rfl) Tryz.call17 Tryz.func17 rfl (by kernel_rfl) rfl [.cell 2 52, .tmp 3] (by kernel_rfl) fun Q hQ => ?_
  refine runW ?_
  refine callV0 (op) rfl rfl ?_
  refine runW ?_
  refine callW [] [] (rd) ?_
  refine runW ?_
  refine callW [some 1] [] (n4) ?_
  refine runW ?_
  refine callW [some 1] [] (n3) ?_
  refine runW ?_
  refine callW [some 2, some 1] [] (hb) ?_
  refine runW ?_
  refine callW [some 1] [] (cl) ?_
  refine runW ?_
  exact endW [] hQ

theorem decM_other {l : List Nat} (hl : ∀ x ∈ l, x < 256) (h4 : 4 ≤ l.length) (hm : l.length ≤ 4096) (hs : sealN (l.take (l.length - 4)) = l) (h0 : 4 < l.length) (hv : numOf ((bitsOf (nl (inb l))).take 4) = 1) (ht : numOf (((bitsOf (nl (inb l))).drop 4).take 3) = 5) {K P C T : Nat} {X : List (Nat × Nat)} {q n0 : Nat} {E : List Nat}  (hq : q ≤ 8 * (l.length - 4)) (hc : closeX (bitsOf (nl (inb l))) q = 0) (hb : Fn1 Tryz.prog 38 [.ref 0 0 0 0, .lit (.int .i64 (5 : Int))] [some (wrdC 1 0), some (rdC (nl (inb l)) 7)] (itM 2) [some (wrdC 1 0), some (rdC (nl (inb l)) q), some (amC (K : Int) (P : Int) (C : Int) X T)]) (en : Fn1 Tryz.prog 12 [itMP K P C X T] [] (.tup [.sl 0 1 0 n0, .lit (.int .i64 0)]) [some (.row 1 ((nl E).map (ie .u8)))]) (hE : E.length = n0) (hE2 : n0 ≤ 1000000) (hne : nl E ≠ nl l) : Fn1 Tryz.prog 17 [.row 1 ((nl l).map (ie .u8))] [] (.tup [itN 0, .lit (.int .i64 13)]) [] := by
  have op := open_fn hl (by omega) h4 hs
  have hIB : IsB (nl (inb l)) := IsB_nl fun x hx => hl x (List.mem_of_mem_take hx)
  have hlb : (nl (inb l)).length = l.length - 4 := by rw [nl_len]; unfold inb; simp
  change Fn1 _ _ _ _ (.tup [.row 1 ((nl (inb l)).map (ie .u8)), _]) _ at op
  have hnl := nl_len l
  generalize nl (inb l) = B at *
  generalize nl l = N at *
  have hbl := bitsOf_len B
  have rd := read_fn (B := B) (by omega)
  have n4 := brnum_fn (B := B) (p := 0) (w := 4) hIB (by omega) (by decide) (by omega)
  have n3 := brnum_fn (B := B) (p := 4) (w := 3) hIB (by omega) (by decide) (by omega)
  rw [show ((4 : Nat) : Int) = 4 from rfl] at n4
  rw [show ((3 : Nat) : Int) = 3 from rfl] at n3
  rw [List.drop_zero] at n4
  have ht7 := numOf_take_lt ((bitsOf B).drop 4) 3
  rw [hv] at n4
  rw [ht] at n3
  rw [show ((5 : Nat) : Int) = 5 from rfl] at n3
  have cl := close_fn (B := B) (p := q) hIB (by omega) (by omega)
  have ck := ckMP_fn (K := K) (P := P) (C := C) (T := T) (X := X)
  have hEl := nl_len E
  have eq := equalB_fn (A := nl E) (B := N) (by omega) (by omega)
  rw [decide_eq_false hne] at eq
  rw [hc] at cl
  refine fn1N_of pl17 (by kernel_rfl) Tryz.call17 Tryz.func17 rfl (by kernel_rfl) rfl [.cell 2 52, .tmp 3] (by kernel_rfl) fun Q hQ => ?_
  refine runW ?_
  refine callV0 (op) rfl rfl ?_
  refine runW ?_
  refine callW [] [] (rd) ?_
  refine runW ?_
  refine callW [some 1] [] (n4) ?_
  refine runW ?_
  refine callW [some 1] [] (n3) ?_
  refine runW ?_
  refine callW [some 2, some 1] [] (hb) ?_
  refine runW ?_
  refine callW [some 1] [] (cl) ?_
  refine runW ?_
  refine callT (ck) ?_
  refine runW ?_
  refine callF (en) ?_
  refine runW ?_
  refine callT (eq) ?_
  refine runW ?_
  exact endW [] hQ

theorem decM_ok {l : List Nat} (hl : ∀ x ∈ l, x < 256) (h4 : 4 ≤ l.length) (hm : l.length ≤ 4096) (hs : sealN (l.take (l.length - 4)) = l) (h0 : 4 < l.length) (hv : numOf ((bitsOf (nl (inb l))).take 4) = 1) (ht : numOf (((bitsOf (nl (inb l))).drop 4).take 3) = 5) {K P C T : Nat} {X : List (Nat × Nat)} {q n0 : Nat} {E : List Nat}  (hq : q ≤ 8 * (l.length - 4)) (hc : closeX (bitsOf (nl (inb l))) q = 0) (hb : Fn1 Tryz.prog 38 [.ref 0 0 0 0, .lit (.int .i64 (5 : Int))] [some (wrdC 1 0), some (rdC (nl (inb l)) 7)] (itM 2) [some (wrdC 1 0), some (rdC (nl (inb l)) q), some (amC (K : Int) (P : Int) (C : Int) X T)]) (en : Fn1 Tryz.prog 12 [itMP K P C X T] [] (.tup [.sl 0 1 0 n0, .lit (.int .i64 0)]) [some (.row 1 ((nl E).map (ie .u8)))]) (hE : E.length = n0) (hE2 : n0 ≤ 1000000) (hne : nl E = nl l) : Fn1 Tryz.prog 17 [.row 1 ((nl l).map (ie .u8))] [] (.tup [itM 0, .lit (.int .i64 0)]) [some (amC (K : Int) (P : Int) (C : Int) X T)] := by
  have op := open_fn hl (by omega) h4 hs
  have hIB : IsB (nl (inb l)) := IsB_nl fun x hx => hl x (List.mem_of_mem_take hx)
  have hlb : (nl (inb l)).length = l.length - 4 := by rw [nl_len]; unfold inb; simp
  change Fn1 _ _ _ _ (.tup [.row 1 ((nl (inb l)).map (ie .u8)), _]) _ at op
  have hnl := nl_len l
  generalize nl (inb l) = B at *
  generalize nl l = N at *
  have hbl := bitsOf_len B
  have rd := read_fn (B := B) (by omega)
  have n4 := brnum_fn (B := B) (p := 0) (w := 4) hIB (by omega) (by decide) (by omega)
  have n3 := brnum_fn (B := B) (p := 4) (w := 3) hIB (by omega) (by decide) (by omega)
  rw [show ((4 : Nat) : Int) = 4 from rfl] at n4
  rw [show ((3 : Nat) : Int) = 3 from rfl] at n3
  rw [List.drop_zero] at n4
  have ht7 := numOf_take_lt ((bitsOf B).drop 4) 3
  rw [hv] at n4
  rw [ht] at n3
  rw [show ((5 : Nat) : Int) = 5 from rfl] at n3
  have cl := close_fn (B := B) (p := q) hIB (by omega) (by omega)
  have ck := ckMP_fn (K := K) (P := P) (C := C) (T := T) (X := X)
  have hEl := nl_len E
  have eq := equalB_fn (A := nl E) (B := N) (by omega) (by omega)
  rw [decide_eq_true hne] at eq
  rw [hc] at cl
  refine fn1N_of pl17 (by kernel_rfl) Tryz.call17 Tryz.func17 rfl (by kernel_rfl) rfl [.cell 2 52, .tmp 3] (by kernel_rfl) fun Q hQ => ?_
  refine runW ?_
  refine callV0 (op) rfl rfl ?_
  refine runW ?_
  refine callW [] [] (rd) ?_
  refine runW ?_
  refine callW [some 1] [] (n4) ?_
  refine runW ?_
  refine callW [some 1] [] (n3) ?_
  refine runW ?_
  refine callW [some 2, some 1] [] (hb) ?_
  refine runW ?_
  refine callW [some 1] [] (cl) ?_
  refine runW ?_
  refine callT (ck) ?_
  refine runW ?_
  refine callF (en) ?_
  refine runW ?_
  refine callT (eq) ?_
  refine runW ?_
  exact endW [some 3] hQ

end Go.Proofs.YteookgjmohokiaaGreat
