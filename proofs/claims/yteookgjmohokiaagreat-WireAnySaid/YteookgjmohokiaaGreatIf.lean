import Derived.Test.YteookgjmohokiaaGreatHe
import Derived.Test.YteookgjmohokiaaGreatOc
import Derived.Test.YteookgjmohokiaaGreatOh
namespace Go.Proofs.YteookgjmohokiaaGreat
open Go.Eng Go.Vx
set_option linter.unusedSimpArgs false
set_option linter.unusedVariables false
set_option maxRecDepth 100000
theorem cNewB2_fn {k a b : Nat} {n : Int} (h : goodN k a b) (hn : n < 1 ∨ 256 < n) : Fn1 Tryz.prog 33 [pR k a b, .lit (.int .i64 n)] [] (.tup [.lit (.pointer none), .lit (.int .i64 10)]) [] := by
  have rc := rCheck_fn h
  refine fn1N_of pl33 (by kernel_rfl) Tryz.call33 Tryz.func33 rfl (by kernel_rfl) rfl [.tmp 4, .tmp 5] (by kernel_rfl) fun Q hQ => ?_
  by_cases h1 : n < 1
  · refine runW ?_
    refine callV0 (rc) rfl rfl ?_
    refine runW ?_
    exact endW [] hQ
  · have h2 : 256 < n := by omega
    refine runW ?_
    refine callV0 (rc) rfl rfl ?_
    refine runW ?_
    exact endW [] hQ
theorem cNewE_fn {k a b n : Int} (h : ¬ (goodI k a b ∧ 1 ≤ n ∧ n ≤ 256)) : Fn1 Tryz.prog 33 [.agg [.lit (.int .i64 k), .lit (.int .i64 a), .lit (.int .i64 b)], .lit (.int .i64 n)] [] (.tup [.lit (.pointer none), .lit (.int .i64 10)]) [] := by
  by_cases hg : goodI k a b
  · have hn : n < 1 ∨ 256 < n := by
      refine Classical.byContradiction fun hc => h ⟨hg, by omega, by omega⟩
    obtain ⟨k', a', b', rfl, rfl, rfl, hg⟩ := hg
    exact cNewB2_fn hg hn
  · exact cNewB_fn hg
theorem cReadE_fn {k a b n : Int} {p : Nat} {B : List Int} (h : ¬ (goodI k a b ∧ 1 ≤ n ∧ n ≤ 256)) : Fn1 Tryz.prog 69 [.ref 0 0 0 0, .agg [.lit (.int .i64 k), .lit (.int .i64 a), .lit (.int .i64 b)], .lit (.int .i64 n)] [some (rdC B p)]
    (.tup [.lit (.pointer none), .lit (.int .i64 10)]) [some (rdC B p)] := by
  have cn := cNewE_fn h
  refine fn1N_of pl69 (by kernel_rfl) Tryz.call69 Tryz.func69 rfl (by kernel_rfl) rfl [.tmp 6, .tmp 7] (by kernel_rfl) fun Q hQ => ?_
  refine runW ?_
  refine callV0 (cn) rfl rfl ?_
  refine runW ?_
  exact endW [some 0] hQ
theorem rReadE_fn {k a b : Int} {p : Nat} {B : List Int} (h : ¬ goodI k a b) : Fn1 Tryz.prog 68 [.agg [.lit (.int .i64 k), .lit (.int .i64 a), .lit (.int .i64 b)], .ref 0 0 0 0] [some (rdC B p)]
    (.tup [stV none, .lit (.int .i64 10)]) [some (rdC B p)] := by
  have rc := rCheckB_fn h
  refine fn1N_of pl68 (by kernel_rfl) Tryz.call68 Tryz.func68 rfl (by kernel_rfl) rfl [.cell 4 45, .tmp 5] (by kernel_rfl) fun Q hQ => ?_
  refine runW ?_
  refine callV0 (rc) rfl rfl ?_
  refine runW ?_
  exact endW [some 0] hQ
theorem cmReadE_fn {R C k a b : Int} {p : Nat} {B : List Int} (h : ¬ goodC R C k a b) : Fn1 Tryz.prog 72 [.ref 0 0 0 0, .agg [.lit (.int .i64 R), .lit (.int .i64 C), .lit (.int .i64 k), .lit (.int .i64 a), .lit (.int .i64 b)]] [some (rdC B p)]
    (.tup [.lit (.pointer none), .lit (.int .i64 10)]) [some (rdC B p)] := by
  have rc := cmCheckB_fn h
  refine fn1N_of pl72 (by kernel_rfl) Tryz.call72 Tryz.func72 rfl (by kernel_rfl) rfl [.tmp 4, .tmp 5] (by kernel_rfl) fun Q hQ => ?_
  refine runW ?_
  refine callV0 (rc) rfl rfl ?_
  refine runW ?_
  exact endW [some 0] hQ
end Go.Proofs.YteookgjmohokiaaGreat

namespace Go.Proofs.YteookgjmohokiaaGreat
open Go.Eng Go.Vx
set_option linter.unusedSimpArgs false
set_option linter.unusedVariables false
set_option maxRecDepth 100000
theorem aReadE_fn {K P C : Int} {p : Nat} {B : List Int} (h : ¬ goodA K P C) : Fn1 Tryz.prog 73 [.ref 0 0 0 0, .agg [.lit (.int .i64 K), .lit (.int .i64 P), .lit (.int .i64 C)]] [some (rdC B p)]
    (.tup [.lit (.pointer none), .lit (.int .i64 10)]) [some (rdC B p)] := by
  have an := anewE_fn h
  refine fn1N_of pl73 (by kernel_rfl) Tryz.call73 Tryz.func73 rfl (by kernel_rfl) rfl [.tmp 4, .tmp 5] (by kernel_rfl) fun Q hQ => ?_
  refine runW ?_
  refine callV0 (an) rfl rfl ?_
  refine runW ?_
  exact endW [some 0] hQ
theorem sReadE_fn {M D S n : Int} {p : Nat} {B : List Int} (h : ¬ (goodS M D S ∧ 1 ≤ n ∧ n ≤ 256)) : Fn1 Tryz.prog 71 [.ref 0 0 0 0, .agg [.lit (.int .i64 M), .lit (.int .i64 D), .lit (.int .i64 S)], .lit (.int .i64 n)] [some (rdC B p)]
    (.tup [.lit (.pointer none), .lit (.int .i64 10)]) [some (rdC B p)] := by
  have sn := snewE_fn h
  refine fn1N_of pl71 (by kernel_rfl) Tryz.call71 Tryz.func71 rfl (by kernel_rfl) rfl [.tmp 6, .tmp 7] (by kernel_rfl) fun Q hQ => ?_
  refine runW ?_
  refine callV0 (sn) rfl rfl ?_
  refine runW ?_
  exact endW [some 0] hQ
end Go.Proofs.YteookgjmohokiaaGreat

namespace Go.Proofs.YteookgjmohokiaaGreat
open Go.Eng Go.Vx
set_option linter.unusedSimpArgs false
set_option linter.unusedVariables false
set_option maxRecDepth 100000
def itS (v : Nat) : V := .agg [.lit (.int .i64 3), .lit (.int .i64 0), .lit (.int .i64 0), .lit (.int .i64 0), .lit (.int .i64 0), .lit (.int .i64 0), .lit (.bool false), .lit (.pointer none), .ref v 0 0 0, .lit (.pointer none), .lit (.pointer none)]
def itM (v : Nat) : V := .agg [.lit (.int .i64 5), .lit (.int .i64 0), .lit (.int .i64 0), .lit (.int .i64 0), .lit (.int .i64 0), .lit (.int .i64 0), .lit (.bool false), .lit (.pointer none), .lit (.pointer none), .lit (.pointer none), .ref v 0 0 0]
attribute [go_sem] itS itM
theorem sParamP_fn {M D S : Nat} {st : SS} : Fn1 Tryz.prog 49 [saP M D S st] [] (pA M D S) [] := by
  refine fn1N_of pl49 (by kernel_rfl) Tryz.call49 Tryz.func49 rfl (by kernel_rfl) rfl [.cell 2 102] (by kernel_rfl) fun Q hQ => ?_
  refine runW ?_
  exact endW [] hQ
theorem sLenP_fn {M D S : Nat} {st : SS} : Fn1 Tryz.prog 50 [saP M D S st] [] (.lit (.int .i64 (st.1.length : Int))) [] := by
  refine fn1N_of pl50 (by kernel_rfl) Tryz.call50 Tryz.func50 rfl (by kernel_rfl) rfl [.tmp 2] (by kernel_rfl) fun Q hQ => ?_
  refine runW ?_
  exact endW [] hQ
theorem mParamP_fn {K P C : Int} {X : List (Nat × Nat)} {N : Nat} : Fn1 Tryz.prog 52 [amP K P C X N] [] (.agg [.lit (.int .i64 K), .lit (.int .i64 P), .lit (.int .i64 C)]) [] := by
  refine fn1N_of pl52 (by kernel_rfl) Tryz.call52 Tryz.func52 rfl (by kernel_rfl) rfl [.cell 2 108] (by kernel_rfl) fun Q hQ => ?_
  refine runW ?_
  exact endW [] hQ
end Go.Proofs.YteookgjmohokiaaGreat
