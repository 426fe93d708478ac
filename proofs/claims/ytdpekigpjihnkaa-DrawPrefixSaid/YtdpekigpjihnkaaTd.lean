import Derived.Test.YtdpekigpjihnkaaTc
/-! Package tallymarklaw11: what is asked of each tape. -/
namespace Go.Proofs.Ytdpekigpjihnkaa
open Go.Eng Go.Vx
set_option linter.unusedSimpArgs false
set_option linter.unusedVariables false
set_option maxRecDepth 100000
def askB (n : Nat) (L : List Bool) : Int × Int := (((belowX L n 0).1 : Int), (belowX L n 0).2.1)
theorem belowR_lt {L : List Bool} {n w : Nat} (hn : 0 < n) : ∀ f p, (belowR L n w f p).1 < n
  | 0, _ => hn
  | f + 1, p => by
    unfold belowR
    split
    · split
      · assumption
      · exact belowR_lt hn f _
    · exact hn
theorem askB_fn {n : Nat} (hn : 0 < n) (hn2 : n < 4294967296) : AskOk 22 20 (n : Int) (askB n) := by
  intro L hL
  refine ⟨(belowX L n 0).2.2.1, (belowX L n 0).2.2.2, ?_⟩
  have hlt : (belowX L n 0).1 < n := belowR_lt hn _ _
  refine fn1_of pl22 (by kernel_rfl) Try.call22 Try.func22 rfl (by kernel_rfl) rfl [.tmp 3, .tmp 4] (by kernel_rfl) fun Q hQ => ?_
  unfold askB at hQ
  have hb := below_fn (L := L) (n := n) (p := 0) (by omega) (by omega) hn (by omega)
  generalize belowX L n 0 = r at *
  simp (disch := (first | omega | (simp only [List.length_append, List.length_set, List.length_cons, List.length_nil, List.length_replicate, List.length_take, List.length_drop, List.length_map, List.length_range, true_and, and_true]; (try omega); done) | fail)) only [go_sem, Int.reduceEq, Int.reduceToNat, Nat.reduceAdd, Nat.reduceMul, Nat.reduceEqDiff, ↓reduceIte]
  refine callW [some 0] [] (hb) ?_
  simp (disch := (first | omega | (simp only [List.length_append, List.length_set, List.length_cons, List.length_nil, List.length_replicate, List.length_take, List.length_drop, List.length_map, List.length_range, true_and, and_true]; (try omega); done) | fail)) only [go_sem, Int.reduceEq, Int.reduceToNat, Nat.reduceAdd, Nat.reduceMul, Nat.reduceEqDiff, ↓reduceIte]
  exact endW [some 0, some 1] hQ
def askY (Y : Nat) (L : List Bool) : Int × Int := (((binX L Y 0).1 : Int), (binX L Y 0).2.1)
theorem askY_fn {Y : Nat} (hY : Y < 4294967296) : AskOk 30 20 (Y : Int) (askY Y) := by
  intro L hL
  refine ⟨(binX L Y 0).2.2.1, (binX L Y 0).2.2.2, ?_⟩
  refine fn1_of pl30 (by kernel_rfl) Try.call30 Try.func30 rfl (by kernel_rfl) rfl [.tmp 3, .tmp 4] (by kernel_rfl) fun Q hQ => ?_
  unfold askY at hQ
  have hb := binom_fn (L := L) (p := 0) (Y := Y) (y := (Y : Int)) (by omega) (by omega) (by omega) (by omega)
  generalize binX L Y 0 = r at *
  simp (disch := (first | omega | (simp only [List.length_append, List.length_set, List.length_cons, List.length_nil, List.length_replicate, List.length_take, List.length_drop, List.length_map, List.length_range, true_and, and_true]; (try omega); done) | fail)) only [go_sem, Int.reduceEq, Int.reduceToNat, Nat.reduceAdd, Nat.reduceMul, Nat.reduceEqDiff, ↓reduceIte]
  refine callW [some 0] [] (hb) ?_
  simp (disch := (first | omega | (simp only [List.length_append, List.length_set, List.length_cons, List.length_nil, List.length_replicate, List.length_take, List.length_drop, List.length_map, List.length_range, true_and, and_true]; (try omega); done) | fail)) only [go_sem, Int.reduceEq, Int.reduceToNat, Nat.reduceAdd, Nat.reduceMul, Nat.reduceEqDiff, ↓reduceIte]
  exact endW [some 0, some 1] hQ
end Go.Proofs.Ytdpekigpjihnkaa
