import Derived.RangeFuncNested
import Derived.RangeFuncBound
import Derived.RangeFuncCalls
import Derived.RangeFuncLeaves
import Derived.Shelf.Abstract
import Derived.Shelf.RegionOpen
import Derived.WalkKit
import Derived.OwnWalkIn
import Derived.TacticsInMore
import Derived.LoopNIn
import Derived.LoopIn
import Derived.Test.YtdohmppildfjhaaGreatDoorProg
import Derived.KernelRfl
namespace Go.Proofs.YtdohmppildfjhaaGreatDoor
open Go.RowKit Go.Shelf
set_option linter.unusedVariables false
set_option linter.unusedSimpArgs false
attribute [local go_sem] Oper.semAt_some
def WSame (W W' : World) : Prop := W'.os = W.os ∧ W'.tape = W.tape ∧ W'.output = W.output ∧ W.drawn ≤ W'.drawn
theorem WSame.refl (W : World) : WSame W W := ⟨rfl, rfl, rfl, Nat.le_refl _⟩
theorem WSame.trans {A B C : World} (h : WSame A B) (k : WSame B C) : WSame A C := ⟨k.1.trans h.1, k.2.1.trans h.2.1, k.2.2.1.trans h.2.2.1, Nat.le_trans h.2.2.2 k.2.2.2⟩
theorem WSame.alloc (W : World) (o : Obj) : WSame W (W.alloc o) := ⟨rfl, rfl, rfl, Nat.le_refl _⟩
def Grow (W W' : World) : Prop := WSame W W' ∧ W.heap.size ≤ W'.heap.size ∧ ∀ b, b < W.heap.size → W'.heap[b]? = W.heap[b]?
theorem cellOf {W : World} {b j : Nat} {C : Array Value} {t : TypeId} {r : Nat × Nat} {v : Value} (h : W.heap[b]? = some (.cells C t r)) (hv : C[j]? = some v) : W.cell? ⟨b, j, none⟩ = some v := by
 simp [World.cell?, h, hv]
theorem frozOf {W : World} {b j : Nat} {C : Array Value} {t : TypeId} (h : W.heap[b]? = some (.cells C t (0, 0))) : W.frozen? ⟨b, j, none⟩ = false := by
 simp [World.frozen?, h]
theorem allocOld {W : World} {b : Nat} {o : Obj} (hb : b < W.heap.size) : (W.alloc o).heap[b]? = W.heap[b]? := by
 exact Below.heap_alloc W o b hb
theorem setC {W : World} {b j : Nat} {C : Array Value} {t : TypeId} {r : Nat × Nat} {v : Value} (h : W.heap[b]? = some (.cells C t r)) :
  (W.setCell ⟨b, j, none⟩ v).heap[b]? = some (.cells (C.setIfInBounds j v) t r) ∧ (W.setCell ⟨b, j, none⟩ v).heap.size = W.heap.size ∧ (∀ k, k ≠ b → (W.setCell ⟨b, j, none⟩ v).heap[k]? = W.heap[k]?) ∧ WSame W (W.setCell ⟨b, j, none⟩ v) := by
 refine ⟨by simp [World.setCell, Array.getElem?_modify, h], by simp [World.setCell], fun k hk => ?_, rfl, rfl, rfl, Nat.le_refl _⟩
 simp [World.setCell, Array.getElem?_modify, Ne.symm hk]
theorem set4 {W : World} {b : Nat} {c0 c1 c2 c3 v0 v1 v2 v3 : Value} {t : TypeId} {r : Nat × Nat} (h : W.heap[b]? = some (.cells #[c0, c1, c2, c3] t r)) :
  ((((W.setCell ⟨b, 0, none⟩ v0).setCell ⟨b, 1, none⟩ v1).setCell ⟨b, 2, none⟩ v2).setCell ⟨b, 3, none⟩ v3).heap[b]? = some (.cells #[v0, v1, v2, v3] t r) ∧
  ((((W.setCell ⟨b, 0, none⟩ v0).setCell ⟨b, 1, none⟩ v1).setCell ⟨b, 2, none⟩ v2).setCell ⟨b, 3, none⟩ v3).heap.size = W.heap.size ∧
  (∀ k, k ≠ b → ((((W.setCell ⟨b, 0, none⟩ v0).setCell ⟨b, 1, none⟩ v1).setCell ⟨b, 2, none⟩ v2).setCell ⟨b, 3, none⟩ v3).heap[k]? = W.heap[k]?) ∧ WSame W ((((W.setCell ⟨b, 0, none⟩ v0).setCell ⟨b, 1, none⟩ v1).setCell ⟨b, 2, none⟩ v2).setCell ⟨b, 3, none⟩ v3) := by
 obtain ⟨a1, a2, a3, a4⟩ := setC (j := 0) (v := v0) h
 obtain ⟨b1, b2, b3, b4⟩ := setC (j := 1) (v := v1) a1
 obtain ⟨d1, d2, d3, d4⟩ := setC (j := 2) (v := v2) b1
 obtain ⟨e1, e2, e3, e4⟩ := setC (j := 3) (v := v3) d1
 exact ⟨e1, by omega, fun k hk => by rw [e3 k hk, d3 k hk, b3 k hk, a3 k hk], ((a4.trans b4).trans d4).trans e4⟩
abbrev Pv := (Int × Int) × (Option Addr × Nat × Nat) × (Option Addr × Nat × Nat)
@[go_sem] def pvC (x : Pv) : Array Value := #[.int .i64 x.1.1, .int .i64 x.1.2, .slice x.2.1.1 x.2.1.2.1 x.2.1.2.2, .slice x.2.2.1 x.2.2.2.1 x.2.2.2.2]
def nvK : Value → Nat
 | .int _ n => n.toNat
 | _ => 0
set_option maxHeartbeats 4000000 in
set_option maxRecDepth 100000 in
theorem walkY_in {l bs K B0 : Nat} {s c : Int} (hs : s = 1 ∧ c = 4 ∨ s = 2 ∧ c = 16) (hK : K ≤ 15) (J : Nat → World → Prop) (Jx : World → Prop) (Rp : Nat → Nat → World → Pv → Prop)
  (hb0 : bs < B0) (hbs : ∀ i W, J i W → W.cell? ⟨bs, 0, none⟩ = some (.int .i64 s)) (hJB : ∀ i W, J i W → B0 ≤ W.heap.size)
  (hJ : ∀ i W W' q, J i W → B0 ≤ q → WSame W W' → W.heap.size ≤ W'.heap.size → (∀ b, b < W.heap.size → b ≠ q → W'.heap[b]? = W.heap[b]?) → J i W')
  (hOf : ∀ W b n, (∃ V, J 0 V ∧ ∀ b, b < B0 → W.heap[b]? = V.heap[b]?) → W.cell? ⟨b, 0, none⟩ = some (.int .u64 c) → B0 ≤ b → CallsIn Fence.wide n Tryz.prog 76 #[.slice (some ⟨b, 0, none⟩) 1 1] W fun e W' => ∃ y, e = .returned (.agg #[.slice y.1 y.2.1 y.2.2]) ∧ Grow W W' ∧ Rp W'.heap.size 0 W' ((0, 0), (none, 0, 0), y))
  (hY : ∀ bp i W x n, i ≤ K → J i W → Rp bp i W x → YieldAt Fence.wide n Tryz.prog l #[.int .i64 i, .agg (pvC x)] W fun e W' =>
   (e = .returned (.bool true) ∧ i < K ∧ J (i + 1) W' ∧ W.heap.size ≤ W'.heap.size ∧ ∀ b, B0 ≤ b → b < W.heap.size → W'.heap[b]? = W.heap[b]?) ∨ (e = .returned (.bool false) ∧ Jx W'))
  (hRk : ∀ bp i W W' x, Rp bp i W x → W.heap.size ≤ W'.heap.size → (∀ b, B0 ≤ b → b ≠ bp → b < W.heap.size → W'.heap[b]? = W.heap[b]?) → (∃ j, J j W') → Rp bp i W' x)
  (hN : ∀ bp i W x n, Rp bp i W x → i < 16 → bp < W.heap.size → CallsIn Fence.wide n Tryz.prog 210 #[.agg (pvC x), .int .i64 s] W fun e W' => ∃ y, e = .returned (.agg (pvC y)) ∧ Grow W W' ∧ Rp bp (i + 1) W' y)
  (W : World) (hW : W.heap.size = B0) (h0 : J 0 W) : CallsIn Fence.wide 3 Tryz.prog 209 #[.func (.yield l) #[] #[], .pointer (some ⟨bs, 0, none⟩)] W fun e W' => (∃ v, e = .returned v) ∧ Jx W' := by
 have hcs := hbs 0 W h0
 refine callsIn_of_wp Tryz.func209 rfl trivial ?_ rfl
 simp only [Tryz.ntmps209, List.size_toArray, List.length_cons, List.length_nil, Nat.reduceAdd, Nat.reduceSub, Array.replicate_succ, Array.replicate_zero, List.push_toArray, List.append_toArray, List.nil_append, List.cons_append]
 rcases hs with ⟨rfl, rfl⟩ | ⟨rfl, rfl⟩
 all_goals
  gi_wp2
  refine ⟨trivial, ?_⟩
  refine (hOf _ B0 _ ⟨W, h0, fun b hb => allocOld (by omega)⟩ (by rw [← hW]; exact cellOf (World.alloc_heap_new W _) rfl) (Nat.le_refl _)).mono ?_
  rintro e w1 ⟨y, rfl, hg, hr⟩
  gi_wp2
  gi_loopw [4] (fun p wr => ∃ (i : Nat) (x : Pv), p = .int .i64 i ∧ i ≤ K ∧ J i wr ∧ Rp w1.heap.size i wr x ∧ w1.heap.size < wr.heap.size ∧
   wr.heap[w1.heap.size]? = some (.cells (pvC x) 215 (0, 0))) (fun p wr => K + 1 - nvK p)
  case atStart =>
   have hwB : B0 ≤ w1.heap.size := by have := hg.2.1; rw [World.size_alloc] at this; omega
   have q1 := hg.2.1
   rw [World.size_alloc] at q1
   have q2 : ∀ b, b < W.heap.size → w1.heap[b]? = W.heap[b]? := fun b hb => by
    rw [hg.2.2 b (by rw [World.size_alloc]; omega), allocOld hb]
   obtain ⟨W2, hW2⟩ : ∃ W2, w1.alloc (Obj.cells #[.int .i64 0, .int .i64 0, .slice none 0 0, .slice y.1 y.2.1 y.2.2] 215) = W2 := ⟨_, rfl⟩
   rw [hW2]
   have n1 : W2.heap.size = w1.heap.size + 1 := by rw [← hW2, World.size_alloc]
   have n2 : W2.heap[w1.heap.size]? = some (.cells #[.int .i64 0, .int .i64 0, .slice none 0 0, .slice y.1 y.2.1 y.2.2] 215 (0, 0)) := by rw [← hW2]; exact World.alloc_heap_new w1 _
   have n3 : ∀ b, b < w1.heap.size → W2.heap[b]? = w1.heap[b]? := fun b hb => by rw [← hW2]; exact allocOld hb
   have hj2 := hJ 0 w1 W2 w1.heap.size (hJ 0 W w1 B0 h0 (Nat.le_refl _) ((WSame.alloc W _).trans hg.1) (by omega) (fun b hb _ => q2 b hb)) hwB (by rw [← hW2]; exact WSame.alloc _ _) (by omega) (fun b hb _ => n3 b hb)
   exact ⟨0, ((0, 0), (none, 0, 0), y), rfl, Nat.zero_le _, hj2, hRk _ _ _ _ _ hr (by omega) (fun b _ _ hb => n3 b hb) ⟨0, hj2⟩, by omega, n2⟩
  case round =>
   obtain ⟨i, x, rfl, hi, hj, hr2, hlt, hb⟩ := hrel
   have c0 := cellOf (j := 0) hb rfl
   have c1 := cellOf (j := 1) hb rfl
   have c2 := cellOf (j := 2) hb rfl
   have c3 := cellOf (j := 3) hb rfl
   have f0 := frozOf (j := 0) hb
   have f1 := frozOf (j := 1) hb
   have f2 := frozOf (j := 2) hb
   have f3 := frozOf (j := 3) hb
   have cs := hbs _ _ hj
   have hiL : (i : Int) ≤ 1023 := by omega
   obtain ⟨fn, tmps, assign, body, hy, hR⟩ := hY _ i wr x 2 hi hj hr2
   unfold pvC at hy
   gi_wp2
   refine hR.mono ?_
   rintro e W3 (⟨rfl, hiK, hj3, hs3, hk3⟩ | ⟨rfl, hx3⟩)
   ·
    have hB := hJB 0 W h0
    have hb3 : W3.heap[w1.heap.size]? = some (.cells (pvC x) 215 (0, 0)) := by rw [hk3 _ (by have := hg.2.1; rw [World.size_alloc] at this; omega) hlt]; exact hb
    have c0 := cellOf (j := 0) hb3 rfl
    have c1 := cellOf (j := 1) hb3 rfl
    have c2 := cellOf (j := 2) hb3 rfl
    have c3 := cellOf (j := 3) hb3 rfl
    have cs := hbs _ _ hj3
    have hr3 := hRk _ _ _ _ _ hr2 hs3 (fun b h1 _ h2 => hk3 b h1 h2) ⟨_, hj3⟩
    gi_wp2
    refine ⟨trivial, ?_⟩
    refine (hN _ i W3 x 2 hr3 (by omega) (by omega)).mono ?_
    rintro e W4 ⟨z, rfl, hg4, hr4⟩
    have hb4 : W4.heap[w1.heap.size]? = some (.cells (pvC x) 215 (0, 0)) := by rw [hg4.2.2 _ (by omega)]; exact hb3
    have d0 := cellOf (j := 0) hb4 rfl
    have d1 := cellOf (j := 1) hb4 rfl
    have d2 := cellOf (j := 2) hb4 rfl
    have d3 := cellOf (j := 3) hb4 rfl
    have f0 := frozOf (j := 0) hb4
    have f1 := frozOf (j := 1) hb4
    have f2 := frozOf (j := 2) hb4
    have f3 := frozOf (j := 3) hb4
    simp only [pvC]
    gi_wp2
    obtain ⟨k1, k2, k3, k4⟩ := set4 (v0 := .int .i64 z.1.1) (v1 := .int .i64 z.1.2) (v2 := .slice z.2.1.1 z.2.1.2.1 z.2.1.2.2) (v3 := .slice z.2.2.1 z.2.2.2.1 z.2.2.2.2) hb4
    generalize (((W4.setCell ⟨w1.heap.size, 0, none⟩ (.int .i64 z.1.1)).setCell ⟨w1.heap.size, 1, none⟩ (.int .i64 z.1.2)).setCell ⟨w1.heap.size, 2, none⟩ (.slice z.2.1.1 z.2.1.2.1 z.2.1.2.2)).setCell ⟨w1.heap.size, 3, none⟩ (.slice z.2.2.1 z.2.2.2.1 z.2.2.2.2) = W5 at *
    have hwB : B0 ≤ w1.heap.size := by have := hg.2.1; rw [World.size_alloc] at this; omega
    have hj5 := hJ _ _ W5 w1.heap.size (hJ _ _ W4 w1.heap.size hj3 hwB hg4.1 hg4.2.1 (fun b hb _ => hg4.2.2 b hb)) hwB k4 (by omega) (fun b hb hne => k3 b hne)
    refine ⟨⟨i + 1, z, rfl, by omega, hj5, hRk _ _ _ _ _ hr4 (by omega) (fun b _ hne hb => k3 b hne) ⟨_, hj5⟩, by have := hg4.2.1; omega, k1⟩, ?_⟩
    show K + 1 - ((i : Int) + 1).toNat < K + 1 - (i : Int).toNat
    omega
   ·
    gi_wp2
    exact ⟨rfl, _, results_none (fn := Tryz.f209) rfl _ _ _, ⟨_, rfl⟩, hx3⟩

theorem putSame {W : World} {l : Nat} {o o' : Obj} (h : W.heap[l]? = some o) : (W.putObj l o').heap[l]? = some o' ∧ (W.putObj l o').heap.size = W.heap.size ∧ (∀ b, b ≠ l → (W.putObj l o').heap[b]? = W.heap[b]?) ∧ WSame W (W.putObj l o') :=
 ⟨World.putObj_heap_same (Array.getElem?_eq_some_iff.1 h).1, by simp, fun _ hb => World.putObj_heap_other hb, rfl, rfl, rfl, Nat.le_refl _⟩
set_option maxHeartbeats 1000000 in
theorem rf_law {P : Program} {n : Nat} {gOp : Operand} {ps : Array Tmp} {assign body : Code} {Q : Exit → Act → World → Prop} {a : Act} {w : World} {gf : Nat} {lb : Array Value} {id : Nat}
  (hg : a.eval gOp = .func (.func gf) #[] lb) (eg : ∀ args w, (callFunc gf args).run P w = .ok (.enter gf args) w)
  (I : Nat → World → Prop) (Ix : World → Prop) (ok : Nat → Pv → World → Prop) (good : Nat → Prop) (enc : Nat → Pv → Array Value) (A1 : Nat → Pv → World → Act → World → Prop)
  (hps : ∀ i x, (enc i x).size = ps.size)
  (hIs : ∀ i W W', I i W → WSame W W' → W.heap.size ≤ W'.heap.size → (∀ b, b < w.heap.size → W'.heap[b]? = W.heap[b]?) → I i W')
  (hIxs : ∀ W W', Ix W → WSame W W' → W.heap.size = W'.heap.size → (∀ b, b ≠ w.heap.size + 1 → W'.heap[b]? = W.heap[b]?) → Ix W')
  (h0 : I 0 w)
  (contract : ∀ (J : Nat → World → Prop) (Jx : World → Prop) (W : World), W.heap.size = w.heap.size + 2 → (∀ i W, J i W → I i W) → (∀ i W, J i W → w.heap.size + 2 ≤ W.heap.size) →
   (∀ i W W' q, J i W → w.heap.size + 2 ≤ q → WSame W W' → W.heap.size ≤ W'.heap.size → (∀ b, b < W.heap.size → b ≠ q → W'.heap[b]? = W.heap[b]?) → J i W') →
   (∀ i W x m, J i W → ok i x W → YieldAt Fence.wide m P (w.heap.size + 1) (enc i x) W fun e W' =>
    (e = .returned (.bool true) ∧ good i ∧ J (i + 1) W' ∧ W.heap.size ≤ W'.heap.size ∧ ∀ b, w.heap.size + 2 ≤ b → b < W.heap.size → W'.heap[b]? = W.heap[b]?) ∨ (e = .returned (.bool false) ∧ Jx W')) →
   J 0 W → CallsIn Fence.wide (n - 1) P gf (#[.func (.yield (w.heap.size + 1)) #[] #[]] ++ lb) W fun e W' => (∃ v, e = .returned v) ∧ Jx W')
  (hassign : ∀ l i x W m (K : Act → World → Prop), I i W → ok i x W → w.heap.size + 2 ≤ W.heap.size → (∀ a₁ W₁, A1 i x W a₁ W₁ → K a₁ W₁) →
   assign.wpIn (Fence.wide.inRound l) m P (Exit.then K fun _ _ _ => False) { tmps := (ps.zip (enc i x)).foldl (fun t (p, v) => t.setIfInBounds p v) a.tmps, defers := [] } W)
  (hA1 : ∀ i x W a₁ W₁, A1 i x W a₁ W₁ → WSame W W₁ ∧ W.heap.size ≤ W₁.heap.size ∧ ∀ b, b < W.heap.size → W₁.heap[b]? = W.heap[b]?)
  (hbody : ∀ l i x W a₁ W₁ W₂ m, I i W → ok i x W → w.heap.size + 2 ≤ W.heap.size → A1 i x W a₁ W₁ → WSame W₁ W₂ → W₂.heap.size = W₁.heap.size → (∀ b, b ≠ w.heap.size + 1 → W₂.heap[b]? = W₁.heap[b]?) →
   body.wpIn (Fence.wide.inRound l) m P (fun e _ W₃ => W₂.heap.size ≤ W₃.heap.size ∧ (∀ b, w.heap.size ≤ b → b < W₂.heap.size → W₃.heap[b]? = W₂.heap[b]?) ∧
    match e with | .normal => good i ∧ I (i + 1) W₃ | .exit j => j = id ∧ Ix W₃ | _ => False) a₁ W₂)
  (hstop : ∀ W, Ix W → W.heap[w.heap.size]? = some (.deferred (some [])) → (Code.exit id).wpIn Fence.wide n P Q { a with defers := { target := .collected w.heap.size, args := #[] } :: a.defers } W) :
  (Code.rangeFunc gOp ps assign body).wpIn Fence.wide n P Q a w := by
 refine wpIn_rangeFunc ?_
 intro fn hfn
 obtain ⟨rec, hrec⟩ : ∃ rec : LoopState → Option Code → Loop, rec = fun st pe => { state := st, pending := pe, fn, tmps := a.tmps, params := ps, assign, body, defers := w.heap.size } := ⟨_, rfl⟩
 obtain ⟨W1, hW1⟩ : ∃ W1, (w.alloc (.deferred (some []))).alloc (.loop (rec .ready none)) = W1 := ⟨_, rfl⟩
 have hz : W1.heap.size = w.heap.size + 2 := by rw [← hW1, World.size_alloc, World.size_alloc]
 have hold : ∀ b, b < w.heap.size → W1.heap[b]? = w.heap[b]? := fun b hb => by
  rw [← hW1, allocOld (by rw [World.size_alloc]; omega), allocOld hb]
 have hL1 : W1.heap[w.heap.size + 1]? = some (.loop (rec .ready none)) := by
  rw [← hW1]; have := World.alloc_heap_new (w.alloc (.deferred (some []))) (.loop (rec .ready none)); rwa [World.size_alloc] at this
 have hD1 : W1.heap[w.heap.size]? = some (.deferred (some [])) := by
  rw [← hW1, allocOld (by rw [World.size_alloc]; omega)]; exact World.alloc_heap_new w _
 refine ⟨w.heap.size + 1, [{ target := .collected w.heap.size, args := #[] }], W1, { target := .fn (.func gf) lb, args := #[.func (.yield (w.heap.size + 1)) #[] #[]] }, W1, gf,
  #[.func (.yield (w.heap.size + 1)) #[] #[]] ++ lb, W1, ?_, ?_, fun _ _ => trivial, ?_, fun h => (by cases h), ?_⟩
 ·
  rw [← hW1, hrec]; exact run_enterLoop_outer _ _ _ _ _
 ·
  simp only [resolve, hg]
  simp [go_sem]
 ·
  simp [invoke, go_sem, eg]
 ·
  refine (contract (fun i W => I i W ∧ w.heap.size + 2 ≤ W.heap.size ∧ W.heap[w.heap.size + 1]? = some (.loop (rec .ready none)) ∧ W.heap[w.heap.size]? = some (.deferred (some [])))
   (fun W => Ix W ∧ W.heap[w.heap.size + 1]? = some (.loop (rec .done (some (.exit id)))) ∧ W.heap[w.heap.size]? = some (.deferred (some [])))
   W1 hz (fun i W h => h.1) (fun i W h => h.2.1) (fun i W W' q h hq hrs hs hk => ?_) (fun i W x m h hx => ?_) ⟨hIs 0 w W1 h0 (by rw [← hW1]; exact (WSame.alloc _ _).trans (WSame.alloc _ _)) (by omega) hold, by omega, hL1, hD1⟩).mono ?_
  ·
   exact ⟨hIs i W W' h.1 hrs hs fun b hb => hk b (by have := h.2.1; omega) (by omega), by have := h.2.1; omega, by rw [hk _ (by have := h.2.1; omega) (by omega)]; exact h.2.2.1, by rw [hk _ (by have := h.2.1; omega) (by omega)]; exact h.2.2.2⟩
  ·
   obtain ⟨hi, hb2, hl, hd⟩ := h
   have hy := run_yield (P := P) (args := enc i x) hl (by rw [hrec]; exact hps i x)
   rw [hrec] at hy
   refine ⟨fn, _, assign, body, hy, roundIn_of_wpIn trivial (hassign _ i x W m _ hi hx hb2 fun a₁ W₂ ha => ?_)⟩
   obtain ⟨-, s1, k1⟩ := hA1 _ _ _ _ _ ha
   have hl2 : W₂.heap[w.heap.size + 1]? = some (.loop (rec .ready none)) := by rw [k1 _ (by omega)]; exact hl
   have hbr := run_beginRound (P := P) hl2 (by rw [hrec])
   obtain ⟨p1, p2, p3, p4⟩ := putSame (o' := .loop { rec .ready none with state := .busy }) hl2
   generalize W₂.putObj (w.heap.size + 1) (.loop { rec .ready none with state := .busy }) = Wb at *
   refine ⟨_, hbr, ?_⟩
   refine wpIn_mono (hbody _ i x W a₁ W₂ _ m hi hx hb2 ha p4 p2 p3) ?_
   rintro e a3 W3 ⟨s3, k3, hp⟩
   have hl3 : W3.heap[w.heap.size + 1]? = some (.loop { rec .ready none with state := .busy }) := by rw [k3 _ (by omega) (by omega)]; exact p1
   have hd3 : W3.heap[w.heap.size]? = some (.deferred (some [])) := by rw [k3 _ (by omega) (by omega), p3 _ (by omega), k1 _ (by omega)]; exact hd
   have fin : ∀ jump : Option Code, (Instr.endRound (w.heap.size + 1) jump).run P W3 = .ok (.bool jump.isNone) (W3.putObj (w.heap.size + 1) (.loop (rec (if jump.isNone then .ready else .done) jump))) := fun jump => by
    have := run_endRound (P := P) jump hl3
    rw [hrec] at this ⊢
    exact this
   cases e with
   | normal =>
    obtain ⟨hgd, hi3⟩ := hp
    obtain ⟨r1, r2, r3, r4⟩ := putSame (o' := .loop (rec .ready none)) hl3
    refine ⟨_, _, fin none, .inl ⟨rfl, hgd, ⟨hIs _ _ _ hi3 r4 (Nat.le_of_eq r2.symm) fun b hb => r3 b (by omega), ?_, r1, ?_⟩, ?_, fun b h1 h2 => ?_⟩⟩
    ·
     show w.heap.size + 2 ≤ (W3.putObj _ (.loop (rec .ready none))).heap.size
     omega
    ·
     show (W3.putObj _ (.loop (rec .ready none))).heap[w.heap.size]? = _
     rw [r3 _ (by omega)]; exact hd3
    ·
     show W.heap.size ≤ (W3.putObj _ (.loop (rec .ready none))).heap.size
     omega
    ·
     show (W3.putObj _ (.loop (rec .ready none))).heap[b]? = _
     rw [r3 _ (by omega), k3 _ (by omega) (by omega), p3 _ (by omega), k1 _ h2]
   | exit j =>
    obtain ⟨rfl, hi3⟩ := hp
    obtain ⟨r1, r2, r3, r4⟩ := putSame (o' := .loop (rec .done (some (.exit j)))) hl3
    exact ⟨_, _, fin (some (.exit j)), .inr ⟨rfl, hIxs _ _ hi3 r4 r2.symm r3, r1, by rw [show (W3.putObj (w.heap.size + 1) (.loop (rec (if (some (Code.exit j)).isNone then .ready else .done) (some (.exit j))))).heap[w.heap.size]? = (W3.putObj _ (.loop (rec .done (some (.exit j))))).heap[w.heap.size]? from rfl, r3 _ (by omega)]; exact hd3⟩⟩
   | _ => exact hp.elim
  ·
   rintro e W2 ⟨⟨v, rfl⟩, hi, hl, hd⟩
   obtain ⟨r1, r2, r3, r4⟩ := putSame (o' := .loop (rec .exhausted (some (.exit id)))) hl
   have he := run_endLoop (P := P) hl (by rw [hrec]; simp)
   rw [hrec] at he r1 r2 r3 r4
   exact ⟨some (.exit id), _, he, hstop _ (hIxs _ _ hi r4 r2.symm r3) (by rw [r3 _ (by omega)]; exact hd)⟩

theorem ygood_in {s : Int} (hs : 1 ≤ s ∧ s ≤ 5) (n : Nat) (W : World) : CallsIn Fence.wide n Tryz.prog 206 #[.int .i64 s] W fun e W' => e = .returned (.bool true) ∧ W' = W := by
 obtain ⟨h1, h2⟩ := hs
 refine callsIn_of_wp Tryz.func206 rfl trivial ?_ rfl
 simp only [Tryz.ntmps206, List.size_toArray, List.length_cons, List.length_nil, Nat.reduceAdd, Nat.reduceSub, Array.replicate_succ, Array.replicate_zero, List.push_toArray, List.append_toArray, List.nil_append, List.cons_append]
 gi_wp2
 exact ⟨rfl, _, results_tmp (fn := Tryz.f206) rfl _ _ _, rfl, rfl⟩
theorem ywalk_in {s : Int} (n : Nat) (W : World) : CallsIn Fence.wide n Tryz.prog 208 #[.int .i64 s] W fun e W' => e = .returned (.func (.func 209) #[] #[.pointer (some ⟨W.heap.size, 0, none⟩)]) ∧ W' = W.alloc (.cells #[.int .i64 s] 3) := by
 refine callsIn_of_wp Tryz.func208 rfl trivial ?_ rfl
 simp only [Tryz.ntmps208, List.size_toArray, List.length_cons, List.length_nil, Nat.reduceAdd, Nat.reduceSub, Array.replicate_succ, Array.replicate_zero, List.push_toArray, List.append_toArray, List.nil_append, List.cons_append]
 gi_wp2
 exact ⟨rfl, _, results_tmp (fn := Tryz.f208) rfl _ _ _, rfl, rfl⟩
def yuI (w : World) (n K : Nat) (s : Int) (W : World) : Prop := WSame w W ∧ n + 4 ≤ W.heap.size ∧ (∀ b, b < n → W.heap[b]? = w.heap[b]?) ∧ W.heap[n]? = some (.cells #[.int .i64 K] 3 (0, 0)) ∧ W.heap[n + 1]? = some (.cells #[.int .i64 0, .int .i64 0, .slice none 0 0, .slice none 0 0] 215 (0, 0)) ∧ (∃ c0 c1 c2 c3 : Value, W.heap[n + 2]? = some (.cells #[c0, c1, c2, c3] 215 (0, 0))) ∧ W.heap[n + 3]? = some (.cells #[.int .i64 s] 3 (0, 0))
def yuX (Rp : Nat → Nat → World → Pv → Prop) (w : World) (n K : Nat) (W : World) : Prop := WSame w W ∧ n + 4 ≤ W.heap.size ∧ (∀ b, b < n → W.heap[b]? = w.heap[b]?) ∧ W.heap[n + 1]? = some (.cells #[.int .i64 0, .int .i64 0, .slice none 0 0, .slice none 0 0] 215 (0, 0)) ∧ ∃ bp x, W.heap[n + 2]? = some (.cells (pvC x) 215 (0, 0)) ∧ Rp bp K W x
def yuB (n : Nat) (W W' : World) : Prop := WSame W W' ∧ W.heap.size ≤ W'.heap.size ∧ ∀ b, n + 4 ≤ b → b < W.heap.size → W'.heap[b]? = W.heap[b]?
def yuA (K n : Nat) (s : Int) (i : Nat) (x : Pv) (b : Nat) : Act :=
 { tmps := #[.int .i64 s, .int .i64 K, undef, .pointer (some ⟨n, 0, none⟩), .pointer (some ⟨n + 1, 0, none⟩), .int .i64 0, .pointer (some ⟨n + 1 + 1, 0, none⟩), .int .i64 i, .pointer (some ⟨b, 0, none⟩), .bool false, .int .i64 s, .bool true, .bool false, undef,
   .bool (decide ((K : Int) < 0) || decide (1023 < (K : Int))), .int .i64 K, .bool (decide ((K : Int) < 0)), .bool (decide ((K : Int) < 0)), .int .i64 K, .bool (decide (1023 < (K : Int))), .bool (decide ((K : Int) < 0) || decide (1023 < (K : Int))),
   undef, .int .i64 s, .func (.func 209) #[] #[.pointer (some ⟨n + 1 + 1 + 1, 0, none⟩)], .int .i64 i, .agg (pvC x), undef, undef, undef, undef, undef], defers := [] }
set_option maxHeartbeats 4000000 in
set_option maxRecDepth 100000 in
theorem at_in {K : Nat} {s c : Int} (hs : s = 1 ∧ c = 4 ∨ s = 2 ∧ c = 16) (hK : K ≤ 15) (w : World) (Rp : Nat → Nat → World → Pv → Prop)
  (hOf : ∀ W b n, (∀ b, b < w.heap.size → W.heap[b]? = w.heap[b]?) → W.cell? ⟨b, 0, none⟩ = some (.int .u64 c) → w.heap.size + 6 ≤ b → CallsIn Fence.wide n Tryz.prog 76 #[.slice (some ⟨b, 0, none⟩) 1 1] W fun e W' => ∃ y, e = .returned (.agg #[.slice y.1 y.2.1 y.2.2]) ∧ Grow W W' ∧ Rp W'.heap.size 0 W' ((0, 0), (none, 0, 0), y))
  (hRk : ∀ bp i W W' x, Rp bp i W x → W.heap.size ≤ W'.heap.size → (∀ b, w.heap.size + 6 ≤ b → b ≠ bp → b < W.heap.size → W'.heap[b]? = W.heap[b]?) → (∀ b, b < w.heap.size → W'.heap[b]? = w.heap[b]?) → Rp bp i W' x)
  (hN : ∀ bp i W x n, Rp bp i W x → i < 16 → bp < W.heap.size → CallsIn Fence.wide n Tryz.prog 210 #[.agg (pvC x), .int .i64 s] W fun e W' => ∃ y, e = .returned (.agg (pvC y)) ∧ Grow W W' ∧ Rp bp (i + 1) W' y) :
  CallsIn Fence.wide 5 Tryz.prog 207 #[.int .i64 s, .int .i64 K] w fun e W' => ∃ bp x, e = .returned (.tuple #[.agg (pvC x), .int .i64 0]) ∧ Rp bp K W' x ∧ WSame w W' ∧ w.heap.size ≤ W'.heap.size ∧ ∀ b, b < w.heap.size → W'.heap[b]? = w.heap[b]? := by
 have hK0 : (0 : Int) ≤ (K : Int) := by omega
 have hK1 : (K : Int) ≤ 1023 := by omega
 have hs5 : 1 ≤ s ∧ s ≤ 5 := by omega
 refine callsIn_of_wp_marks Tryz.func207 rfl trivial ?_ rfl
 simp only [Tryz.ntmps207, List.size_toArray, List.length_cons, List.length_nil, Nat.reduceAdd, Nat.reduceSub, Array.replicate_succ, Array.replicate_zero, List.push_toArray, List.append_toArray, List.nil_append, List.cons_append]
 gi_wp2
 refine ⟨trivial, ?_⟩
 refine (ygood_in hs5 _ _).mono ?_
 rintro e w' ⟨rfl, rfl⟩
 gi_wp2
 refine ⟨trivial, ?_⟩
 refine (ywalk_in _ _).mono ?_
 rintro e w' ⟨rfl, rfl⟩
 gi_wp2
 obtain ⟨n, hn⟩ : ∃ n, w.heap.size = n := ⟨_, rfl⟩
 obtain ⟨W0, hW0⟩ : ∃ W0, (((w.alloc (.cells #[.int .i64 K] 3)).alloc (.cells #[.int .i64 0, .int .i64 0, .slice none 0 0, .slice none 0 0] 215)).alloc (.cells #[.int .i64 0, .int .i64 0, .slice none 0 0, .slice none 0 0] 215)).alloc (.cells #[.int .i64 s] 3) = W0 := ⟨_, rfl⟩
 rw [hW0]
 have z0 : W0.heap.size = n + 4 := by rw [← hW0, World.size_alloc, World.size_alloc, World.size_alloc, World.size_alloc, hn]
 have g3 : W0.heap[n + 3]? = some (.cells #[.int .i64 s] 3 (0, 0)) := by
  rw [← hW0]; have := World.alloc_heap_new (((w.alloc (.cells #[.int .i64 K] 3)).alloc (.cells #[.int .i64 0, .int .i64 0, .slice none 0 0, .slice none 0 0] 215)).alloc (.cells #[.int .i64 0, .int .i64 0, .slice none 0 0, .slice none 0 0] 215)) (.cells #[.int .i64 s] 3)
  simp only [World.size_alloc, hn] at this; exact this
 have g2 : W0.heap[n + 2]? = some (.cells #[.int .i64 0, .int .i64 0, .slice none 0 0, .slice none 0 0] 215 (0, 0)) := by
  rw [← hW0, allocOld (by simp only [World.size_alloc]; omega)]
  have := World.alloc_heap_new ((w.alloc (.cells #[.int .i64 K] 3)).alloc (.cells #[.int .i64 0, .int .i64 0, .slice none 0 0, .slice none 0 0] 215)) (.cells #[.int .i64 0, .int .i64 0, .slice none 0 0, .slice none 0 0] 215)
  simp only [World.size_alloc, hn] at this; exact this
 have g1 : W0.heap[n + 1]? = some (.cells #[.int .i64 0, .int .i64 0, .slice none 0 0, .slice none 0 0] 215 (0, 0)) := by
  rw [← hW0, allocOld (by simp only [World.size_alloc]; omega), allocOld (by simp only [World.size_alloc]; omega)]
  have := World.alloc_heap_new (w.alloc (.cells #[.int .i64 K] 3)) (.cells #[.int .i64 0, .int .i64 0, .slice none 0 0, .slice none 0 0] 215)
  simp only [World.size_alloc, hn] at this; exact this
 have g0 : W0.heap[n]? = some (.cells #[.int .i64 K] 3 (0, 0)) := by
  rw [← hW0, allocOld (by simp only [World.size_alloc]; omega), allocOld (by simp only [World.size_alloc]; omega), allocOld (by simp only [World.size_alloc]; omega), ← hn]
  exact World.alloc_heap_new w _
 have gold : ∀ b, b < n → W0.heap[b]? = w.heap[b]? := fun b hb => by
  rw [← hW0, allocOld (by simp only [World.size_alloc]; omega), allocOld (by simp only [World.size_alloc]; omega), allocOld (by simp only [World.size_alloc]; omega), allocOld (by omega)]
 rw [hn] at hOf hRk ⊢
 have gr : WSame w W0 := by rw [← hW0]; exact (((WSame.alloc _ _).trans (WSame.alloc _ _)).trans (WSame.alloc _ _)).trans (WSame.alloc _ _)
 clear hW0
 refine rf_law (gf := 209) (id := 1) rfl (enters_of Tryz.func209 (by kernel_rfl) rfl)
  (fun _ W => yuI w n K s W) (yuX Rp w n K)
  (fun i x W => i ≤ K ∧ ∃ bp, Rp bp i W x) (fun i => i < K) (fun i x => #[.int .i64 (i : Int), .agg (pvC x)])
  (fun i x W a₁ W₁ => a₁ = yuA K n s i x W.heap.size ∧ W₁ = W.alloc (.cells (pvC x) 215)) (fun _ _ => rfl) ?hIs ?hIxs ?h0 ?contract ?assign ?hA1 ?body ?stop
 case assign =>
  intro l i x W m K' hi hx hz hk
  unfold yuA pvC at hk
  unfold pvC
  gi_wp2
 case hA1 =>
  rintro i x W a₁ W₁ ⟨rfl, rfl⟩
  exact ⟨WSame.alloc _ _, by rw [World.size_alloc]; omega, fun b hb => allocOld hb⟩
 case hIs =>
  rintro i W W' ⟨hr, h1, h2, h3, h4, ⟨c0, c1, c2, c3, h5⟩, h6⟩ hrs hs hk
  rw [z0] at hk
  exact ⟨hr.trans hrs, by omega, fun b hb => by rw [hk b (by omega), h2 b hb], by rw [hk _ (by omega)]; exact h3, by rw [hk _ (by omega)]; exact h4, ⟨c0, c1, c2, c3, by rw [hk _ (by omega)]; exact h5⟩, by rw [hk _ (by omega)]; exact h6⟩
 case hIxs =>
  rintro W W' ⟨hr, h1, h2, h4, bp, x, h5, h6⟩ hrs hs hk
  rw [z0] at hk
  exact ⟨hr.trans hrs, by omega, fun b hb => by rw [hk b (by omega), h2 b hb], by rw [hk _ (by omega)]; exact h4, bp, x, by rw [hk _ (by omega)]; exact h5, hRk _ _ _ _ _ h6 (by omega) (fun b hb _ _ => hk b (by omega)) fun b hb => by rw [hk b (by omega), h2 b hb]⟩
 case h0 => exact ⟨gr, by omega, gold, g0, g1, ⟨_, _, _, _, g2⟩, g3⟩
 case contract =>
  intro J Jx W hz hJI hJz hJ hY hJ0
  rw [z0] at hz hJz hJ hY ⊢
  refine (CallsIn.more (n' := 4) (walkY_in (B0 := n + 6) (bs := n + 3) (c := c) (K := K) hs hK (fun i W => J i W) Jx Rp (by omega) (fun i W h => cellOf (hJI i W h).2.2.2.2.2.2 rfl) (fun i W h => by have := hJz i W h; omega) (fun i W W' q h hq => hJ i W W' q h (by omega)) (fun W b m hv => hOf W b m (by obtain ⟨V, hV, he⟩ := hv; exact fun b hb => by rw [he b (by omega), (hJI 0 V hV).2.2.1 b hb])) (fun bp i W x m hi h hr => hY i W x m h ⟨hi, bp, hr⟩) (fun bp i W W' x h hz hk hj => hRk bp i W W' x h hz hk (by obtain ⟨j, hj⟩ := hj; exact (hJI j W' hj).2.2.1)) hN W (by omega) hJ0) (by decide))
 case body =>
  rintro l i x W a₁ W₁ W₂ m ⟨hrw, h1, h2, h3, h4, ⟨c0, c1, c2, c3, h5⟩, h6⟩ ⟨hi, bp, hr⟩ hz ⟨rfl, rfl⟩ hrs hs2 hk2
  rw [z0] at hz hk2 ⊢
  refine wpIn_mono (Q := fun e _ W₃ => yuB n W₂ W₃ ∧ match e with | .normal => i < K ∧ yuI w n K s W₃ | .exit j => j = 1 ∧ yuX Rp w n K W₃ | _ => False) ?_ (fun e a W₃ h => ⟨h.1.2.1, h.1.2.2, h.2⟩)
  rw [World.size_alloc] at hs2
  have e1 : W₂.heap[W.heap.size]? = some (.cells (pvC x) 215 (0, 0)) := by rw [hk2 _ (by omega)]; exact World.alloc_heap_new W _
  have e2 : W₂.heap[n + 1 + 1]? = some (.cells #[c0, c1, c2, c3] 215 (0, 0)) := by rw [hk2 _ (by omega), allocOld (by omega)]; exact h5
  have e3 : W₂.heap[n]? = some (.cells #[.int .i64 K] 3 (0, 0)) := by rw [hk2 _ (by omega), allocOld (by omega)]; exact h3
  have a0 := cellOf (j := 0) e1 rfl
  have a1 := cellOf (j := 1) e1 rfl
  have a2 := cellOf (j := 2) e1 rfl
  have a3 := cellOf (j := 3) e1 rfl
  have b0 := cellOf (j := 0) e2 rfl
  have b1 := cellOf (j := 1) e2 rfl
  have b2 := cellOf (j := 2) e2 rfl
  have b3 := cellOf (j := 3) e2 rfl
  have f0 := frozOf (j := 0) e2
  have f1 := frozOf (j := 1) e2
  have f2 := frozOf (j := 2) e2
  have f3 := frozOf (j := 3) e2
  have d0 := cellOf (j := 0) e3 rfl
  unfold yuA pvC
  by_cases hiK : i = K
  ·
   subst hiK
   gi_wp2
   obtain ⟨k1, k2, k3, k4⟩ := set4 (v0 := .int .i64 x.1.1) (v1 := .int .i64 x.1.2) (v2 := .slice x.2.1.1 x.2.1.2.1 x.2.1.2.2) (v3 := .slice x.2.2.1 x.2.2.2.1 x.2.2.2.2) e2
   generalize (((W₂.setCell ⟨n + 1 + 1, 0, none⟩ (.int .i64 x.1.1)).setCell ⟨n + 1 + 1, 1, none⟩ (.int .i64 x.1.2)).setCell ⟨n + 1 + 1, 2, none⟩ (.slice x.2.1.1 x.2.1.2.1 x.2.1.2.2)).setCell ⟨n + 1 + 1, 3, none⟩ (.slice x.2.2.1 x.2.2.2.1 x.2.2.2.2) = W5 at *
   have old : ∀ b, b < W.heap.size → b ≠ n + 4 + 1 → b ≠ n + 1 + 1 → W5.heap[b]? = W.heap[b]? := fun b h1 h2 h3 => by rw [k3 b h3, hk2 b h2, allocOld h1]
   exact ⟨⟨k4, by omega, fun b h1 h2 => k3 b (by omega)⟩, ((hrw.trans (WSame.alloc _ _)).trans hrs).trans k4, by omega, fun b hb => by rw [old b (by omega) (by omega) (by omega), h2 b hb], by rw [old _ (by omega) (by omega) (by omega)]; exact h4, bp, x, k1, hRk _ _ _ _ _ hr (by omega) (fun b h1 _ h2 => old b h2 (by omega) (by omega)) fun b hb => by rw [old b (by omega) (by omega) (by omega), h2 b hb]⟩
  ·
   have hne : ¬ (i : Int) = (K : Int) := by omega
   gi_wp2
   obtain ⟨k1, k2, k3, k4⟩ := set4 (v0 := .int .i64 x.1.1) (v1 := .int .i64 x.1.2) (v2 := .slice x.2.1.1 x.2.1.2.1 x.2.1.2.2) (v3 := .slice x.2.2.1 x.2.2.2.1 x.2.2.2.2) e2
   generalize (((W₂.setCell ⟨n + 1 + 1, 0, none⟩ (.int .i64 x.1.1)).setCell ⟨n + 1 + 1, 1, none⟩ (.int .i64 x.1.2)).setCell ⟨n + 1 + 1, 2, none⟩ (.slice x.2.1.1 x.2.1.2.1 x.2.1.2.2)).setCell ⟨n + 1 + 1, 3, none⟩ (.slice x.2.2.1 x.2.2.2.1 x.2.2.2.2) = W5 at *
   have old : ∀ b, b < W.heap.size → b ≠ n + 4 + 1 → b ≠ n + 1 + 1 → W5.heap[b]? = W.heap[b]? := fun b h1 h2 h3 => by rw [k3 b h3, hk2 b h2, allocOld h1]
   exact ⟨⟨k4, by omega, fun b h1 h2 => k3 b (by omega)⟩, by omega, ((hrw.trans (WSame.alloc _ _)).trans hrs).trans k4, by omega, fun b hb => by rw [old b (by omega) (by omega) (by omega), h2 b hb], by rw [old _ (by omega) (by omega) (by omega)]; exact h3, by rw [old _ (by omega) (by omega) (by omega)]; exact h4, ⟨_, _, _, _, k1⟩, by rw [old _ (by omega) (by omega) (by omega)]; exact h6⟩
 case stop =>
  rintro W ⟨hrw, h1, h2, h4, bp, x, h5, h6⟩ hD
  rw [z0] at hD
  have h5' : W.heap[n + 1 + 1]? = some (.cells (pvC x) 215 (0, 0)) := h5
  have a0 := cellOf (j := 0) h5' rfl
  have a1 := cellOf (j := 1) h5' rfl
  have a2 := cellOf (j := 2) h5' rfl
  have a3 := cellOf (j := 3) h5' rfl
  have b0 := cellOf (j := 0) h4 rfl
  have b1 := cellOf (j := 1) h4 rfl
  have b2 := cellOf (j := 2) h4 rfl
  have b3 := cellOf (j := 3) h4 rfl
  have f0 := frozOf (j := 0) h4
  have f1 := frozOf (j := 1) h4
  have f2 := frozOf (j := 2) h4
  have f3 := frozOf (j := 3) h4
  gi_wp2
  obtain ⟨k1, k2, k3, k4⟩ := set4 (v0 := .int .i64 x.1.1) (v1 := .int .i64 x.1.2) (v2 := .slice x.2.1.1 x.2.1.2.1 x.2.1.2.2) (v3 := .slice x.2.2.1 x.2.2.2.1 x.2.2.2.2) h4
  generalize (((W.setCell ⟨n + 1, 0, none⟩ (.int .i64 x.1.1)).setCell ⟨n + 1, 1, none⟩ (.int .i64 x.1.2)).setCell ⟨n + 1, 2, none⟩ (.slice x.2.1.1 x.2.1.2.1 x.2.1.2.2)).setCell ⟨n + 1, 3, none⟩ (.slice x.2.2.1 x.2.2.2.1 x.2.2.2.2) = W5 at *
  have hD5 : W5.heap[n + 4]? = some (.deferred (some [])) := by rw [k3 _ (by omega)]; exact hD
  obtain ⟨q1, q2, q3, q4⟩ := putSame (o' := .deferred none) hD5
  have hT := run_takeDeferred (P := Tryz.prog) hD5
  generalize W5.putObj (n + 4) (.deferred none) = W6 at *
  have k6 : W6.heap[n + 1]? = some (.cells (pvC x) 215 (0, 0)) := by rw [q3 _ (by omega)]; exact k1
  have a0 := cellOf (j := 0) k6 rfl
  have a1 := cellOf (j := 1) k6 rfl
  have a2 := cellOf (j := 2) k6 rfl
  have a3 := cellOf (j := 3) k6 rfl
  rw [z0]
  refine ⟨by simp, .inl ⟨_, _, rfl, hT, .tuple #[.agg (pvC x), .int .i64 0], ?_, bp, x, rfl, ?_, (hrw.trans k4).trans q4, by omega, fun b hb => by rw [q3 b (by omega), k3 b (by omega), h2 b (by omega)]⟩⟩
  ·
   rw [results_cell_tmp (fn := Tryz.f207) rfl]
   simp [go_sem, a0, a1, a2, a3, pvC]
  ·
   exact hRk _ _ _ _ _ h6 (by omega) (fun b h1 _ h2 => by rw [q3 b (by omega), k3 b (by omega)]) fun b hb => by rw [q3 b (by omega), k3 b (by omega), h2 b (by omega)]
end Go.Proofs.YtdohmppildfjhaaGreatDoor
