import Derived.Test.YtdohmppildfjhaaGreatDoorE4
namespace Go.Vx
open Go.Eng
set_option linter.unusedSimpArgs false
set_option linter.unusedVariables false
def idsL (L : List (Nat × Option Nat)) : List Nat := L.flatMap fun x => x.1 :: x.2.toList
def lstB (sl : Array Bool) (l : List Nat) : Array Bool := l.foldl (fun a i => a.setIfInBounds i true) sl
def apB (ops : Array Oper) (i l : Nat) : Bool := match ops[i]?, ops[l]? with
 | some x, some y => x.apart ops y
 | _, _ => false
def freeP (md : Region.Mode) (ops : Array Oper) (sl : Array Bool) (i : Nat) : Bool := match ops[i]? with
 | none => false
 | some oi => oi.guard.isNone && (match oi.op with | .move _ | .assign _ | .pick .. | .binOp .. | .unOp .. | .convert .. | .slice .. | .fieldAddr .. | .field .. | .indexAddr .. | .index .. | .extract .. | .nilCheck .. | .build .. | .call { callee := .builtin .min, .. } | .call { callee := .builtin .max, .. } => true | _ => false) && (List.range ops.size).all fun j => j == i || sl.getD j true || match ops[j]? with
   | some oj => oj.after.any (fun e => Region.binds md e && e.on == i) || oi.apart ops oj
   | none => true
def mkG (ops : Array Oper) (i : Nat) : Bool := match ops[i]? with
 | some o => mkB o && o.guard.isNone && (match o.dst with | some d => !(o.looksAt ops).contains d | none => false)
 | none => false
def prG (md : Region.Mode) (ops : Array Oper) (s p : Nat) : Bool := match ops[s]?, ops[p]? with
 | some os, some op => (match os.op, op.op, op.dst with
  | .store _ (.tmp d) x, .alloc _, some e => d == e && (match x with | .tmp y => y != d | _ => true)
  | _, _, _ => false) && os.guard.isNone && os.dst.isNone && os.after.any (fun e => Region.binds md e && e.on == p)
 | _, _ => false
def lsG (ops : Array Oper) (i p : Nat) : Bool := match ops[i]?, ops[p]? with
 | some o, some q => (match o.op, q.op with | .load _ _, .store _ _ _ => true | _, _ => false) && o.guard.isNone && q.guard.isNone && q.dst.isNone
 | _, _ => false
def ngG (ops : Array Oper) (i : Nat) : Bool := match ops[i]? with | some o => o.guard.isNone | none => false
def enuB (rm j q : Nat) : Bool := rm / 2 ^ j % 2 == 1 && (q &&& rm) == 0
def enuC (md : Region.Mode) (ops : Array Oper) (wr : Nat → Bool) (S : List (Nat × Nat × Nat)) (goal : Array Bool) : Nat → Array Bool → Nat → Bool
 | 0, sl, _ => sl == goal
 | n + 1, sl, rm => !(Region.ready md ops sl).isEmpty && (Region.ready md ops sl).all fun j => ngG ops j && (S.any fun x => x.1 == j && enuB rm j x.2.2 && (x.2.1 == 11 || (x.2.1 == 12 && wr j))) && enuC md ops wr S goal n (sl.setIfInBounds j true) (rm - 2 ^ j)
def schedC (md : Region.Mode) (ops : Array Oper) (wr : Nat → Bool) : Array Bool → List (Nat × Option Nat) → List (Nat × Nat × Nat) → Bool
 | sl, L, [] => L.isEmpty && (Region.ready md ops sl).isEmpty
 | sl, L, (i, t, p) :: r => match t with
  | 0 => (Region.ready md ops sl).contains i && !(idsL L).contains i && freeE md ops wr sl i && (idsL L).all (apB ops i) && schedC md ops wr (sl.setIfInBounds i true) L r
  | 1 => (Region.ready md ops sl).contains i && (Region.ready md ops (lstB sl (idsL L)) == [i]) && (idsL L).all (apB ops i) && schedC md ops wr (sl.setIfInBounds i true) L r
  | 2 => (Region.ready md ops sl).contains i && (Region.ready md ops (lstB sl (idsL L)) == [i]) && (idsL L).all (apB ops i) && wr i && schedC md ops wr (sl.setIfInBounds i true) L r
  | 3 => L.contains (i, none) && (Region.ready md ops (lstB sl (idsL (L.filter fun x => x.1 != i)))).all (fun j => (idsL L).contains j) && schedC md ops wr (sl.setIfInBounds i true) (L.filter fun x => x.1 != i) r
  | 4 => (Region.ready md ops sl).contains i && !(idsL L).contains i && mkG ops i && (idsL L).all (apB ops i) && schedC md ops wr sl ((i, none) :: L) r
  | 5 => (Region.ready md ops sl).contains i && !(idsL L).contains i && freeP md ops sl i && (idsL L).all (apB ops i) && schedC md ops wr (sl.setIfInBounds i true) L r
  | 6 => L.contains (p, none) && !(idsL L).contains i && !(sl.getD i true) && prG md ops i p && wr i && (Region.ready md ops (lstB sl (L.map (·.1)))).contains i && (idsL (L.filter fun x => x.1 != p)).all (apB ops i) && schedC md ops wr sl ((p, some i) :: L.filter fun x => x.1 != p) r
  | 7 => L.contains (p, some i) && (Region.ready md ops (lstB sl (idsL (L.filter fun x => x.1 != p)))).all (fun j => (idsL L).contains j) && (Region.ready md ops (lstB sl (p :: idsL (L.filter fun x => x.1 != p)))).all (fun j => (idsL L).contains j) && schedC md ops wr ((sl.setIfInBounds p true).setIfInBounds i true) (L.filter fun x => x.1 != p) r
  | 8 => L.isEmpty && (Region.ready md ops sl).contains i && (Region.ready md ops sl).contains p && (Region.ready md ops sl).all (fun j => j == i || j == p) && (Region.ready md ops (sl.setIfInBounds i true) == [p]) && (Region.ready md ops (sl.setIfInBounds p true) == [i]) && lsG ops i p && wr p && apB ops i p && schedC md ops wr ((sl.setIfInBounds i true).setIfInBounds p true) [] r
  | 9 => L.isEmpty && (Region.ready md ops sl).contains i && (Region.ready md ops sl).contains p && (Region.ready md ops sl).all (fun j => j == i || j == p) && (Region.ready md ops (sl.setIfInBounds i true)).all (fun j => j == p || j == i + 1) && (Region.ready md ops (sl.setIfInBounds p true) == [i]) && (Region.ready md ops ((sl.setIfInBounds i true).setIfInBounds p true) == [i + 1]) && (Region.ready md ops ((sl.setIfInBounds i true).setIfInBounds (i + 1) true) == [p]) && lsG ops i p && ngG ops (i + 1) && wr p && apB ops i p && apB ops (i + 1) p && schedC md ops wr (((sl.setIfInBounds i true).setIfInBounds p true).setIfInBounds (i + 1) true) [] r
  | 10 => L.isEmpty && enuC md ops wr (r.take i) (lstB sl ((r.take i).map (·.1))) i sl p && schedC md ops wr (lstB sl ((r.take i).map (·.1))) [] r
  | 11 => schedC md ops wr sl L r
  | 12 => schedC md ops wr sl L r
  | _ => false

theorem set_getD (al : Array Bool) (i j : Nat) (d : Bool) : (al.setIfInBounds i true).getD j d = if i = j ∧ i < al.size then true else al.getD j d := by
 by_cases h : i = j
 ·
  subst h
  by_cases hs : i < al.size
  ·
   simp [hs]
  ·
   simp [hs]
 ·
  rw [getD_set_ne d h, if_neg (fun e => h e.1)]
structure LsR (sl al : Array Bool) (ids : List Nat) : Prop where
 a1 : ∀ j : Nat, sl.getD j false = true → al.getD j false = true
 a2 : ∀ j : Nat, al.getD j true = false → sl.getD j true = false
 a3 : ∀ j : Nat, al.getD j false = true → sl.getD j false = true ∨ j ∈ ids
 a4 : ∀ j : Nat, sl.getD j true = false → j ∉ ids → al.getD j true = false
theorem LsR.refl (al : Array Bool) : LsR al al [] := ⟨fun _ h => h, fun _ h => h, fun _ h => .inl h, fun _ h _ => h⟩
theorem LsR.set {sl al : Array Bool} {ids : List Nat} (h : LsR sl al ids) (hs : sl.size = al.size) (i : Nat) : LsR (sl.setIfInBounds i true) (al.setIfInBounds i true) ids := by
 refine ⟨fun j hj => ?_, fun j hj => ?_, fun j hj => ?_, fun j hj hn => ?_⟩ <;> rw [set_getD] at hj ⊢
 ·
  split at hj
  ·
   rw [if_pos (by rename_i hc; exact ⟨hc.1, by omega⟩)]
  ·
   split
   ·
    rfl
   ·
    exact h.a1 j hj
 ·
  split at hj
  ·
   cases hj
  ·
   rename_i hc
   rw [if_neg (fun e => hc ⟨e.1, by omega⟩)]
   exact h.a2 j hj
 ·
  split at hj
  ·
   rename_i hc
   rw [if_pos ⟨hc.1, by omega⟩]
   exact .inl rfl
  ·
   rename_i hc
   rw [if_neg (fun e => hc ⟨e.1, by omega⟩)]
   exact h.a3 j hj
 ·
  split at hj
  ·
   cases hj
  ·
   rename_i hc
   rw [if_neg (fun e => hc ⟨e.1, by omega⟩)]
   exact h.a4 j hj hn
theorem LsR.early {sl al : Array Bool} {ids : List Nat} (h : LsR sl al ids) {i : Nat} (hi : i ∈ ids) : LsR sl (al.setIfInBounds i true) ids := by
 refine ⟨fun j hj => ?_, fun j hj => ?_, fun j hj => ?_, fun j hj hn => ?_⟩
 ·
  rw [set_getD]
  split
  ·
   rfl
  ·
   exact h.a1 j hj
 ·
  rw [set_getD] at hj
  split at hj
  ·
   cases hj
  ·
   exact h.a2 j hj
 ·
  rw [set_getD] at hj
  split at hj
  ·
   rename_i hc
   exact .inr (hc.1 ▸ hi)
  ·
   exact h.a3 j hj
 ·
  rw [set_getD, if_neg (fun (e : i = j ∧ i < al.size) => hn (e.1 ▸ hi))]
  exact h.a4 j hj hn
theorem LsR.fin {sl al : Array Bool} {ids ids' : List Nat} (h : LsR sl al ids) {i : Nat} (hs : sl.size = al.size) (hi : i < al.size) (ha : al.getD i false = true) (hn : ∀ j ∈ ids, j ∈ ids' ∨ j = i) (hs' : ∀ j ∈ ids', j ∈ ids) : LsR (sl.setIfInBounds i true) al ids' := by
 have ha' : al.getD i true = true := by
  have e : al.getD i true = al.getD i false := by simp [hi]
  rw [e, ha]
 refine ⟨fun j hj => ?_, fun j hj => ?_, fun j hj => ?_, fun j hj hno => ?_⟩
 ·
  rw [set_getD] at hj
  split at hj
  ·
   rename_i hc; rw [← hc.1]; exact ha
  ·
   exact h.a1 j hj
 ·
  rw [set_getD, if_neg (fun (e : i = j ∧ i < sl.size) => by rw [← e.1, ha'] at hj; cases hj)]
  exact h.a2 j hj
 ·
  rw [set_getD]
  by_cases hj' : i = j
  ·
   rw [if_pos ⟨hj', by omega⟩]; exact .inl rfl
  ·
   rw [if_neg (fun e => hj' e.1)]
   rcases h.a3 j hj with h1 | h1
   ·
    exact .inl h1
   ·
    rcases hn j h1 with h2 | h2
    ·
     exact .inr h2
    ·
     exact absurd h2.symm hj'
 ·
  rw [set_getD] at hj
  split at hj
  ·
   cases hj
  ·
   rename_i hc
   refine h.a4 j hj fun hin => ?_
   rcases hn j hin with h2 | h2
   ·
    exact hno h2
   ·
    exact hc ⟨h2.symm, by omega⟩
theorem LsR.more {sl al : Array Bool} {ids ids' : List Nat} (h : LsR sl al ids) (hs : ∀ j ∈ ids, j ∈ ids') : LsR sl al ids' :=
 ⟨h.a1, h.a2, fun j hj => (h.a3 j hj).imp id (hs j), fun j hj hn => h.a4 j hj fun hin => hn (hs j hin)⟩
section
variable {md : Region.Mode} {ops : Array Oper}
theorem rdy_le {x y : Array Bool} {j : Nat} (h : j ∈ Region.ready md ops x) (hle : ∀ q : Nat, x.getD q false = true → y.getD q false = true) (hu : y.getD j true = false) : j ∈ Region.ready md ops y := by
 rw [mem_ready] at *
 obtain ⟨_, o, ho, hall⟩ := h
 exact ⟨hu, o, ho, fun e he hb => hle _ (hall e he hb)⟩
theorem rdy_lt {x : Array Bool} {j : Nat} (h : j ∈ Region.ready md ops x) : j < ops.size := by
 obtain ⟨_, o, ho, _⟩ := mem_ready.1 h
 exact (Array.getElem?_eq_some_iff.1 ho).1
theorem lstB_t : ∀ (l : List Nat) (sl : Array Bool) (j : Nat), (sl.getD j false = true ∨ (j ∈ l ∧ j < sl.size)) → (lstB sl l).getD j false = true
 | [], sl, j, h => by
  rcases h with h | ⟨h, _⟩
  ·
   exact h
  ·
   simp at h
 | i :: l, sl, j, h => by
  show (lstB (sl.setIfInBounds i true) l).getD j false = true
  refine lstB_t l _ j ?_
  rw [set_getD]
  rcases h with h | ⟨h, hlt⟩
  ·
   left
   split
   ·
    rfl
   ·
    exact h
  ·
   rcases List.mem_cons.1 h with rfl | h
   ·
    left; rw [if_pos ⟨rfl, hlt⟩]
   ·
    right; exact ⟨h, by simpa using hlt⟩
theorem lstB_f : ∀ (l : List Nat) (sl : Array Bool) (j : Nat), sl.getD j true = false → j ∉ l → (lstB sl l).getD j true = false
 | [], sl, j, h, _ => h
 | i :: l, sl, j, h, hn => by
  show (lstB (sl.setIfInBounds i true) l).getD j true = false
  simp only [List.mem_cons, not_or] at hn
  refine lstB_f l _ j ?_ hn.2
  rw [set_getD, if_neg (fun e => hn.1 e.1.symm)]
  exact h
def unl (al : Array Bool) : Nat := (al.toList.filter fun b => !b).length
theorem unl_set {al : Array Bool} {i : Nat} (h : al.getD i true = false) : unl (al.setIfInBounds i true) + 1 = unl al := by
 have aux : ∀ (l : List Bool) (i : Nat), l[i]? = some false → ((l.set i true).filter fun b => !b).length + 1 = (l.filter fun b => !b).length := by
  intro l
  induction l with
  | nil => intro i h; simp at h
  | cons b l ih =>
   intro i h
   cases i with
   | zero => simp at h; subst h; simp
   | succ i =>
    have := ih i (by simpa using h)
    cases b <;> simp [List.set_cons_succ] at this ⊢ <;> omega
 unfold unl
 rw [Array.toList_setIfInBounds]
 refine aux _ _ ?_
 have hlt : i < al.size := by
  rcases Nat.lt_or_ge i al.size with h1 | h1
  ·
   exact h1
  ·
   simp [h1] at h
 rw [Array.getElem?_toList, Array.getElem?_eq_getElem hlt]
 simp [hlt] at h
 rw [h]
theorem unl_rep (n : Nat) : unl (Array.replicate n false) = n := by
 unfold unl
 rw [Array.toList_replicate]
 simp
theorem mem_ids {L : List (Nat × Option Nat)} {j : Nat} : j ∈ idsL L ↔ ∃ x ∈ L, j = x.1 ∨ x.2 = some j := by
 unfold idsL
 rw [List.mem_flatMap]
 constructor
 ·
  rintro ⟨x, hx, h⟩
  refine ⟨x, hx, ?_⟩
  rcases List.mem_cons.1 h with h | h
  ·
   exact .inl h
  ·
   exact .inr (by simpa using h)
 ·
  rintro ⟨x, hx, h⟩
  refine ⟨x, hx, ?_⟩
  rcases h with h | h
  ·
   rw [h]; simp
  ·
   exact List.mem_cons_of_mem _ (by simpa using h)
theorem apB_spec {i l : Nat} {x y : Oper} (h : apB ops i l = true) (hx : ops[i]? = some x) (hy : ops[l]? = some y) : x.apart ops y = true := by
 unfold apB at h
 rw [hx, hy] at h
 exact h
theorem apart_symm {x y : Oper} (h : x.apart ops y = true) : y.apart ops x = true := by
 obtain ⟨h1, h2, h3⟩ := Oper.apart_spec h
 unfold Oper.apart
 cases hx : x.dst with
 | none =>
  cases hy : y.dst with
  | none => rfl
  | some e =>
   have := h3 e hy
   simp [this]
 | some d =>
  cases hy : y.dst with
  | none =>
   have := h1 d hx
   simp [this]
  | some e =>
   have a1 := h1 d hx
   have a2 := h2 d hx
   have a3 := h3 e hy
   rw [hy] at a2
   simp [a1, a3]
   intro he
   exact a2 (by rw [he])
theorem apB_symm {i l : Nat} (h : apB ops i l = true) : apB ops l i = true := by
 unfold apB at *
 cases hx : ops[i]? with
 | none => rw [hx] at h; cases h
 | some x =>
  cases hy : ops[l]? with
  | none => rw [hx, hy] at h; cases h
  | some y =>
   rw [hx, hy] at h
   exact apart_symm h
end
end Go.Vx

namespace Go.Vx
open Go.Eng
set_option linter.unusedSimpArgs false
set_option linter.unusedVariables false

abbrev KR := Bool → Vg → St → Prop
abbrev PostV := Bool → Exit → Vg → St → Prop

def gdV (g : V) (want : Bool) (A B : Bool → Prop) : Prop := match g with
 | .lit (.bool b) => if b = want then A true else B true
 | .tup [] => B true
 | _ => False
def cdV (v : V) (A B : Bool → Prop) : Prop := match v with
 | .lit (.bool b) => (b = true → A true) ∧ (b = false → B true)
 | _ => False
def putV (ρ : Vg) (d : Option Tmp) (v : V) : Vg := match d with
 | some d => (d, v) :: ρ
 | none => ρ
def opsV (τ : Bool) (P : Program) (all : Array Oper) : List Oper → Vg → St → KR → Prop
 | [], ρ, σ, K => K true ρ σ
 | o :: r, ρ, σ, K =>
  match o.guard with
  | none => opV τ false P o ρ σ fun τ v σ' => opsV τ P all r (putV ρ o.dst v) σ' K
  | some (j, want) =>
   match (all[j]?).bind (·.dst) with
   | some t => lkV ρ t fun g => gdV g want (fun τ => opV τ false P o ρ σ fun τ v σ' => opsV τ P all r (putV ρ o.dst v) σ' K) (fun τ => opsV τ P all r (putV ρ o.dst (.tup [])) σ K)
   | none => False
def mldV (τ : Bool) (P : Program) (o : Oper) (ρ : Vg) (σ : St) (F : FV) : Prop := match o.op with
 | .load t x => evV ρ x fun u => ldV P t u σ F
 | .slice t x lo hi mx => evV ρ x fun u => evoV ρ lo fun l => evoV ρ hi fun h => evoV ρ mx fun m => slcS P t u l h m σ F
 | .convert s t x => evV ρ x fun u => cvsV P s t u σ F
 | .call c => (match c.callee, c.argTypes.toList with
  | .builtin .len, [t] => evsV ρ c.args.toList fun us => bltV P true .len [t] us σ fun τ v _ => F τ v
  | _, _ => False)
 | .build .. | .makeInterface .. => False
 | _ => valV τ P o ρ F
theorem len_run {P : Program} {t et ty : TypeId} {cst : Array Bool} {x : Option Addr} {n c : Nat} {w : World} (ht : P.underlying t = some (.slice et)) : (builtin .len #[t] ty cst #[.slice x n c]).run P w = .ok (.value (.int .i64 n)) w := by
 unfold builtin Builtin.len_
 simp only [Sem.run_bind, List.getElem?_toArray, List.getElem?_cons_zero]
 simp only [run_underlying ht, Result.andThen_ok]
 rfl
theorem lenV_run {P : Program} {t et ty : TypeId} {z : Nat} {cst : Array Bool} {u : V} {a : Value} {F : FV} {w : World} {Im : Nat → Prop} {μ : Mu} (hel : elOf P t = some (et, z)) (hu : RepV w Im μ u a) (h : lenV u F) :
  ∃ u' v, RepV w Im μ u' v ∧ F true u' ∧ ∀ w', (builtin .len #[t] ty cst #[a]).run P w' = .ok (.value v) w' := by
 obtain ⟨ht, _⟩ := elOf_spec hel
 unfold lenV at h
 split at h
 ·
  cases hu with
  | row hp => cases hp with
   | row hl _ _ _ _ _ _ _ => subst hl; exact ⟨_, _, .lit rfl, h, fun _ => len_run ht⟩
 ·
  cases hu with
  | xrow hp => cases hp with
   | row hl _ _ _ _ _ _ _ => subst hl; exact ⟨_, _, .lit rfl, h, fun _ => len_run ht⟩
 ·
  cases hu with
  | sl _ => exact ⟨_, _, .lit rfl, h, fun _ => len_run ht⟩
 ·
  cases hu
  exact ⟨_, _, .lit rfl, h, fun _ => len_run ht⟩
 ·
  exact h.elim
theorem lenW_run {P : Program} {t ty : TypeId} {cst : Array Bool} {u : V} {a : Value} {F : FV} {w : World} {Im : Nat → Prop} {μ : Mu} (hu : RepV w Im μ u a) (h : lenW P t u F) :
  ∃ u' v, RepV w Im μ u' v ∧ F true u' ∧ ∀ w', (builtin .len #[t] ty cst #[a]).run P w' = .ok (.value v) w' := by
 unfold lenW at h
 split at h
 ·
  rename_i s
  split at h
  ·
   rename_i hst
   have ht := isStr_spec hst
   cases hu
   refine ⟨_, _, .lit rfl, h, fun w' => ?_⟩
   unfold builtin Builtin.len_
   simp only [Sem.run_bind, List.getElem?_toArray, List.getElem?_cons_zero]
   simp only [run_underlying ht, Result.andThen_ok]
   rfl
  ·
   exact h.elim
 ·
  split at h
  ·
   rename_i ez hel
   exact lenV_run (et := ez.1) (z := ez.2) hel hu h
  ·
   exact h.elim
def runV (τ : Bool) (P : Program) (o : Oper) (ρ : Vg) (σ : St) (tag : Nat) (k : KV) : Prop := match tag with
 | 0 => mldV τ P o ρ σ fun τ v => k τ v σ
 | 1 => opV τ true P o ρ σ k
 | _ => opV τ false P o ρ σ k
def stepV (τ : Bool) (P : Program) (all : Array Oper) (o : Oper) (ρ : Vg) (σ : St) (tag : Nat) (K : KR) : Prop :=
 match o.guard with
 | none => runV τ P o ρ σ tag fun τ v σ' => K τ (putV ρ o.dst v) σ'
 | some (j, want) =>
  match (all[j]?).bind (·.dst) with
  | some t => lkV ρ t fun g => gdV g want (fun τ => runV τ P o ρ σ tag fun τ v σ' => K τ (putV ρ o.dst v) σ') (fun τ => K τ (putV ρ o.dst (.tup [])) σ)
  | none => False
def lkN (ρ : Vg) (d : Option Tmp) (p : Prop) : Prop := match d with
 | some d => (match fdV ρ d with
  | none => p
  | some _ => False)
 | none => False
def sameK (u v : V) (p : Prop) : Prop := u = v ∧ p
def enuL (τ : Bool) (P : Program) (all : Array Oper) (rm : Nat) (ρ : Vg) (σ : St) (k : Bool → Nat → Vg → St → Prop) : List (Nat × Nat × Nat) → Prop
 | [] => True
 | (j, t, q) :: T => match enuB rm j q with
  | true => (nthK all.toList j fun o => runV τ P o ρ σ (t - 10) fun τ u σ' => k τ j (putV ρ o.dst u) σ') ∧ enuL τ P all rm ρ σ k T
  | false => enuL τ P all rm ρ σ k T
def enuV (P : Program) (all : Array Oper) (S : List (Nat × Nat × Nat)) : Nat → Nat → Bool → Vg → St → KR → Prop
 | 0, _, τ, ρ, σ, F => F τ ρ σ
 | n + 1, rm, τ, ρ, σ, F => enuL τ P all rm ρ σ (fun τ j ρ' σ' => enuV P all S n (rm - 2 ^ j) τ ρ' σ' F) S
def hldV (τ : Bool) (P : Program) (all : Array Oper) : List (Nat × Nat × Nat) → Vg → St → KR → Prop
 | [], ρ, σ, K => K true ρ σ
 | (i, t, p) :: r, ρ, σ, K => match t with
  | 10 => enuV P all (r.take i) i p τ ρ σ fun τ ρ' σ' => hldV τ P all r ρ' σ' K
  | 11 => hldV τ P all r ρ σ K
  | 12 => hldV τ P all r ρ σ K
  | t => nthK all.toList i fun o => match t with
  | 0 => stepV τ P all o ρ σ 0 fun τ ρ' σ' => hldV τ P all r ρ' σ' K
  | 1 => stepV τ P all o ρ σ 1 fun τ ρ' σ' => hldV τ P all r ρ' σ' K
  | 2 => stepV τ P all o ρ σ 2 fun τ ρ' σ' => hldV τ P all r ρ' σ' K
  | 3 => opV τ true P o ρ σ fun τ u σ' => hldV τ P all r (putV ρ o.dst u) σ' K
  | 4 => lkN ρ o.dst (opV τ true P o ρ σ fun τ _ _ => hldV τ P all r ρ σ K)
  | 5 => valV τ P o ρ fun τ u => hldV τ P all r (putV ρ o.dst u) σ K
  | 6 => nthK all.toList p fun q => opV τ true P q ρ σ fun τ u σ1 => opV τ false P o (putV ρ q.dst u) σ1 fun τ _ _ => hldV τ P all r ρ σ K
  | 7 => nthK all.toList p fun q => opV τ true P q ρ σ fun τ u σ1 => opV τ false P o (putV ρ q.dst u) σ1 fun τ _ σ2 => hldV τ P all r (putV ρ q.dst u) σ2 K
  | 8 => nthK all.toList p fun q => opV τ true P o ρ σ fun τ u _ => opV τ false P q ρ σ fun τ _ σ1 => opV τ true P o ρ σ1 fun τ u2 _ => sameK u2 u (hldV τ P all r (putV ρ o.dst u) σ1 K)
  | 9 => nthK all.toList p fun q => nthK all.toList (i + 1) fun c => opV τ true P o ρ σ fun τ u _ => opV τ false P q ρ σ fun τ _ σ1 => opV τ true P o ρ σ1 fun τ u2 _ => sameK u2 u (valV τ P c (putV ρ o.dst u) fun τ u3 => hldV τ P all r (putV (putV ρ o.dst u) c.dst u3) σ1 K)
  | _ => False
def thenV (K : KR) (Q : PostV) : PostV := fun τ e ρ σ => match e with
 | .normal => K τ ρ σ
 | e => Q τ e ρ σ
def blockV (id : Nat) (Q : PostV) : PostV := fun τ e ρ σ => match e with
 | .exit i => if i = id then Q τ .normal ρ σ else Q τ (.exit i) ρ σ
 | e => Q τ e ρ σ
def LoopV (k : Nat) (body : Vg → St → PostV → Prop) (ρ : Vg) (σ : St) (Q : PostV) : Prop :=
 ∃ I : Nat → Vg → St → Prop, (∃ m π ρ₀ σ₀, Emb k π ρ₀ σ₀ ρ σ ∧ I m ρ₀ σ₀) ∧
  ∀ m ρ σ, I m ρ σ → body ρ σ (thenV (fun _ ρ' σ' => ∃ m' π ρ₀ σ₀, m' < m ∧ Emb k π ρ₀ σ₀ ρ' σ' ∧ I m' ρ₀ σ₀) Q)
abbrev Plans := Nat → List (Nat × Nat × Nat)
def scopeV (Q : PostV) : PostV := fun τ e ρ σ => match e with
 | .goto _ => False
 | e => Q τ e ρ σ
def denV (τ : Bool) (P : Program) (k : Nat) (pl : Plans) : Code → Vg → St → PostV → Prop
 | .skip, ρ, σ, Q => Q true .normal ρ σ
 | .region id ops draw, ρ, σ, Q => bif draw then hldV τ P ops (pl id) ρ σ fun τ => Q τ .normal else opsV τ P ops ops.toList ρ σ fun τ => Q τ .normal
 | .seq a b, ρ, σ, Q => denV τ P k pl a ρ σ (thenV (fun τ ρ' σ' => denV τ P k pl b ρ' σ' Q) Q)
 | .cond c a b, ρ, σ, Q => evV ρ c fun v => cdV v (fun τ => denV τ P k pl a ρ σ Q) (fun τ => denV τ P k pl b ρ σ Q)
 | .block id c, ρ, σ, Q => denV τ P k pl c ρ σ (blockV id Q)
 | .loop c, ρ, σ, Q => LoopV k (denV true P k pl c) ρ σ Q
 | .exit id, ρ, σ, Q => Q true (.exit id) ρ σ
 | .ret, ρ, σ, Q => Q true .ret ρ σ
 | .scope c, ρ, σ, Q => denV τ P k pl c ρ σ (scopeV Q)
 | .label _, ρ, σ, Q => Q true .normal ρ σ
 | _, _, _, _ => False
def chk (n : Nat) (pl : Plans) : Code → Bool
 | .region id ops draw => (ops.toList.all fun o => o.dst.all (· < n)) && (!draw || (Region.noSelect ops && schedC .any ops (fun j => (pl id).any fun p => (p.1 == j && (p.2.1 == 2 || p.2.1 == 7 || p.2.1 == 12)) || ((p.2.1 == 8 || p.2.1 == 9) && p.2.2 == j)) (Array.replicate ops.size false) [] (pl id)))
 | .seq a b => chk n pl a && chk n pl b
 | .cond _ a b => chk n pl a && chk n pl b
 | .block _ c => chk n pl c
 | .loop c => chk n pl c
 | .scope c => chk n pl c
 | _ => true

structure Stq (k : Nat) (μ : Mu) (Im : Nat → Prop) (σ : St) (w : World) (μ' : Mu) (Im' : Nat → Prop) (σ' : St) (w' : World) : Prop where
 pre : ∀ i, i < k → μ'[i]? = μ[i]?
 im : ∀ b, Im b → Im' b
 ext : Ext (live μ σ) w w'
 live : ∀ b ∈ live μ' σ', b ∈ live μ σ ∨ w.heap.size ≤ b
 fresh : ∀ b, Im' b → Im b ∨ b ∈ Vx.live μ σ ∨ w.heap.size ≤ b
theorem Stp.toq {k : Nat} {μ μ' : Mu} {Im Im' : Nat → Prop} {σ σ' : St} {w w' : World} (h : Stp μ Im σ w μ' Im' σ' w') (hk : k ≤ μ.length) : Stq k μ Im σ w μ' Im' σ' w' :=
 ⟨fun i hi => by
  obtain ⟨t, e⟩ := h.pre
  rw [← e, List.getElem?_append_left (by omega)], h.im, h.ext, h.live, h.fresh⟩
theorem Stq.trans {k : Nat} {μ μ' μ'' : Mu} {Im Im' Im'' : Nat → Prop} {σ σ' σ'' : St} {w w' w'' : World} (h : Stq k μ Im σ w μ' Im' σ' w') (j : Stq k μ' Im' σ' w' μ'' Im'' σ'' w'') : Stq k μ Im σ w μ'' Im'' σ'' w'' := by
 have hz := h.ext.size
 refine ⟨fun i hi => by rw [j.pre i hi, h.pre i hi], fun b hb => j.im b (h.im b hb), h.ext.trans j.ext h.live, fun b hb => ?_, fun b hb => ?_⟩
 ·
  rcases j.live b hb with h1 | h1
  ·
   exact h.live b h1
  ·
   exact .inr (by omega)
 ·
  rcases j.fresh b hb with h1 | h1 | h1
  ·
   exact h.fresh b h1
  ·
   rcases h.live b h1 with h2 | h2
   ·
    exact .inr (.inl h2)
   ·
    exact .inr (.inr h2)
  ·
   exact .inr (.inr (by omega))

section
variable {P : Program} {k n : Nat} {pl : Plans}

def TrK (k : Nat) (μ : Mu) (Im : Nat → Prop) (σ : St) (w : World) (K : KR) (Kc : Kr) : Prop :=
 ∀ ρ' σ' μ' Im' w' ρc, Rel μ' Im' σ' w' → Stq k μ Im σ w μ' Im' σ' w' → RepG w' Im' μ' ρ' ρc → k ≤ μ'.length → K true ρ' σ' → Kc true ρc w'
def TrQ (k : Nat) (μ : Mu) (Im : Nat → Prop) (σ : St) (w : World) (Q : PostV) (Qc : Post) : Prop :=
 ∀ e ρ' σ' μ' Im' w' ρc, Rel μ' Im' σ' w' → Stq k μ Im σ w μ' Im' σ' w' → RepG w' Im' μ' ρ' ρc → k ≤ μ'.length → Q true e ρ' σ' → Qc true e ρc w'
theorem Stp.len {μ μ' : Mu} {Im Im' : Nat → Prop} {σ σ' : St} {w w' : World} (h : Stp μ Im σ w μ' Im' σ' w') : μ.length ≤ μ'.length := h.pre.length_le
theorem RepG.put {w : World} {Im : Nat → Prop} {μ : Mu} {ρ : Vg} {ρc : Rg} (h : RepG w Im μ ρ ρc) (d : Option Tmp) {u : V} {v : Value} (hv : RepV w Im μ u v) : RepG w Im μ (putV ρ d u) (put ρc d v) := by
 cases d with
 | none => exact h
 | some d => exact h.cons d hv
theorem rep_undef {w : World} {Im : Nat → Prop} {μ : Mu} : RepV w Im μ (.tup []) undef := .tup (C := []) rfl (fun i u c h => by simp at h)
theorem gdV_sound {w : World} {Im : Nat → Prop} {μ : Mu} {g : V} {v : Value} {want : Bool} {A B A' B' : Bool → Prop} (hg : RepV w Im μ g v) (h : gdV g want A B) (hA : A true → A' true) (hB : B true → B' true) : gdK v want A' B' := by
 unfold gdV at h
 split at h
 ·
  cases hg
  unfold gdK
  split at h
  ·
   rename_i hb; show (if _ = want then _ else _); rw [if_pos hb]; exact hA h
  ·
   rename_i hb; show (if _ = want then _ else _); rw [if_neg hb]; exact hB h
 ·
  cases hg with
  | @tup _ C hn _ =>
   have : C = [] := List.length_eq_zero_iff.1 hn
   subst this
   exact hB h
 ·
  exact h.elim
theorem ops_sound {all : Array Oper} {K : KR} {Kc : Kr} : ∀ (l : List Oper) (τ : Bool) (ρ : Vg) (σ : St) (μ : Mu) (Im : Nat → Prop) (w : World) (ρc : Rg), k ≤ μ.length → Rel μ Im σ w → RepG w Im μ ρ ρc → TrK k μ Im σ w K Kc → opsV τ P all l ρ σ K → opsK true P all l ρc w Kc
 | [], τ, ρ, σ, μ, Im, w, ρc, hk, r, hg, tr, h => tr ρ σ μ Im w ρc r ((Stp.refl _ _ _ _).toq hk) hg hk h
 | o :: l, τ, ρ, σ, μ, Im, w, ρc, hk, r, hg, tr, h => by
  have run : ∀ {τ τ' : Bool}, opV τ false P o ρ σ (fun τ v σ' => opsV τ P all l (putV ρ o.dst v) σ' K) → opK true P o ρc w fun τ v w' => opsK τ P all l (put ρc o.dst v) w' Kc := fun {τ τ'} h' => by
   refine opV_sound r hg h' (fun τ v w' => opsK τ P all l (put ρc o.dst v) w' Kc) fun v w' u σ' μ' Im' r' s' _ hv hK => ?_
   have hk' : k ≤ μ'.length := Nat.le_trans hk s'.len
   exact ops_sound l true _ σ' μ' Im' w' _ hk' r' ((hg.mono (s'.mono r)).put _ hv) (fun ρ'' σ'' μ'' Im'' w'' ρc' r'' s'' => tr ρ'' σ'' μ'' Im'' w'' ρc' r'' ((s'.toq hk).trans s'')) hK
  unfold opsV at h
  unfold opsK
  cases hgd : o.guard with
  | none =>
   rw [hgd] at h
   exact run (τ' := true) h
  | some jw =>
   obtain ⟨j, want⟩ := jw
   rw [hgd] at h
   simp only at h ⊢
   cases ht : (all[j]?).bind (·.dst) with
   | none => rw [ht] at h; exact h.elim
   | some t =>
    rw [ht] at h
    simp only at h ⊢
    obtain ⟨g, gv, h1, h2, h3⟩ := lkV_sound hg h
    rw [h3]
    exact gdV_sound h1 h2 (fun h => run (τ' := true) h) (fun h => ops_sound l true _ σ μ Im w _ hk r (hg.put _ rep_undef) tr h)

theorem mldV_sound {τ : Bool} {o : Oper} {ρ : Vg} {σ : St} {F : FV} {μ : Mu} {Im : Nat → Prop} {w : World} {ρc : Rg} {kk : Bool → Value → Prop} (r : Rel μ Im σ w) (hg : RepG w Im μ ρ ρc) (h : mldV τ P o ρ σ F) (hk : ∀ u v, RepV w Im μ u v → F true u → kk true v) : mldK true P o ρc w kk := by
 obtain ⟨d, op, ty, pos, af, g⟩ := o
 have val : valV τ P ⟨d, op, ty, pos, af, g⟩ ρ F → ∃ v, kk true v ∧ ∀ w' (k : Kv), opK true P ⟨d, op, ty, pos, af, g⟩ ρc w' k = k true v w' := fun h => by
  obtain ⟨u, v, h1, h2, h3⟩ := valV_sound hg h
  exact ⟨v, hk u v h1 h2, h3⟩
 have any : valV τ P ⟨d, op, ty, pos, af, g⟩ ρ F → anyE w (fun w' v => opK true P ⟨d, op, ty, pos, af, g⟩ ρc w' fun _ u w'' => w'' = w' ∧ u = v) kk := fun h => by
  obtain ⟨v, h1, h2⟩ := val h
  exact ⟨v, fun w' _ => by dsimp only; rw [h2]; exact ⟨rfl, rfl⟩, h1⟩
 unfold mldV at h
 cases op with
 | load t x =>
  obtain ⟨u, a, h1, h2, h3⟩ := evV_sound hg h
  show evK ρc x fun a => loadK P t a w fun τ v _ => kk τ v
  rw [h3]
  obtain ⟨u', v', h4, h5, h6⟩ := ldV_sound r h1 h2
  rw [h6]
  exact hk u' v' h4 h5
 | move x =>
  obtain ⟨u, a, h1, h2, h3⟩ := evV_sound hg (h : evV ρ x fun u => F true u)
  show evK ρc x fun v => kk true v
  rw [h3]
  exact hk u a h1 h2
 | assign x =>
  obtain ⟨u, a, h1, h2, h3⟩ := evV_sound hg (h : evV ρ x fun u => F true u)
  show evK ρc x fun v => kk true v
  rw [h3]
  exact hk u a h1 h2
 | pick => exact any h
 | binOp => exact any h
 | unOp => exact any h
 | convert s t x =>
  obtain ⟨u, a, h1, h2, h3⟩ := evV_sound hg h
  obtain ⟨u', v', h4, h5, h6⟩ := cvsV_sound r h1 h2
  refine (⟨v', fun w' he => ?_, hk u' v' h4 h5⟩ : anyE w (fun w' v => evK ρc x fun v' => cvtK P s t v' w' fun _ u w'' => w'' = w' ∧ u = v) kk)
  dsimp only
  rw [h3, h6 w' he]
  exact ⟨rfl, rfl⟩
 | slice t x lo hi mx =>
  obtain ⟨u, a, h1, h2, h3⟩ := evV_sound hg h
  obtain ⟨ul, al, l1, l2, l3⟩ := evoV_sound hg h2
  obtain ⟨uh, ah, i1, i2, i3⟩ := evoV_sound hg l2
  obtain ⟨um, am, m1, m2, m3⟩ := evoV_sound hg i2
  obtain ⟨u', v', h4, h5, h6⟩ := slcS_sound r h1 l1 i1 m1 m2
  have h7 : ∀ w' (k : Kv), slcK P t a al ah am w' k = k true v' w' := h6
  refine (⟨v', fun w' _ => ?_, hk u' v' h4 h5⟩ : anyE w (fun w' v => evK ρc x fun v' => evoK ρc lo fun lo => evoK ρc hi fun hi => evoK ρc mx fun mx => slcK P t v' lo hi mx w' fun _ u w'' => w'' = w' ∧ u = v) kk)
  dsimp only
  rw [h3, l3, i3, m3, h7]
  exact ⟨rfl, rfl⟩
 | fieldAddr => exact any h
 | field => exact any h
 | indexAddr => exact any h
 | index => exact any h
 | extract => exact any h
 | nilCheck => exact any h
 | build => exact (h : False).elim
 | call c =>
  obtain ⟨callee, args, ats⟩ := c
  cases callee with
  | builtin b =>
   cases b with
   | len =>
    obtain ⟨atl⟩ := ats
    match atl, h with
    | [t], h =>
     have h : evsV ρ args.toList fun us => bltV P true .len [t] us σ fun τ v _ => F τ v := h
     obtain ⟨us, vs, h4, h5, h6⟩ := evsV_sound hg h
     show evsK ρc args.toList fun args' => ∃ v, (∀ w', Ext [] w w' → (builtin .len #[t] ty (args.map fun | .const _ => true | _ => false) args'.toArray).run P w' = .ok (.value v) w') ∧ kk true v
     rw [h6]
     match us, h5 with
     | [u], h5 =>
      have h5 : lenW P t u F := h5
      obtain ⟨a, vs', rfl, h7, h8⟩ := h4.uncons
      have : vs' = [] := List.length_eq_zero_iff.1 (by simpa using h8.1)
      subst this
      obtain ⟨u', v, q1, q2, q3⟩ := lenW_run h7 h5
      exact ⟨v, fun w' _ => q3 w', hk u' v q1 q2⟩
   | _ => exact (h : False).elim
  | _ => exact (h : False).elim
 | _ => exact (h : False).elim
theorem Eq.get_lt {α : Type} {l : Array α} {i : Nat} {x : α} (h : l[i]? = some x) : i < l.size := (Array.getElem?_eq_some_iff.1 h).1
structure Pd where
 i : Nat
 d : Nat
 o : Oper
 C : List Value
 ty : TypeId
 f : Nat → Value
 st : Option (Nat × Oper × TypeId × Operand × Value)
 done : Option Nat
 sdone : Bool
def Pd.cur (m : Pd) : List Value := match m.sdone, m.st with
 | true, some x => setL m.C 0 x.2.2.2.2.cells.toList
 | _, _ => m.C
structure PdSt (P : Program) (ops : Array Oper) (wr : Nat → Bool) (sl al : Array Bool) (a : Act) (md : Region.Mode) (mk : List Nat) (m : Pd) (s : Nat) (os : Oper) (t : TypeId) (x : Operand) (v : Value) : Prop where
 hs : ops[s]? = some os
 op : os.op = .store t (.tmp m.d) x
 ds : os.dst = none
 gd : os.guard = none
 ne : x ≠ .tmp m.d
 ev : a.eval x = v
 sz : ∃ q, szOf P t = some (q + 1) ∧ v.cells.toList.length = q + 1 ∧ q + 1 ≤ m.C.length
 one : ∀ c ∈ v.cells.toList, oneC c = true
 ptr : m.f = fun b => .pointer (some ⟨b, 0, none⟩)
 alc : ∃ t0, m.o.op = .alloc t0
 al : al.getD s true = m.sdone
 wr : wr s = true
 ul : sl.getD s true = false
 rd : ∀ e ∈ os.after, Region.binds md e = true → sl.getD e.on false = true ∨ e.on ∈ mk
 aft : ∃ e ∈ os.after, Region.binds md e = true ∧ e.on = m.i
structure PdOk (P : Program) (ops : Array Oper) (mk : List Nat) (md : Region.Mode) (wr : Nat → Bool) (sl al : Array Bool) (a : Act) (ρ : Vg) (ρc : Rg) (w : World) (lv : List Nat) (Im : Nat → Prop) (w0 : Nat) (m : Pd) : Prop where
 hi : ops[m.i]? = some m.o
 mkk : mkB m.o = true
 gd : m.o.guard = none
 ds : m.o.dst = some m.d
 ex : ∀ w', (execOp a.eval m.o).run P w' = .ok (.value (m.f w'.heap.size)) (w'.alloc (.cells m.C.toArray m.ty))
 one : ∀ c ∈ m.C, oneC c = true
 fd : fdV ρ m.d = none
 slf : m.d ∉ m.o.looksAt ops
 rd : m.i ∈ Region.ready md ops sl
 dn : match m.done with
  | none => al.getD m.i true = false ∧ m.sdone = false
  | some b => al.getD m.i true = true ∧ Eng.fd ρc m.d = some (m.f b) ∧ Blk w b m.cur ∧ w0 ≤ b ∧ b ∉ lv ∧ ¬ Im b
 st : match m.st with
  | none => m.sdone = false
  | some (s, os, t, x, v) => PdSt P ops wr sl al a md mk m s os t x v
structure Sit (P : Program) (k n : Nat) (md : Region.Mode) (ops : Array Oper) (wr : Nat → Bool) (μ0 : Mu) (Im0 : Nat → Prop) (σ0 : St) (w0 : World) (L : List (Nat × Option Nat)) (sl al : Array Bool) (R : Nat → Pd) (a : Act) (ρ : Vg) (ρc : Rg) (σ : St) (μ : Mu) (Im : Nat → Prop) (w : World) : Prop where
 ss : sl.size = ops.size
 as : al.size = ops.size
 ls : LsR sl al (idsL L)
 ok : Ok n a ρc
 kl : k ≤ μ.length
 rel : Rel μ Im σ w
 rg : RepG w Im μ ρ ρc
 sq : Stq k μ0 Im0 σ0 w0 μ Im σ w
 ap : ∀ x ∈ L, ∀ y ∈ L, x.1 ≠ y.1 → apB ops x.1 y.1 = true ∧ ∀ s, y.2 = some s → apB ops x.1 s = true
 nd : ∀ x ∈ L, ∀ y ∈ L, x.1 = y.1 → x = y
 nx : ∀ x ∈ L, ∀ y ∈ L, y.2 ≠ some x.1
 ny : ∀ x ∈ L, ∀ y ∈ L, ∀ s, x.2 = some s → y.2 = some s → x = y
 ps : ∀ x ∈ L, (R x.1).i = x.1 ∧ (R x.1).st.map (·.1) = x.2 ∧ PdOk P ops (L.map (·.1)) md wr sl al a ρ ρc w (live μ σ) Im w0.heap.size (R x.1)
 ds : ∀ x ∈ L, ∀ y ∈ L, x.1 ≠ y.1 → ∀ b, (R x.1).done = some b → (R y.1).done ≠ some b
theorem eval_fd {a : Act} {ρc : Rg} {d : Nat} {v : Value} (h : Ok n a ρc) (hf : Eng.fd ρc d = some v) : a.eval (.tmp d) = v := by
 have := lk_sound h (t := d) (K := fun u => u = v) (by simp [lk, hf])
 exact this
theorem looks_opnd {ops : Array Oper} {o : Oper} {x : Nat} (h : Operand.tmp x ∈ o.op.operands.toList) : x ∈ o.looksAt ops := by
 unfold Oper.looksAt
 exact List.mem_append_left _ (List.mem_filterMap.2 ⟨.tmp x, h, rfl⟩)
theorem store_look {ops : Array Oper} {os : Oper} {t : TypeId} {y : Nat} {x : Operand} {d : Nat} (ho : os.op = .store t (.tmp y) x) (h : d ∉ os.looksAt ops) : x ≠ .tmp d := by
 rintro rfl
 refine h (looks_opnd ?_)
 rw [ho]
 simp [Op.operands]
theorem eval_ne {a : Act} {x : Operand} {d : Nat} {v : Value} (h : x ≠ .tmp d) : (a.put (some d) v).eval x = a.eval x := Act.eval_put fun e he hx => by
 cases he; exact h hx
theorem fd_ne {ρc : Rg} {d t : Nat} {v : Value} (h : d ≠ t) : Eng.fd ((d, v) :: ρc) t = Eng.fd ρc t := by rw [fd_cons, if_neg h]
theorem fdV_ne {ρ : Vg} {d t : Nat} {v : V} (h : d ≠ t) : fdV ((d, v) :: ρ) t = fdV ρ t := by rw [fdV_cons, if_neg h]
theorem noSel {ops : Array Oper} (hsel : Region.noSelect ops = true) {j : Nat} {o : Oper} (h : ops[j]? = some o) : ∀ cs b, o.op ≠ .select cs b := fun cs b => Region.noSelect_spec hsel j o cs b h
theorem wanted_nog {o : Oper} (h : o.guard = none) (y : Nat → Option Bool) : Region.wanted o y = true := wanted_none h y

section
variable {md : Region.Mode} {ops : Array Oper} {wr : Nat → Bool} {μ0 : Mu} {Im0 : Nat → Prop} {σ0 : St} {w0 : World} {L : List (Nat × Option Nat)} {sl al : Array Bool} {R : Nat → Pd} {a : Act} {ρ : Vg} {ρc : Rg} {σ : St} {μ : Mu} {Im : Nat → Prop} {w : World}

theorem PdOk.more {mk mk' : List Nat} {lv : List Nat} {z : Nat} {m : Pd} (q : PdOk P ops mk md wr sl al a ρ ρc w lv Im z m) (hs : ∀ j ∈ mk, j ∈ mk') : PdOk P ops mk' md wr sl al a ρ ρc w lv Im z m := by
 refine ⟨q.hi, q.mkk, q.gd, q.ds, q.ex, q.one, q.fd, q.slf, q.rd, q.dn, ?_⟩
 have hst := q.st
 cases hms : m.st with
 | none => rw [hms] at hst; exact hst
 | some y =>
  obtain ⟨s, os, t, x', v'⟩ := y
  rw [hms] at hst
  exact ⟨hst.hs, hst.op, hst.ds, hst.gd, hst.ne, hst.ev, hst.sz, hst.one, hst.ptr, hst.alc, hst.al, hst.wr, hst.ul, fun e he hb => (hst.rd e he hb).imp id (hs _), hst.aft⟩
theorem Sit.step (hsel : Region.noSelect ops = true) (h : Sit P k n md ops wr μ0 Im0 σ0 w0 L sl al R a ρ ρc σ μ Im w) {i : Nat} {o : Oper} (ho : ops[i]? = some o) (hdo : o.dst.all (· < n) = true) (hap : ∀ l ∈ idsL L, apB ops i l = true)
  (hni : i ∉ idsL L) {u : V} {v : Value} {w' : World} {σ' : St} {μ' : Mu} {Im' : Nat → Prop} (r' : Rel μ' Im' σ' w') (s' : Stp μ Im σ w μ' Im' σ' w') (hv : RepV w' Im' μ' u v) :
  Sit P k n md ops wr μ0 Im0 σ0 w0 L (sl.setIfInBounds i true) (al.setIfInBounds i true) R (a.put o.dst v) (putV ρ o.dst u) (put ρc o.dst v) σ' μ' Im' w' := by
 refine ⟨by simpa using h.ss, by simpa using h.as, h.ls.set (by rw [h.ss, h.as]) i, put_ok h.ok hdo v, Nat.le_trans h.kl s'.len, r', (h.rg.mono (s'.mono h.rel)).put _ hv, h.sq.trans (s'.toq h.kl), h.ap, h.nd, h.nx, h.ny, fun x hx => ?_, h.ds⟩
 obtain ⟨e1, e2, q⟩ := h.ps x hx
 generalize hm : R x.1 = m at *
 have hmi : m.i ∈ idsL L := mem_ids.2 ⟨x, hx, .inl e1⟩
 have hne : i ≠ m.i := fun e => hni (e ▸ hmi)
 obtain ⟨p1, p2, p3⟩ := Oper.apart_spec (apB_spec (hap _ hmi) ho q.hi)
 have hrd : ∀ {j : Nat} {z : Array Bool}, j ∈ Region.ready md ops z → j ≠ i → j ∈ Region.ready md ops (z.setIfInBounds i true) := fun hj hn => ready_mono hj hn
 refine ⟨e1, e2, q.hi, q.mkk, q.gd, q.ds, fun w'' => ?_, q.one, ?_, q.slf, hrd q.rd hne.symm, ?_, ?_⟩
 ·
  rw [execOp_put (ops := ops) m.o (noSel hsel q.hi) a o.dst v p1]
  exact q.ex w''
 ·
  cases hd : o.dst with
  | none => exact q.fd
  | some d =>
   rw [hd] at p2
   have := p2 d rfl
   rw [q.ds] at this
   show fdV ((d, u) :: ρ) m.d = none
   rw [fdV_ne (fun e => this (by rw [e]))]
   exact q.fd
 ·
  have hdn := q.dn
  cases hmd : m.done with
  | none =>
   rw [hmd] at hdn
   exact ⟨by rw [set_getD, if_neg (fun e => hne e.1)]; exact hdn.1, hdn.2⟩
  | some b =>
   rw [hmd] at hdn
   obtain ⟨d1, d2, d3, d4, d5, d6⟩ := hdn
   have hlt := d3.lt
   refine ⟨by rw [set_getD, if_neg (fun e => hne e.1)]; exact d1, ?_, d3.ext s'.ext d5, d4, fun hb => ?_, fun hb => ?_⟩
   ·
    cases hd : o.dst with
    | none => exact d2
    | some d =>
     rw [hd] at p2
     have := p2 d rfl
     rw [q.ds] at this
     show Eng.fd ((d, v) :: ρc) m.d = _
     rw [fd_ne (fun e => this (by rw [e]))]
     exact d2
   ·
    rcases s'.live b hb with h1 | h1
    ·
     exact d5 h1
    ·
     omega
   ·
    rcases s'.fresh b hb with h1 | h1 | h1
    ·
     exact d6 h1
    ·
     exact d5 h1
    ·
     omega
 ·
  have hst := q.st
  cases hms : m.st with
  | none => rw [hms] at hst; exact hst
  | some y =>
   obtain ⟨s, os, t, x', v'⟩ := y
   rw [hms] at hst
   have hsi : s ∈ idsL L := mem_ids.2 ⟨x, hx, .inr (by rw [← e2, hms]; rfl)⟩
   have hsn : i ≠ s := fun e => hni (e ▸ hsi)
   obtain ⟨t1, t2, t3⟩ := Oper.apart_spec (apB_spec (hap _ hsi) ho hst.hs)
   refine ⟨hst.hs, hst.op, hst.ds, hst.gd, hst.ne, ?_, hst.sz, hst.one, hst.ptr, hst.alc, by rw [set_getD, if_neg (fun e => hsn e.1)]; exact hst.al, hst.wr, by rw [set_getD, if_neg (fun e => hsn e.1)]; exact hst.ul, ?_, hst.aft⟩
   ·
    cases hd : o.dst with
    | none => exact hst.ev
    | some d => rw [hd] at t1; rw [eval_ne (store_look hst.op (t1 d rfl))]; exact hst.ev
   ·
    exact fun e he hb => (hst.rd e he hb).imp getD_set_true id
theorem alloc_inj {w : World} {x y : Obj} (h : w.alloc x = w.alloc y) : x = y := by
 have := congrArg World.heap h
 unfold World.alloc at this
 have h2 := congrArg (fun (a : Array Obj) => a[w.heap.size]?) this
 simpa using h2
theorem Sit.make (hsel : Region.noSelect ops = true) (hd : ∀ (i : Nat) o, ops[i]? = some o → o.dst.all (· < n) = true) (h : Sit P k n md ops wr μ0 Im0 σ0 w0 L sl al R a ρ ρc σ μ Im w) {x : Nat × Option Nat} (hx : x ∈ L) (hu : al.getD x.1 true = false) {Q : Exit → Act → World → Prop} {F : Act → World → Prop}
  (hF : ∀ a' w' R' ρc', Ext [] w w' → Sit P k n md ops wr μ0 Im0 σ0 w0 L sl (al.setIfInBounds x.1 true) R' a' ρ ρc' σ μ Im w' → F a' w') : wpOp P ops Q x.1 F a w := by
 obtain ⟨e1, e2, q⟩ := h.ps x hx
 generalize hm : R x.1 = m at *
 have hdone : m.done = none := by
  cases hmd : m.done with
  | none => rfl
  | some b =>
   have hdn := q.dn
   rw [hmd] at hdn
   rw [← e1, hdn.1] at hu
   cases hu
 have hdn := q.dn
 rw [hdone] at hdn
 have hdo := hd _ _ q.hi
 rw [q.ds] at hdo
 have hxi : x.1 ∈ idsL L := mem_ids.2 ⟨x, hx, .inl rfl⟩
 unfold wpOp
 rw [← e1, q.hi]
 simp only
 rw [if_pos (wanted_nog q.gd _)]
 refine .inl ?_
 unfold Oper.wp
 rw [q.ex w, Oper.upon_value, q.ds]
 have hx0 : Ext [] w (w.alloc (.cells m.C.toArray m.ty)) := (Ext.refl [] w).alloc _
 obtain ⟨r', s'⟩ := h.rel.still hx0
 refine hF _ _ (fun j => if j = x.1 then { m with done := some w.heap.size } else R j) ((m.d, m.f w.heap.size) :: ρc) hx0 ?_
 have hlt : x.1 < al.size := by rw [h.as, ← e1]; exact Eq.get_lt q.hi
 refine ⟨h.ss, by simpa using h.as, h.ls.early hxi, ?_, h.kl, r', ?_, h.sq.trans (s'.toq h.kl), h.ap, h.nd, h.nx, h.ny, fun y hy => ?_, fun y hy z hz hyz b => ?_⟩
 ·
  exact put_ok h.ok hdo _
 ·
  intro t u hu'
  obtain ⟨v, h1, h2⟩ := (h.rg.mono (s'.mono h.rel)) t u hu'
  have : m.d ≠ t := fun e => by rw [← e, q.fd] at hu'; cases hu'
  exact ⟨v, by rw [fd_ne this]; exact h1, h2⟩
 ·
  obtain ⟨f1, f2, p⟩ := h.ps y hy
  by_cases hyx : y.1 = x.1
  ·
   have := h.nd y hy x hx hyx
   subst this
   rw [if_pos rfl]
   dsimp only
   refine ⟨e1, e2, q.hi, q.mkk, q.gd, q.ds, fun w'' => ?_, q.one, q.fd, q.slf, q.rd, ?_, ?_⟩
   ·
    have hna : ∀ d, some m.d = some d → d ∉ m.o.looksAt ops := fun d he hl => by
     cases he
     exact q.slf hl
    dsimp only
    rw [execOp_put (ops := ops) m.o (noSel hsel q.hi) a (some m.d) _ hna]
    exact q.ex w''
   ·
    dsimp only
    refine ⟨by rw [e1, set_getD, if_pos ⟨rfl, hlt⟩], by rw [fd_cons, if_pos rfl], ?_, ?_, fun hb => ?_, fun hb => ?_⟩
    ·
     have : ({ m with done := some w.heap.size } : Pd).cur = m.C := by
      unfold Pd.cur
      rw [hdn.2]
     rw [this]
     exact Blk.new _ _ _
    ·
     exact h.sq.ext.size
    ·
     have := h.rel.lt hb; omega
    ·
     have := (h.rel.im _ hb).1; omega
   ·
    have hst := q.st
    cases hms : m.st with
    | none => rw [hms] at hst; exact hst
    | some z =>
     obtain ⟨s, os, t, x', v'⟩ := z
     rw [hms] at hst
     have hsx : s ≠ y.1 := fun e => h.nx y hy y hy (by rw [← e2, hms, ← e]; rfl)
     exact ⟨hst.hs, hst.op, hst.ds, hst.gd, hst.ne, by rw [eval_ne hst.ne]; exact hst.ev, hst.sz, hst.one, hst.ptr, hst.alc, by rw [set_getD, if_neg (fun e => hsx e.1.symm)]; exact hst.al, hst.wr, hst.ul, hst.rd, hst.aft⟩
  ·
   rw [if_neg hyx]
   generalize hmy : R y.1 = m2 at *
   obtain ⟨ap1, ap2⟩ := h.ap x hx y hy (fun e => hyx e.symm)
   obtain ⟨p1, p2, p3⟩ := Oper.apart_spec (apB_spec ap1 (e1 ▸ q.hi) (f1 ▸ p.hi))
   rw [q.ds] at p1 p2
   have hdd : m.d ≠ m2.d := fun e => by
    have := p2 _ rfl
    rw [p.ds, e] at this
    exact this rfl
   refine ⟨f1, f2, p.hi, p.mkk, p.gd, p.ds, fun w'' => ?_, p.one, p.fd, p.slf, p.rd, ?_, ?_⟩
   ·
    rw [execOp_put (ops := ops) m2.o (noSel hsel p.hi) a (some m.d) _ (fun d he => p1 d he)]
    exact p.ex w''
   ·
    have hdn2 := p.dn
    cases hmd : m2.done with
    | none =>
     rw [hmd] at hdn2
     exact ⟨by rw [f1, set_getD, if_neg (fun e => hyx e.1.symm), ← f1]; exact hdn2.1, hdn2.2⟩
    | some b =>
     rw [hmd] at hdn2
     obtain ⟨d1, d2, d3, d4, d5, d6⟩ := hdn2
     exact ⟨by rw [f1, set_getD, if_neg (fun e => hyx e.1.symm), ← f1]; exact d1, by rw [fd_ne hdd]; exact d2, d3.alloc _, d4, d5, d6⟩
   ·
    have hst := p.st
    cases hms : m2.st with
    | none => rw [hms] at hst; exact hst
    | some z =>
     obtain ⟨s, os, t, x', v'⟩ := z
     rw [hms] at hst
     have hy2 : y.2 = some s := by rw [← f2, hms]; rfl
     have hsx : s ≠ x.1 := fun e => h.nx x hx y hy (by rw [hy2, e])
     obtain ⟨t1, t2, t3⟩ := Oper.apart_spec (apB_spec (ap2 s hy2) (e1 ▸ q.hi) hst.hs)
     rw [q.ds] at t1
     exact ⟨hst.hs, hst.op, hst.ds, hst.gd, hst.ne, by rw [eval_ne (store_look hst.op (t1 _ rfl))]; exact hst.ev, hst.sz, hst.one, hst.ptr, hst.alc, by rw [set_getD, if_neg (fun e => hsx e.1.symm)]; exact hst.al, hst.wr, hst.ul, hst.rd, hst.aft⟩
 ·
  intro h1 h2
  by_cases hyx : y.1 = x.1
  ·
   by_cases hzx : z.1 = x.1
   ·
    exact hyz (hyx.trans hzx.symm)
   ·
    rw [if_pos hyx] at h1
    rw [if_neg hzx] at h2
    cases h1
    obtain ⟨_, _, p⟩ := h.ps z hz
    have hdn2 := p.dn
    rw [h2] at hdn2
    have := hdn2.2.2.1.lt
    omega
  ·
   rw [if_neg hyx] at h1
   by_cases hzx : z.1 = x.1
   ·
    rw [if_pos hzx] at h2
    cases h2
    obtain ⟨_, _, p⟩ := h.ps y hy
    have hdn2 := p.dn
    rw [h1] at hdn2
    have := hdn2.2.2.1.lt
    omega
   ·
    rw [if_neg hzx] at h2
    exact h.ds y hy z hz hyz b h1 h2
theorem gtt {al : Array Bool} {j : Nat} (h : al.getD j false = true) : al.getD j true = true := by
 rcases Nat.lt_or_ge j al.size with h1 | h1
 ·
  simp [h1] at h ⊢; exact h
 ·
  simp [h1] at h
theorem Rel.aside {w w' : World} {b : Nat} (r : Rel μ Im σ w) (hx : Ext [b] w w') (hb : b ∉ live μ σ) (hi : ¬ Im b) : Rel μ Im σ w' ∧ Mono μ Im w μ Im w' := by
 have hm : Mono μ Im w μ Im w' := ⟨List.prefix_refl _, fun _ h => h, fun c hc => hx.block c (r.im c hc).1 (by
  simp only [List.mem_singleton]
  rintro rfl
  exact hi hc)⟩
 refine ⟨⟨r.len, fun o ob h => ?_, r.inj, fun c hc => ⟨Nat.lt_of_lt_of_le (r.im c hc).1 hx.size, (r.im c hc).2⟩, r.lay.mono hm⟩, hm⟩
 obtain ⟨loc, h1, h2⟩ := r.rep o ob h
 refine ⟨loc, h1, h2.mono hm (fun b' q e => ?_)⟩
 subst e
 have hl := mem_live.2 ⟨o, q, ob, h1, h⟩
 exact hx.block b' (r.lt hl) (by
  simp only [List.mem_singleton]
  rintro rfl
  exact hb hl)
theorem Sit.stor (hsel : Region.noSelect ops = true) (h : Sit P k n md ops wr μ0 Im0 σ0 w0 L sl al R a ρ ρc σ μ Im w) {x : Nat × Option Nat} (hx : x ∈ L) {s : Nat} (hxs : x.2 = some s) (hr : s ∈ Region.ready md ops al) {Q : Exit → Act → World → Prop} {F : Act → World → Prop}
  (hF : ∀ w' R', wr s = true → Sit P k n md ops wr μ0 Im0 σ0 w0 L sl (al.setIfInBounds s true) R' a ρ ρc σ μ Im w' → F a w') : wpOp P ops Q s F a w := by
 obtain ⟨e1, e2, q⟩ := h.ps x hx
 generalize hm : R x.1 = m at *
 have hst := q.st
 cases hms : m.st with
 | none => rw [hms, hxs] at e2; cases e2
 | some z =>
  obtain ⟨s', os, t, x', v⟩ := z
  rw [hms] at hst
  obtain rfl : s' = s := by rw [hms, hxs] at e2; simpa using e2
  obtain ⟨hun, _, ho, hall⟩ := mem_ready.1 hr
  have hst : PdSt P ops wr sl al a md (L.map (·.1)) m s' os t x' v := hst
  rw [hst.hs] at ho
  cases ho
  have hsd : m.sdone = false := by rw [← hst.al]; exact hun
  obtain ⟨e, he, hb1, hb2⟩ := hst.aft
  have hai := gtt (hall e he hb1)
  rw [hb2] at hai
  have hdn := q.dn
  cases hmd : m.done with
  | none => rw [hmd] at hdn; rw [hdn.1] at hai; cases hai
  | some b =>
   rw [hmd] at hdn
   obtain ⟨d1, d2, d3, d4, d5, d6⟩ := hdn
   have hcur : m.cur = m.C := by unfold Pd.cur; rw [hsd]
   rw [hcur] at d3
   have hev := eval_fd h.ok d2
   rw [hst.ptr] at hev
   obtain ⟨p, hz, hn, hle⟩ := hst.sz
   have hsK := fun K' => storeK_at (P := P) (t := t) (o := 0) (K' := K') hz hn d3 (by omega) hst.one
   obtain ⟨w', hrun, hw'⟩ := storeK_run (P := P) (K := fun _ w' => w' = setB w b (setL m.C 0 v.cells.toList)) (by rw [hsK])
   subst hw'
   have hsi : s' ∈ idsL L := mem_ids.2 ⟨x, hx, .inr hxs⟩
   have hslt : s' < al.size := by rw [h.as]; exact Eq.get_lt hst.hs
   have hxb : Ext [b] w (setB w b (setL m.C 0 v.cells.toList)) := setB_ext _ _ _
   obtain ⟨r', mn⟩ := Rel.aside h.rel hxb d5 d6
   unfold wpOp
   rw [hst.hs]
   simp only
   rw [if_pos (wanted_nog hst.gd _)]
   refine .inl ?_
   unfold Oper.wp
   have hex : execOp a.eval os = (do Instr.storeAt t (a.eval (.tmp m.d)) (a.eval x'); pure .skip) := by
    obtain ⟨d, op, ty, pos, af, g⟩ := os
    have := hst.op
    dsimp only at this
    subst this
    rfl
   rw [hex, hev, hst.ev, Sem.run_bind, hrun]
   simp only [Result.andThen_ok]
   rw [show (pure Next.skip : Sem Next).run P (setB w b (setL m.C 0 v.cells.toList)) = .ok .skip (setB w b (setL m.C 0 v.cells.toList)) from rfl, Oper.upon_skip, hst.ds]
   refine hF _ (fun j => if j = x.1 then { m with sdone := true } else R j) hst.wr ?_
   refine ⟨h.ss, by simpa using h.as, h.ls.early hsi, h.ok, h.kl, r', h.rg.mono mn, ⟨h.sq.pre, h.sq.im, h.sq.ext.trans hxb (fun c hc => .inr (by simp at hc; omega)), h.sq.live, h.sq.fresh⟩, h.ap, h.nd, h.nx, h.ny, fun y hy => ?_, fun y hy z hz hyz c => ?_⟩
   ·
    obtain ⟨f1, f2, p2⟩ := h.ps y hy
    by_cases hyx : y.1 = x.1
    ·
     have := h.nd y hy x hx hyx
     subst this
     rw [if_pos rfl]
     have hsy : s' ≠ m.i := fun e => h.nx y hy y hy (by rw [hxs, e, e1])
     refine ⟨e1, e2, q.hi, q.mkk, q.gd, q.ds, q.ex, q.one, q.fd, q.slf, q.rd, ?_, ?_⟩
     ·
      dsimp only
      rw [hmd]
      refine ⟨by rw [set_getD, if_neg (fun e => hsy e.1)]; exact d1, d2, ?_, d4, d5, d6⟩
      have e9 : ∀ dn, ({ m with done := dn, sdone := true } : Pd).cur = setL m.C 0 v.cells.toList := fun dn => by
       unfold Pd.cur
       rw [hms]
      have e10 := e9 (some b)
      rw [e10]
      exact setB_heap d3
     ·
      dsimp only
      rw [hms]
      exact ⟨hst.hs, hst.op, hst.ds, hst.gd, hst.ne, hst.ev, hst.sz, hst.one, hst.ptr, hst.alc, by rw [set_getD, if_pos ⟨rfl, hslt⟩], hst.wr, hst.ul, hst.rd, hst.aft⟩
    ·
     rw [if_neg hyx]
     have hsn : s' ≠ (R y.1).i := fun e => h.nx y hy x hx (by rw [hxs, e, f1])
     refine ⟨f1, f2, p2.hi, p2.mkk, p2.gd, p2.ds, p2.ex, p2.one, p2.fd, p2.slf, p2.rd, ?_, ?_⟩
     ·
      have hdn2 := p2.dn
      cases hmd2 : (R y.1).done with
      | none =>
       rw [hmd2] at hdn2
       exact ⟨by rw [set_getD, if_neg (fun e => hsn e.1)]; exact hdn2.1, hdn2.2⟩
      | some c =>
       rw [hmd2] at hdn2
       obtain ⟨g1, g2, g3, g4, g5, g6⟩ := hdn2
       refine ⟨by rw [set_getD, if_neg (fun e => hsn e.1)]; exact g1, g2, g3.ext hxb ?_, g4, g5, g6⟩
       simp only [List.mem_singleton]
       rintro rfl
       exact h.ds x hx y hy (fun e => hyx e.symm) c (by rw [hm]; exact hmd) hmd2
     ·
      have hst2 := p2.st
      cases hms2 : (R y.1).st with
      | none => rw [hms2] at hst2; exact hst2
      | some z =>
       obtain ⟨s2, os2, t2, x2, v2⟩ := z
       rw [hms2] at hst2
       have hst2 : PdSt P ops wr sl al a md (L.map (·.1)) (R y.1) s2 os2 t2 x2 v2 := hst2
       have hy2 : y.2 = some s2 := by rw [← f2, hms2]; rfl
       have hss : s' ≠ s2 := fun e => hyx (by rw [h.ny x hx y hy s' hxs (by rw [hy2, e])])
       exact ⟨hst2.hs, hst2.op, hst2.ds, hst2.gd, hst2.ne, hst2.ev, hst2.sz, hst2.one, hst2.ptr, hst2.alc, by rw [set_getD, if_neg (fun e => hss e.1)]; exact hst2.al, hst2.wr, hst2.ul, hst2.rd, hst2.aft⟩
   ·
    intro h1 h2
    have key : ∀ y, (if y = x.1 then ({ m with sdone := true } : Pd) else R y).done = (R y).done := fun y => by
     split
     ·
      rename_i e; rw [e, hm]
     ·
      rfl
    rw [key] at h1 h2
    exact h.ds y hy z hz hyz c h1 h2
theorem Sit.flt (hsel : Region.noSelect ops = true) (hd : ∀ (i : Nat) o, ops[i]? = some o → o.dst.all (· < n) = true) (h : Sit P k n md ops wr μ0 Im0 σ0 w0 L sl al R a ρ ρc σ μ Im w) {j : Nat} (hj : j ∈ idsL L) (hr : j ∈ Region.ready md ops al) {Q : Exit → Act → World → Prop} {F : Act → World → Prop}
  (hF : ∀ a' w' R' ρc', (wr j = false → Ext [] w w') → Sit P k n md ops wr μ0 Im0 σ0 w0 L sl (al.setIfInBounds j true) R' a' ρ ρc' σ μ Im w' → F a' w') : wpOp P ops Q j F a w := by
 obtain ⟨x, hx, hjx⟩ := mem_ids.1 hj
 rcases hjx with rfl | hjx
 ·
  exact h.make hsel hd hx (mem_ready.1 hr).1 fun a' w' R' ρc' he hS => hF a' w' R' ρc' (fun _ => he) hS
 ·
  exact h.stor hsel hx hjx hr fun w' R' hw hS => hF a w' R' ρc (fun h => absurd (hw.symm.trans h) (by simp)) hS
theorem Sit.told (h : Sit P k n md ops wr μ0 Im0 σ0 w0 L sl al R a ρ ρc σ μ Im w) {x : Nat × Option Nat} (hx : x ∈ L) {b : Nat} (hb : (R x.1).done = some b) (hsd : ∀ s, x.2 = some s → al.getD s true = true)
  {ob : Ob} {u : V} (hO : RepO w Im (μ ++ [some (b, (R x.1).cur.length)]) (some (b, (R x.1).cur.length)) ob) (hu : RepV w Im (μ ++ [some (b, (R x.1).cur.length)]) u ((R x.1).f b)) :
  Sit P k n md ops wr μ0 Im0 σ0 w0 (L.filter fun y => y.1 != x.1) (x.2.toList.foldl (fun s i => s.setIfInBounds i true) (sl.setIfInBounds x.1 true)) al R a (putV ρ (R x.1).o.dst u) ρc (σ ++ [some ob]) (μ ++ [some (b, (R x.1).cur.length)]) Im w := by
 obtain ⟨e1, e2, q⟩ := h.ps x hx
 have hfil : ∀ {y : Nat × Option Nat}, y ∈ L.filter (fun y => y.1 != x.1) ↔ y ∈ L ∧ y.1 ≠ x.1 := fun {y} => by simp [List.mem_filter]
 have hdn := q.dn
 rw [hb] at hdn
 obtain ⟨d1, d2, d3, d4, d5, d6⟩ := hdn
 have mn : Mono μ Im w (μ ++ [some (b, (R x.1).cur.length)]) Im w := ⟨List.prefix_append _ _, fun _ h => h, fun _ _ => rfl⟩
 obtain ⟨r', hl'⟩ := h.rel.adopt d5 d6 hO
 have hxlt : x.1 < ops.size := by rw [← e1]; exact Eq.get_lt q.hi
 have hgt : ∀ {j : Nat}, j < al.size → al.getD j true = true → al.getD j false = true := fun {j} hj h => by
  simpa [hj] using h
 have hids : ∀ j ∈ idsL L, j ∈ idsL (L.filter fun y => y.1 != x.1) ∨ j = x.1 ∨ x.2 = some j := fun j hj => by
  obtain ⟨y, hy, hjy⟩ := mem_ids.1 hj
  by_cases hyx : y.1 = x.1
  ·
   have := h.nd y hy x hx hyx
   subst this
   exact .inr hjy
  ·
   exact .inl (mem_ids.2 ⟨y, hfil.2 ⟨hy, hyx⟩, hjy⟩)
 have hids' : ∀ j ∈ idsL (L.filter fun y => y.1 != x.1), j ∈ idsL L := fun j hj => by
  obtain ⟨y, hy, hjy⟩ := mem_ids.1 hj
  exact mem_ids.2 ⟨y, (hfil.1 hy).1, hjy⟩
 have hset : LsR (x.2.toList.foldl (fun s i => s.setIfInBounds i true) (sl.setIfInBounds x.1 true)) al (idsL (L.filter fun y => y.1 != x.1)) ∧ (x.2.toList.foldl (fun s i => s.setIfInBounds i true) (sl.setIfInBounds x.1 true)).size = ops.size := by
  have hss := h.ss
  have has := h.as
  cases hx2 : x.2 with
  | none =>
   refine ⟨h.ls.fin (by omega) (by omega) (hgt (by omega) (e1 ▸ d1)) (fun j hj => ?_) hids', by simpa using hss⟩
   rcases hids j hj with h1 | h1 | h1
   ·
    exact .inl h1
   ·
    exact .inr h1
   ·
    rw [hx2] at h1; cases h1
  | some s =>
   have hst := q.st
   cases hms : (R x.1).st with
   | none => rw [hms, hx2] at e2; cases e2
   | some z =>
    obtain ⟨s', os, t, x', v⟩ := z
    obtain rfl : s' = s := by rw [hms, hx2] at e2; simpa using e2
    rw [hms] at hst
    have hslt : s' < ops.size := Eq.get_lt (PdSt.hs hst)
    have l1 : LsR (sl.setIfInBounds x.1 true) al (s' :: idsL (L.filter fun y => y.1 != x.1)) := h.ls.fin (by omega) (by omega) (hgt (by omega) (e1 ▸ d1)) (fun j hj => by
     rcases hids j hj with h1 | h1 | h1
     ·
      exact .inl (List.mem_cons_of_mem _ h1)
     ·
      exact .inr h1
     ·
      rw [hx2] at h1; cases h1; exact .inl (by simp)) (fun j hj => by
     rcases List.mem_cons.1 hj with rfl | hj
     ·
      exact mem_ids.2 ⟨x, hx, .inr hx2⟩
     ·
      exact hids' j hj)
    refine ⟨l1.fin (by simp; omega) (by omega) (hgt (by omega) (hsd s' hx2)) (fun j hj => ?_) (fun j hj => List.mem_cons_of_mem _ hj), by simpa using hss⟩
    rcases List.mem_cons.1 hj with rfl | hj
    ·
     exact .inr rfl
    ·
     exact .inl hj
 have hrdm : ∀ {j : Nat} {z : Array Bool}, j ∈ Region.ready md ops z → j ≠ x.1 → (∀ s, x.2 = some s → j ≠ s) → j ∈ Region.ready md ops (x.2.toList.foldl (fun s i => s.setIfInBounds i true) (z.setIfInBounds x.1 true)) := fun {j z} hj h1 h2 => by
  cases hx2 : x.2 with
  | none => exact ready_mono hj h1
  | some s => exact ready_mono (ready_mono hj h1) (h2 s hx2)
 refine ⟨hset.2, h.as, hset.1, h.ok, by simp; have := h.kl; omega, r', ?_, ⟨fun i hi => ?_, h.sq.im, h.sq.ext, fun c hc => ?_, h.sq.fresh⟩, fun y hy z hz => h.ap y (hfil.1 hy).1 z (hfil.1 hz).1, fun y hy z hz => h.nd y (hfil.1 hy).1 z (hfil.1 hz).1, fun y hy z hz => h.nx y (hfil.1 hy).1 z (hfil.1 hz).1, fun y hy z hz => h.ny y (hfil.1 hy).1 z (hfil.1 hz).1, fun y hy => ?_, fun y hy z hz => h.ds y (hfil.1 hy).1 z (hfil.1 hz).1⟩
 ·
  rw [q.ds]
  intro t u' hu'
  show ∃ v, Eng.fd ρc t = some v ∧ _
  have hu'' : fdV (((R x.1).d, u) :: ρ) t = some u' := hu'
  rw [fdV_cons] at hu''
  split at hu''
  ·
   rename_i e
   cases hu''
   exact ⟨_, by rw [← e]; exact d2, hu⟩
  ·
   obtain ⟨v, h1, h2⟩ := h.rg.mono mn t u' hu''
   exact ⟨v, h1, h2⟩
 ·
  have := h.sq.pre i hi
  rw [← this, List.getElem?_append_left (by have := h.kl; omega)]
 ·
  rcases hl' c hc with h1 | rfl
  ·
   exact h.sq.live c h1
  ·
   exact .inr d4
 ·
  obtain ⟨hyL, hyx⟩ := hfil.1 hy
  obtain ⟨f1, f2, p⟩ := h.ps y hyL
  obtain ⟨ap1, ap2⟩ := h.ap x hx y hyL (fun e => hyx e.symm)
  obtain ⟨p1, p2, p3⟩ := Oper.apart_spec (apB_spec ap1 (e1 ▸ q.hi) (f1 ▸ p.hi))
  have hdd : (R x.1).d ≠ (R y.1).d := fun e => by
   have := p2 _ q.ds
   rw [p.ds, e] at this
   exact this rfl
  have hyx2 : ∀ s, x.2 = some s → y.1 ≠ s := fun s hs e => h.nx y hyL x hx (by rw [hs, e])
  refine ⟨f1, f2, p.hi, p.mkk, p.gd, p.ds, p.ex, p.one, ?_, p.slf, hrdm p.rd (by rw [f1]; exact hyx) (fun s hs => by rw [f1]; exact hyx2 s hs), ?_, ?_⟩
  ·
   rw [q.ds]
   show fdV (((R x.1).d, u) :: ρ) _ = none
   rw [fdV_ne hdd]
   exact p.fd
  ·
   have hdn2 := p.dn
   cases hmd : (R y.1).done with
   | none => rw [hmd] at hdn2; exact hdn2
   | some c =>
    rw [hmd] at hdn2
    obtain ⟨g1, g2, g3, g4, g5, g6⟩ := hdn2
    refine ⟨g1, g2, g3, g4, fun hc => ?_, g6⟩
    rcases hl' c hc with h1 | rfl
    ·
     exact g5 h1
    ·
     exact h.ds x hx y hyL (fun e => hyx e.symm) _ hb hmd
  ·
   have hst := p.st
   cases hms : (R y.1).st with
   | none => rw [hms] at hst; exact hst
   | some z =>
    obtain ⟨s, os, t, x', v⟩ := z
    rw [hms] at hst
    have hst : PdSt P ops wr sl al a md (L.map (·.1)) (R y.1) s os t x' v := hst
    have hy2 : y.2 = some s := by rw [← f2, hms]; rfl
    have hsx : s ≠ x.1 := fun e => h.nx x hx y hyL (by rw [hy2, e])
    have hss : ∀ s', x.2 = some s' → s ≠ s' := fun s' hs e => hyx (by rw [h.ny x hx y hyL s' hs (by rw [hy2, e])])
    refine ⟨hst.hs, hst.op, hst.ds, hst.gd, hst.ne, hst.ev, hst.sz, hst.one, hst.ptr, hst.alc, hst.al, hst.wr, ?_, ?_, hst.aft⟩
    ·
     cases hx2 : x.2 with
     | none => show (sl.setIfInBounds x.1 true).getD s true = false; rw [set_getD, if_neg (fun e => hsx e.1.symm)]; exact hst.ul
     | some s' =>
      show ((sl.setIfInBounds x.1 true).setIfInBounds s' true).getD s true = false
      rw [set_getD, if_neg (fun e => hss s' hx2 e.1.symm), set_getD, if_neg (fun e => hsx e.1.symm)]
      exact hst.ul
    ·
     intro e he hb
     have up : ∀ {j : Nat}, sl.getD j false = true → (x.2.toList.foldl (fun s i => s.setIfInBounds i true) (sl.setIfInBounds x.1 true)).getD j false = true := fun {j} hj => by
      cases hx2 : x.2 with
      | none => exact getD_set_true hj
      | some s' => exact getD_set_true (getD_set_true hj)
     rcases hst.rd e he hb with h1 | h1
     ·
      exact .inl (up h1)
     ·
      obtain ⟨z, hz, hze⟩ := List.mem_map.1 h1
      by_cases hzx : z.1 = x.1
      ·
       left
       rw [← hze, hzx]
       have : (sl.setIfInBounds x.1 true).getD x.1 false = true := by rw [set_getD, if_pos ⟨rfl, by rw [h.ss]; exact hxlt⟩]
       cases hx2 : x.2 with
       | none => exact this
       | some s' => exact getD_set_true this
      ·
       exact .inr (List.mem_map.2 ⟨z, hfil.2 ⟨hz, hzx⟩, hze⟩)
theorem lkV_get0 {t : Nat} {K : V → Prop} (hg : RepG w Im μ ρ ρc) (h : lkV ρ t K) : ∃ u v, Eng.fd ρc t = some v ∧ RepV w Im μ u v ∧ K u := by
 unfold lkV at h
 cases hf : fdV ρ t with
 | none => rw [hf] at h; exact h.elim
 | some u =>
  rw [hf] at h
  obtain ⟨v, h1, h2⟩ := hg t u hf
  exact ⟨u, v, h1, h2, h⟩
def bOf : Value → Option Bool
 | .bool b => some b
 | _ => none
theorem stepW {τ : Bool} {all : Array Oper} {o : Oper} {t : Nat} {K : KR} (hok : Ok n a ρc) (hg : RepG w Im μ ρ ρc) (h : stepV τ P all o ρ σ t K) :
  (Region.wanted o (yielded all a.tmps) = true ∧ ∃ τ, runV τ P o ρ σ t fun τ u σ' => K τ (putV ρ o.dst u) σ') ∨ (Region.wanted o (yielded all a.tmps) = false ∧ K true (putV ρ o.dst (.tup [])) σ) := by
 unfold stepV at h
 cases hgd : o.guard with
 | none => rw [hgd] at h; exact .inl ⟨wanted_none hgd _, τ, h⟩
 | some jw =>
  obtain ⟨j, want⟩ := jw
  rw [hgd] at h
  simp only at h
  cases ht : (all[j]?).bind (·.dst) with
  | none => rw [ht] at h; exact h.elim
  | some t' =>
   rw [ht] at h
   simp only at h
   obtain ⟨g, gv, h1, h2, h3⟩ := lkV_get0 hg h
   have hget := hok.get _ _ h1
   have hy : yielded all a.tmps j = bOf gv := by
    unfold yielded
    rw [ht]
    simp only [Option.bind_some, hget]
    cases gv <;> rfl
   have hwant : Region.wanted o (yielded all a.tmps) = (yielded all a.tmps j == some want) := by
    simp [Region.wanted, hgd]
   rw [hwant, hy]
   clear hy hget h1
   unfold gdV at h3
   split at h3
   ·
    cases h2
    rename_i b _
    show ((some b == some want) = true ∧ _) ∨ ((some b == some want) = false ∧ _)
    by_cases hb : b = want
    ·
     subst hb
     rw [if_pos rfl] at h3
     exact .inl ⟨by simp, _, h3⟩
    ·
     rw [if_neg hb] at h3
     exact .inr ⟨by cases b <;> cases want <;> simp_all, h3⟩
   ·
    cases h2 with
    | @tup _ C hn _ => exact .inr ⟨rfl, h3⟩
   ·
    exact h3.elim
theorem wpAnyE_pure {Q : Exit → Act → World → Prop} {i : Nat} {oi : Oper} {v : Value} (hi : ops[i]? = some oi) (hsel : ∀ (j : Nat) (o : Oper) cs b, ops[j]? = some o → o.op ≠ .select cs b)
  (hQ : ∀ c a w, Q (.panic c) (a.put oi.dst v) w → Q (.panic c) a w) :
  ∀ (fuel : Nat) (listed : Array Bool) (a : Act) (w : World),
   (∀ (j : Nat) oj, ops[j]? = some oj → j ≠ i → listed.getD j true = false → (∀ e ∈ oj.after, Region.binds md e = true → e.on ≠ i) → oi.apart ops oj = true) →
   i ∈ Region.ready md ops listed → Yields P ops oi v a →
   wpAnyE P md ops Q wr fuel (listed.setIfInBounds i true) (a.put oi.dst v) w → wpAnyE P md ops Q wr (fuel + 1) listed a w := by
 intro fuel
 induction fuel with
 | zero =>
  intro listed a w _ hr hy H
  refine ⟨fun h => (by rw [h] at hr; cases hr), fun j hj => ?_⟩
  by_cases hji : j = i
  ·
   subst hji; exact (hy.yieldsIf (S := fun _ => True)).wpOp hi trivial ⟨fun _ => Ext.refl _ _, H⟩
  ·
   have := ready_mono hj hji
   rw [H.1] at this
   cases this
 | succ fuel ih =>
  intro listed a w hfree hr hy H
  refine ⟨fun h => (by rw [h] at hr; cases hr), fun j hj => ?_⟩
  by_cases hji : j = i
  ·
   subst hji; exact (hy.yieldsIf (S := fun _ => True)).wpOp hi trivial ⟨fun _ => Ext.refl _ _, H⟩
  ·
   have h1 := H.2 j (ready_mono hj hji)
   obtain ⟨hjun, oj, hoj, hall⟩ := mem_ready.1 hj
   have hno : ∀ e ∈ oj.after, Region.binds md e = true → e.on ≠ i := fun e he hb hei => by
    have h2 := hall e he hb
    rw [hei, getD_both (mem_ready.1 hr).1] at h2
    cases h2
   have hap := hfree j oj hoj hji hjun hno
   have h2 := wpOp_put hoj hap (fun cs b => hsel i oi cs b hi) (fun cs b => hsel j oj cs b hoj) hQ hy h1
   refine wpOp_mono (fun a' w' h3 => ?_) h2
   obtain ⟨h4, h5, h6⟩ := h3
   refine ⟨h5, ih (listed.setIfInBounds j true) a' w' (fun q oq hq hqi hun hn => ?_) (ready_mono hr (Ne.symm hji)) h4 ?_⟩
   ·
    refine hfree q oq hq hqi ?_ hn
    by_cases hjk : j = q
    ·
     subst hjk; exact hjun
    ·
     rw [getD_set_ne true hjk] at hun; exact hun
   ·
    rw [Array.setIfInBounds_comm _ _ hji]
    exact h6
theorem nxt_val {s : Sem Value} {v : Value} {w : World} (h : nextK P (s >>= fun v => pure (Next.value v)) w fun _ u w' => w' = w ∧ u = v) : (s >>= fun v => pure (Next.value v) : Sem Next).run P w = .ok (.value v) w := by
 unfold nextK runK at h
 rw [Sem.run_bind] at h ⊢
 cases hr : s.run P w with
 | halt x w' => rw [hr] at h; exact (h : False).elim
 | ok u w' =>
  rw [hr] at h
  obtain ⟨e1, e2⟩ := (h : w' = w ∧ u = v)
  rw [e1, e2]
  rfl
theorem pure_exec {o : Oper} {v : Value} {w : World} (hok : Ok n a ρc) (hp : (match o.op with | .move _ | .assign _ | .pick .. | .binOp .. | .unOp .. | .convert .. | .slice .. | .fieldAddr .. | .field .. | .indexAddr .. | .index .. | .extract .. | .nilCheck .. | .build .. | .call { callee := .builtin .min, .. } | .call { callee := .builtin .max, .. } => true | _ => false) = true) (h : ∀ k : Kv, opK true P o ρc w k = k true v w) : (execOp a.eval o).run P w = .ok (.value v) w := by
 have h := (h fun _ u w' => w' = w ∧ u = v).mpr ⟨rfl, rfl⟩
 obtain ⟨d, op, ty, pos, af, g⟩ := o
 cases op with
 | move x =>
  have h1 := evK_sound hok (K := fun u => w = w ∧ u = v) h
  show Result.ok (Next.value (a.eval x)) w = _
  rw [h1.2]
 | assign x =>
  have h1 := evK_sound hok (K := fun u => w = w ∧ u = v) h
  show Result.ok (Next.value (a.eval x)) w = _
  rw [h1.2]
 | pick | binOp | unOp | convert | slice | fieldAddr | field | indexAddr | index | extract | nilCheck | build => exact val_sound hok trivial h
 | call c =>
  obtain ⟨callee, args, ats⟩ := c
  cases callee with
  | builtin b =>
   cases b with
   | min =>
    have h1 := evsK_sound hok (xs := args.toList) (K := fun us => nextK P (Builtin.min_ ats ty us.toArray >>= fun v => pure (Next.value v)) w fun _ u w' => w' = w ∧ u = v) h
    have e : (args.toList.map a.eval).toArray = args.map a.eval := Array.ext' (by rw [Array.toList_map])
    rw [e] at h1
    exact nxt_val h1
   | max =>
    have h1 := evsK_sound hok (xs := args.toList) (K := fun us => nextK P (Builtin.max_ ats ty us.toArray >>= fun v => pure (Next.value v)) w fun _ u w' => w' = w ∧ u = v) h
    have e : (args.toList.map a.eval).toArray = args.map a.eval := Array.ext' (by rw [Array.toList_map])
    rw [e] at h1
    exact nxt_val h1
   | _ => cases hp
  | _ => cases hp
 | _ => cases hp
theorem mk_same {o : Oper} {C C' : List Value} {ty ty' : TypeId} {f f' : Nat → Value} (w : World) (h1 : ∀ w', (execOp a.eval o).run P w' = .ok (.value (f w'.heap.size)) (w'.alloc (.cells C.toArray ty)))
  (h2 : ∀ w', (execOp a.eval o).run P w' = .ok (.value (f' w'.heap.size)) (w'.alloc (.cells C'.toArray ty'))) : C = C' ∧ ∀ b, f b = f' b := by
 have e := fun w' => (h1 w').symm.trans (h2 w')
 constructor
 ·
  have := e w
  injection this with e1 e2
  have := alloc_inj e2
  injection this with e3 e4
  simpa using congrArg Array.toList e3
 ·
  intro b
  have := e { w with heap := Array.replicate b (.cells #[] 0 (0, 0)) }
  injection this with e1 e2
  injection e1 with e3
  simpa using e3
theorem sto_sound {τ : Bool} {os q : Oper} {d : Nat} {t t0 : TypeId} {x' : Operand} {G : Bool → Vg → St → Prop} (hq : q.op = .alloc t0) (hqd : q.dst = some d) (hop : os.op = .store t (.tmp d) x') (hne : x' ≠ .tmp d) (rel : Rel μ Im σ w) (rg : RepG w Im μ ρ ρc) (hok : Ok n a ρc)
  (h : opV τ true P q ρ σ fun τ u σ1 => opV τ false P os (putV ρ q.dst u) σ1 fun τ _ σ2 => G τ (putV ρ q.dst u) σ2) :
  ∃ (C : List Value) (p : Nat) (c : List V), zeOf P t0 = some C ∧ (∀ z ∈ C, oneC z = true) ∧ szOf P t = some (p + 1) ∧ (a.eval x').cells.toList.length = p + 1 ∧ p + 1 ≤ C.length ∧ (∀ z ∈ (a.eval x').cells.toList, oneC z = true) ∧ RepL w Im μ c (a.eval x').cells.toList ∧
   G true ((d, .ref σ.length 0 0 0) :: ρ) (σ ++ [some (.cells ((C.map V.lit).take 0 ++ c ++ (C.map V.lit).drop (0 + c.length)))]) ∧ ∀ (w' : World) (k : Kv), opK true P q ρc w' k = k true (.pointer (some ⟨w'.heap.size, 0, none⟩)) (w'.alloc (.cells C.toArray t0)) := by
 obtain ⟨dq, opq, tyq, posq, afq, gq⟩ := q
 obtain ⟨do_, opo, tyo, poso, afo, go⟩ := os
 dsimp only at hq hqd hop h
 subst hq hqd hop
 have h : alcV P t0 σ fun τ u σ1 => opV τ false P ⟨do_, .store t (.tmp d) x', tyo, poso, afo, go⟩ (putV ρ (some d) u) σ1 fun τ _ σ2 => G τ (putV ρ (some d) u) σ2 := h
 unfold alcV at h
 cases hz : zeOf P t0 with
 | none => rw [hz] at h; exact h.elim
 | some C =>
  rw [hz] at h
  obtain ⟨h1, h2⟩ := allOne_iff.1 h
  have h2 : evV ((d, .ref σ.length 0 0 0) :: ρ) (.tmp d) fun u => evV ((d, .ref σ.length 0 0 0) :: ρ) x' fun v => stV P t u v (σ ++ [some (.cells (C.map V.lit))]) fun τ σ2 => G τ ((d, .ref σ.length 0 0 0) :: ρ) σ2 := h2
  have h3 : evV ((d, .ref σ.length 0 0 0) :: ρ) x' fun v => stV P t (.ref σ.length 0 0 0) v (σ ++ [some (.cells (C.map V.lit))]) fun τ σ2 => G τ ((d, .ref σ.length 0 0 0) :: ρ) σ2 := by
   have e0 : fdV ((d, V.ref σ.length 0 0 0) :: ρ) d = some (.ref σ.length 0 0 0) := by rw [fdV_cons, if_pos rfl]
   have e1 : ∀ F : V → Prop, evV ((d, V.ref σ.length 0 0 0) :: ρ) (.tmp d) F = F (.ref σ.length 0 0 0) := fun F => by
    show lkV _ d F = _
    unfold lkV
    rw [e0]
   rw [e1] at h2
   exact h2
  have h4 : evV ρ x' fun v => stV P t (.ref σ.length 0 0 0) v (σ ++ [some (.cells (C.map V.lit))]) fun τ σ2 => G τ ((d, .ref σ.length 0 0 0) :: ρ) σ2 := by
   cases x' with
   | tmp y =>
    have hy : d ≠ y := fun e => hne (by rw [e])
    have e1 : ∀ F : V → Prop, evV ((d, V.ref σ.length 0 0 0) :: ρ) (.tmp y) F = evV ρ (.tmp y) F := fun F => by
     show lkV _ y F = lkV _ y F
     unfold lkV
     rw [fdV_ne hy]
    rw [e1] at h3
    exact h3
   | const v => exact h3
   | global g => exact h3
   | func f => exact h3
  obtain ⟨u', v', g1, g2, g3⟩ := evV_sound rg h4
  have hev : a.eval x' = v' := by
   have := evK_sound hok (x := x') (K := fun z => z = v') (by rw [g3])
   exact this
  unfold stV at g2
  split at g2
  ·
   rename_i p hp
   obtain ⟨c, hc, hco, g4⟩ := clK_sound g1 g2
   obtain ⟨hcn, g5⟩ := lenK_sound g4
   have hcl : v'.cells.toList.length = p + 1 := by rw [hc.1, hcn]
   unfold wrV at g5
   simp only at g5
   obtain ⟨ob, hob, g6⟩ := obV_sound g5
   rw [get_snoc, if_neg (by omega), if_pos rfl] at hob
   cases hob
   unfold wrO at g6
   simp only at g6
   obtain ⟨g7, g8⟩ := wrK_sound g6
   unfold adr at g7 g8
   simp only [Nat.zero_mul, Nat.zero_add, List.length_map] at g7 g8
   have e : ∀ y : Option Ob, (σ ++ [some (Ob.cells (C.map V.lit))]).set σ.length y = σ ++ [y] := fun y => by simp
   rw [e] at g8
   refine ⟨C, p, c, rfl, all_mem h1, hp, by rw [hev]; exact hcl, by omega, by rw [hev]; exact hco, by rw [hev]; exact hc, by rw [Nat.zero_add]; exact g8, fun w' k => allocK_of hz⟩
  ·
   exact g2.elim
theorem hldW_nil {K : KR} {Kc : Kr} {fuel : Nat} {τ : Bool} (tr : TrK k μ0 Im0 σ0 w0 K Kc) (hs : schedC md ops wr sl L [] = true) (hS : Sit P k n md ops wr μ0 Im0 σ0 w0 L sl al R a ρ ρc σ μ Im w) (h : hldV τ P ops [] ρ σ K) : wpAnyE P md ops (Only n Kc) wr fuel al a w := by
 unfold schedC at hs
 simp only [Bool.and_eq_true, List.isEmpty_iff] at hs
 obtain ⟨rfl, hr⟩ := hs
 have hr' : Region.ready md ops al = [] := by
  cases hra : Region.ready md ops al with
  | nil => rfl
  | cons j l =>
   have hj : j ∈ Region.ready md ops al := by rw [hra]; simp
   have : j ∈ Region.ready md ops sl := rdy_le hj (fun q hq => (hS.ls.a3 q hq).resolve_right (by simp [idsL])) (hS.ls.a2 j (mem_ready.1 hj).1)
   rw [hr] at this
   cases this
 exact wpAnyE_done hr' ⟨rfl, ρc, hS.ok, tr ρ σ μ Im w ρc hS.rel hS.sq hS.rg hS.kl h⟩ fuel
theorem Sit.flook (hS : Sit P k n md ops wr μ0 Im0 σ0 w0 L sl al R a ρ ρc σ μ Im w) {j : Nat} (hj : j ∈ Region.ready md ops al) {l : List Nat} (hl : ∀ q, q ∈ idsL L → al.getD q false = true → q ∈ l) (hjl : j ∉ l) : j ∈ Region.ready md ops (lstB sl l) := by
 refine rdy_le hj (fun q hq => ?_) (lstB_f _ _ _ (hS.ls.a2 j (mem_ready.1 hj).1) hjl)
 refine lstB_t _ _ _ ?_
 rcases hS.ls.a3 q hq with h1 | h1
 ·
  exact .inl h1
 ·
  refine .inr ⟨hl q h1 hq, ?_⟩
  have : q < al.size := by
   rcases Nat.lt_or_ge q al.size with h2 | h2
   ·
    exact h2
   ·
    simp [h2] at hq
  have := hS.ss
  have := hS.as
  omega
theorem enuL_get {τ : Bool} {all : Array Oper} {rm : Nat} {ρ : Vg} {σ : St} {kk : Bool → Nat → Vg → St → Prop} {j t q : Nat} : ∀ {S : List (Nat × Nat × Nat)}, enuL τ P all rm ρ σ kk S → (j, t, q) ∈ S → enuB rm j q = true → nthK all.toList j fun o => runV τ P o ρ σ (t - 10) fun τ u σ' => kk τ j (putV ρ o.dst u) σ'
 | [], _, hm, _ => by cases hm
 | (j', t', q') :: S, h, hm, hb => by
  unfold enuL at h
  rcases List.mem_cons.1 hm with e | hm
  ·
   cases e
   rw [hb] at h
   exact h.1
  ·
   split at h
   ·
    exact enuL_get h.2 hm hb
   ·
    exact enuL_get h hm hb
theorem enu_sound {S : List (Nat × Nat × Nat)} {goal : Array Bool} {F : KR} {Kc : Kr} (hsel : Region.noSelect ops = true) (hd : ∀ (i : Nat) o, ops[i]? = some o → o.dst.all (· < n) = true) {m0 : Nat}
  (leaf : ∀ (al : Array Bool) (fuel : Nat) (τ : Bool) (a : Act) (ρ : Vg) (ρc : Rg) (σ : St) (μ : Mu) (Im : Nat → Prop) (w : World), unl al ≤ m0 → unl al ≤ fuel → Sit P k n md ops wr μ0 Im0 σ0 w0 [] goal al R a ρ ρc σ μ Im w → F τ ρ σ → wpAnyE P md ops (Only n Kc) wr fuel al a w) :
  ∀ (nn : Nat) (sl al : Array Bool) (rm fuel : Nat) (τ : Bool) (a : Act) (ρ : Vg) (ρc : Rg) (σ : St) (μ : Mu) (Im : Nat → Prop) (w : World),
   enuC md ops wr S goal nn sl rm = true → unl al ≤ m0 → unl al ≤ fuel → Sit P k n md ops wr μ0 Im0 σ0 w0 [] sl al R a ρ ρc σ μ Im w → enuV P ops S nn rm τ ρ σ F → wpAnyE P md ops (Only n Kc) wr fuel al a w := by
 intro nn
 induction nn with
 | zero =>
  intro sl al rm fuel τ a ρ ρc σ μ Im w hc hm hf hS h
  have e : sl = goal := by
   unfold enuC at hc
   exact eq_of_beq hc
  subst e
  exact leaf al fuel τ a ρ ρc σ μ Im w hm hf hS h
 | succ nn ih =>
  intro sl al rm fuel τ a ρ ρc σ μ Im w hc hm hf hS h
  unfold enuC at hc
  rw [Bool.and_eq_true] at hc
  obtain ⟨hne, hall⟩ := hc
  have hall := List.all_eq_true.1 hall
  have hni : ∀ j : Nat, j ∉ idsL [] := fun j => by simp [idsL]
  have nap : ∀ j : Nat, ∀ l ∈ idsL [], apB ops j l = true := fun j l hl => absurd hl (hni l)
  have up : ∀ {j : Nat}, j ∈ Region.ready md ops sl → j ∈ Region.ready md ops al := fun {j} hj => rdy_le hj hS.ls.a1 (hS.ls.a4 _ (mem_ready.1 hj).1 (hni _))
  have dn : ∀ {j : Nat}, j ∈ Region.ready md ops al → j ∈ Region.ready md ops sl := fun {j} hj => rdy_le hj (fun q hq => (hS.ls.a3 q hq).resolve_right (hni q)) (hS.ls.a2 _ (mem_ready.1 hj).1)
  obtain ⟨j0, hj0⟩ : ∃ j, j ∈ Region.ready md ops sl := by
   cases hr : Region.ready md ops sl with
   | nil => rw [hr] at hne; cases hne
   | cons x l => exact ⟨x, by simp⟩
  have hj0 := up hj0
  have hu0 := unl_set (mem_ready.1 hj0).1
  obtain ⟨fuel', rfl⟩ : ∃ f, fuel = f + 1 := ⟨fuel - 1, by omega⟩
  refine ⟨fun h0 => (by rw [h0] at hj0; cases hj0), fun j hj => ?_⟩
  have hx := hall j (dn hj)
  rw [Bool.and_eq_true, Bool.and_eq_true] at hx
  obtain ⟨⟨hng, hany⟩, hc'⟩ := hx
  obtain ⟨⟨j', t, q⟩, hxS, hx⟩ := List.any_eq_true.1 hany
  rw [Bool.and_eq_true, Bool.and_eq_true] at hx
  obtain ⟨⟨hjj, hb⟩, ht⟩ := hx
  have hjj : j' = j := by simpa using hjj
  subst hjj
  obtain ⟨o, ho, hrun⟩ := nthK_get (enuL_get (h : enuL τ P ops rm ρ σ (fun τ j ρ' σ' => enuV P ops S nn (rm - 2 ^ j) τ ρ' σ' F) S) hxS hb)
  have ho : ops[j']? = some o := by simpa using ho
  have gd : o.guard = none := by
   unfold ngG at hng
   rw [ho] at hng
   simpa using hng
  have hu := unl_set (mem_ready.1 hj).1
  have nxt : ∀ {v : Value} {w' : World} {u : V} {σ' : St} {μ' : Mu} {Im' : Nat → Prop}, Rel μ' Im' σ' w' → Stp μ Im σ w μ' Im' σ' w' → RepV w' Im' μ' u v → enuV P ops S nn (rm - 2 ^ j') true (putV ρ o.dst u) σ' F → wpAnyE P md ops (Only n Kc) wr fuel' (al.setIfInBounds j' true) (a.put o.dst v) w' := fun {v w' u σ' μ' Im'} r' s' hv hK =>
   ih _ _ _ fuel' true _ _ _ σ' μ' Im' w' hc' (by omega) (by omega) (hS.step hsel ho (hd _ _ ho) (nap _) (hni _) r' s' hv) hK
  unfold wpOp
  rw [ho]
  simp only
  rw [if_pos (wanted_none gd _)]
  refine .inl ?_
  have ht : t = 11 ∨ (t = 12 ∧ wr j' = true) := by simpa using ht
  rcases ht with rfl | ⟨rfl, hwr⟩
  ·
   have hrun : opV τ true P o ρ σ fun τ u σ' => enuV P ops S nn (rm - 2 ^ j') τ (putV ρ o.dst u) σ' F := hrun
   exact op_sound (τ := true) hS.ok (opV_sound hS.rel hS.rg hrun (fun _ v w' => Ext [] w w' ∧ wpAnyE P md ops (Only n Kc) wr fuel' (al.setIfInBounds j' true) (a.put o.dst v) w') fun v w' u σ' μ' Im' r' s' he hv hK => ⟨he rfl, nxt r' s' hv hK⟩) fun v w' ⟨he, hk⟩ => ⟨fun _ => he, hk⟩
  ·
   have hrun : opV τ false P o ρ σ fun τ u σ' => enuV P ops S nn (rm - 2 ^ j') τ (putV ρ o.dst u) σ' F := hrun
   exact op_sound (τ := true) hS.ok (opV_sound hS.rel hS.rg hrun (fun _ v w' => wpAnyE P md ops (Only n Kc) wr fuel' (al.setIfInBounds j' true) (a.put o.dst v) w') fun v w' u σ' μ' Im' r' s' he hv hK => nxt r' s' hv hK) fun v w' hk => ⟨fun h => absurd (hwr.symm.trans h) (by simp), hk⟩
set_option maxHeartbeats 2000000 in
theorem hldW_sound {K : KR} {Kc : Kr} (hsel : Region.noSelect ops = true) (hd : ∀ (i : Nat) o, ops[i]? = some o → o.dst.all (· < n) = true) (tr : TrK k μ0 Im0 σ0 w0 K Kc) :
  ∀ (m : Nat) (S : List (Nat × Nat × Nat)) (L : List (Nat × Option Nat)) (sl al : Array Bool) (R : Nat → Pd) (fuel : Nat) (τ : Bool) (a : Act) (ρ : Vg) (ρc : Rg) (σ : St) (μ : Mu) (Im : Nat → Prop) (w : World),
   S.length + unl al ≤ m → unl al ≤ fuel → schedC md ops wr sl L S = true → Sit P k n md ops wr μ0 Im0 σ0 w0 L sl al R a ρ ρc σ μ Im w → hldV τ P ops S ρ σ K → wpAnyE P md ops (Only n Kc) wr fuel al a w := by
 intro m
 induction m with
 | zero =>
  intro S L sl al R fuel τ a ρ ρc σ μ Im w hm hf hs hS h
  cases S with
  | nil => exact hldW_nil tr hs hS h
  | cons x S => simp at hm
 | succ m ih =>
  intro S L sl al R fuel τ a ρ ρc σ μ Im w hm hf hs hS h
  cases S with
  | nil => exact hldW_nil tr hs hS h
  | cons x r =>
   obtain ⟨i, t, p⟩ := x
   simp only [List.length_cons] at hm
   have early : ∀ {j : Nat} {fuel' : Nat}, fuel = fuel' + 1 → j ∈ Region.ready md ops al → j ∈ idsL L → wpOp P ops (Only n Kc) j (fun a' w' => (wr j = false → Ext [] w w') ∧ wpAnyE P md ops (Only n Kc) wr fuel' (al.setIfInBounds j true) a' w') a w := fun {j fuel'} hfu hj hji => by
    have hu := unl_set (mem_ready.1 hj).1
    exact hS.flt hsel hd hji hj fun a' w' R' ρc' he hS' => ⟨he, ih ((i, t, p) :: r) L sl _ R' fuel' τ a' ρ ρc' σ μ Im w' (by simp only [List.length_cons]; omega) (by omega) hs hS' h⟩
   have fu : ∀ {j : Nat}, j ∈ Region.ready md ops al → ∃ fuel', fuel = fuel' + 1 := fun {j} hj => ⟨fuel - 1, by have := unl_set (mem_ready.1 hj).1; omega⟩
   have up : ∀ {j : Nat}, j ∈ Region.ready md ops sl → j ∉ idsL L → j ∈ Region.ready md ops al := fun hj hn => rdy_le hj hS.ls.a1 (hS.ls.a4 _ (mem_ready.1 hj).1 hn)
   have cont : ∀ {l : List Nat} {j : Nat}, l.contains j = true ↔ j ∈ l := fun {l j} => List.contains_iff_mem
   have ncont : ∀ {l : List Nat} {j : Nat}, (!l.contains j) = true → j ∉ l := fun {l j} h hj => by
    rw [cont.2 hj] at h; cases h
   have one : ∀ {o : Oper} (t' : Nat), (t' = 1 ∨ (t' = 2 ∧ wr i = true)) → ops[i]? = some o → i ∈ Region.ready md ops sl → Region.ready md ops (lstB sl (idsL L)) = [i] → (∀ l ∈ idsL L, apB ops i l = true) → schedC md ops wr (sl.setIfInBounds i true) L r = true → stepV τ P ops o ρ σ t' (fun τ ρ' σ' => hldV τ P ops r ρ' σ' K) → wpAnyE P md ops (Only n Kc) wr fuel al a w := by
    intro o t' ht' ho hrs heq hap hs' hstep
    have hni : i ∉ idsL L := fun hin => by
     have h1 : i ∈ Region.ready md ops (lstB sl (idsL L)) := by rw [heq]; simp
     have h2 := lstB_t (idsL L) sl i (.inr ⟨hin, by have := rdy_lt hrs; have := hS.ss; omega⟩)
     have h3 := (mem_ready.1 h1).1
     rw [gtt h2] at h3
     cases h3
    have hra := up hrs hni
    obtain ⟨fuel', rfl⟩ := fu hra
    refine ⟨fun h0 => (by rw [h0] at hra; cases hra), fun j hj => ?_⟩
    by_cases hji : j ∈ idsL L
    ·
     exact early rfl hj hji
    ·
     have h1 := hS.flook hj (l := idsL L) (fun q h _ => h) hji
     rw [heq] at h1
     obtain rfl := List.mem_singleton.1 h1
     have hu := unl_set (mem_ready.1 hra).1
     have nxt : ∀ {v : Value} {w' : World} {u : V} {σ' : St} {μ' : Mu} {Im' : Nat → Prop}, Rel μ' Im' σ' w' → Stp μ Im σ w μ' Im' σ' w' → RepV w' Im' μ' u v → hldV true P ops r (putV ρ o.dst u) σ' K → wpAnyE P md ops (Only n Kc) wr fuel' (al.setIfInBounds j true) (a.put o.dst v) w' := fun {v w' u σ' μ' Im'} r' s' hv hK =>
      ih r L _ _ R fuel' true _ _ _ σ' μ' Im' w' (by omega) (by omega) hs' (hS.step hsel ho (hd _ _ ho) hap hni r' s' hv) hK
     unfold wpOp
     rw [ho]
     simp only
     rcases stepW hS.ok hS.rg hstep with ⟨hw, τ', hrun⟩ | ⟨hw, hK⟩
     ·
      rw [if_pos hw]
      refine .inl ?_
      rcases ht' with rfl | ⟨rfl, hwr⟩
      ·
       have hrun : opV τ' true P o ρ σ fun τ u σ' => hldV τ P ops r (putV ρ o.dst u) σ' K := hrun
       exact op_sound (τ := true) hS.ok (opV_sound hS.rel hS.rg hrun (fun _ v w' => Ext [] w w' ∧ wpAnyE P md ops (Only n Kc) wr fuel' (al.setIfInBounds j true) (a.put o.dst v) w') fun v w' u σ' μ' Im' r' s' he hv hK => ⟨he rfl, nxt r' s' hv hK⟩) fun v w' ⟨he, hk⟩ => ⟨fun _ => he, hk⟩
      ·
       have hrun : opV τ' false P o ρ σ fun τ u σ' => hldV τ P ops r (putV ρ o.dst u) σ' K := hrun
       exact op_sound (τ := true) hS.ok (opV_sound hS.rel hS.rg hrun (fun _ v w' => wpAnyE P md ops (Only n Kc) wr fuel' (al.setIfInBounds j true) (a.put o.dst v) w') fun v w' u σ' μ' Im' r' s' he hv hK => nxt r' s' hv hK) fun v w' hk => ⟨fun h => absurd (hwr.symm.trans h) (by simp), hk⟩
     ·
      rw [if_neg (by rw [hw]; simp)]
      exact ⟨fun _ => Ext.refl _ _, nxt hS.rel (Stp.refl _ _ _ _) rep_undef hK⟩
   match t, hs, h with
   | 0, hs, h =>
    unfold schedC at hs
    simp only [Bool.and_eq_true] at hs
    obtain ⟨⟨⟨⟨hr, hni⟩, hfr⟩, hap⟩, hs⟩ := hs
    have hrs := cont.1 hr
    have hni := ncont hni
    have hap := List.all_eq_true.1 hap
    have hra := up hrs hni
    obtain ⟨fuel', rfl⟩ := fu hra
    have hu := unl_set (mem_ready.1 hra).1
    obtain ⟨o, ho, h⟩ := nthK_get (h : nthK ops.toList i fun o => stepV τ P ops o ρ σ 0 fun τ ρ' σ' => hldV τ P ops r ρ' σ' K)
    have ho : ops[i]? = some o := by simpa using ho
    obtain ⟨D, hD1, hD2, hD3⟩ := freeE_spec ho hfr
    have hun := getD_both (mem_ready.1 hrs).1
    have hmk : ∀ x ∈ L, D x.1 = false := fun x hx => by
     cases hDx : D x.1 with
     | false => rfl
     | true =>
      obtain ⟨e1, _, q⟩ := hS.ps x hx
      rw [← e1] at hDx
      obtain ⟨e, he, hb, hor⟩ := hD1 _ _ q.hi hDx
      obtain ⟨_, o', ho', hall⟩ := mem_ready.1 q.rd
      rw [q.hi] at ho'
      cases ho'
      have h2 := hall e he hb
      rcases hor with hor | hor
      ·
       rw [hor, hun] at h2; cases h2
      ·
       rw [hD2 _ hor] at h2; cases h2
    have hD2' : ∀ j, D j = true → al.getD j false = false := fun j hDj => by
     cases hx : al.getD j false with
     | false => rfl
     | true =>
      rcases hS.ls.a3 j hx with h1 | h1
      ·
       rw [hD2 j hDj] at h1; cases h1
      ·
       obtain ⟨x, hxL, hjx⟩ := mem_ids.1 h1
       rcases hjx with rfl | hjx
       ·
        rw [hmk x hxL] at hDj; cases hDj
       ·
        obtain ⟨e1, e2, q⟩ := hS.ps x hxL
        have hst := q.st
        cases hms : (R x.1).st with
        | none => rw [hms, hjx] at e2; cases e2
        | some z =>
         obtain ⟨s', os, t', x', v⟩ := z
         obtain rfl : s' = j := by rw [hms, hjx] at e2; simpa using e2
         rw [hms] at hst
         have hst : PdSt P ops wr sl al a md (L.map (·.1)) (R x.1) s' os t' x' v := hst
         obtain ⟨e, he, hb, hor⟩ := hD1 _ _ hst.hs hDj
         rcases hst.rd e he hb with h2 | h2
         ·
          rcases hor with hor | hor
          ·
           rw [hor, hun] at h2; cases h2
          ·
           rw [hD2 _ hor] at h2; cases h2
         ·
          obtain ⟨z, hz, hze⟩ := List.mem_map.1 h2
          rcases hor with hor | hor
          ·
           exact absurd (mem_ids.2 ⟨z, hz, .inl (by rw [hze, hor])⟩) hni
          ·
           rw [← hze, hmk z hz] at hor; cases hor
    have hD3' : ∀ (j : Nat) oj, ops[j]? = some oj → j ≠ i → al.getD j true = false → D j = false → o.apart ops oj = true ∧ wr j = false := fun j oj h1 h2 h3 h4 => hD3 j oj h1 h2 (hS.ls.a2 j h3) h4
    refine (?_ : ∃ u v, YieldsIf P ops (Ext [] w) o v a ∧ RepV w Im μ u v ∧ hldV true P ops r (putV ρ o.dst u) σ K).elim fun u ⟨v, hy, hv, hK⟩ =>
     wpAnyE_first ho (Region.noSelect_spec hsel) (fun c a w hq => by cases hq.1) hD1 fuel' al a w hD2' hD3' hra hy (ih r L _ _ R fuel' true _ _ _ σ μ Im w (by omega) (by omega) hs (hS.step hsel ho (hd _ _ ho) hap hni hS.rel (Stp.refl _ _ _ _) hv) hK)
    rcases stepW hS.ok hS.rg h with ⟨hw, τ', hrun⟩ | ⟨hw, hK⟩
    ·
     have hm' := mldV_sound (kk := fun _ v => ∃ u, RepV w Im μ u v ∧ hldV true P ops r (putV ρ o.dst u) σ K) hS.rel hS.rg (hrun : mldV τ' P o ρ σ _) fun u v hv hK => ⟨u, hv, hK⟩
     obtain ⟨v, h1, u, h2, h3⟩ := mld_sound hS.ok hm'
     exact ⟨u, v, .inl ⟨hw, h1⟩, h2, h3⟩
    ·
     exact ⟨_, _, .inr ⟨hw, rfl⟩, rep_undef, hK⟩
   | 1, hs, h =>
    unfold schedC at hs
    simp only [Bool.and_eq_true, beq_iff_eq] at hs
    obtain ⟨⟨⟨hr, heq⟩, hap⟩, hs⟩ := hs
    obtain ⟨o, ho, h⟩ := nthK_get (h : nthK ops.toList i fun o => stepV τ P ops o ρ σ 1 fun τ ρ' σ' => hldV τ P ops r ρ' σ' K)
    exact one 1 (.inl rfl) (by simpa using ho) (cont.1 hr) heq (List.all_eq_true.1 hap) hs h
   | 2, hs, h =>
    unfold schedC at hs
    simp only [Bool.and_eq_true, beq_iff_eq] at hs
    obtain ⟨⟨⟨⟨hr, heq⟩, hap⟩, hwr⟩, hs⟩ := hs
    obtain ⟨o, ho, h⟩ := nthK_get (h : nthK ops.toList i fun o => stepV τ P ops o ρ σ 2 fun τ ρ' σ' => hldV τ P ops r ρ' σ' K)
    exact one 2 (.inr ⟨rfl, hwr⟩) (by simpa using ho) (cont.1 hr) heq (List.all_eq_true.1 hap) hs h
   | 3, hs, h =>
    unfold schedC at hs
    simp only [Bool.and_eq_true] at hs
    obtain ⟨⟨hx, hal⟩, hs⟩ := hs
    have hx : ((i, none) : Nat × Option Nat) ∈ L := List.contains_iff_mem.1 hx
    obtain ⟨o, ho, h⟩ := nthK_get (h : nthK ops.toList i fun o => opV τ true P o ρ σ fun τ u σ' => hldV τ P ops r (putV ρ o.dst u) σ' K)
    have ho : ops[i]? = some o := by simpa using ho
    obtain ⟨e1, e2, q⟩ := hS.ps _ hx
    dsimp only at e1 e2 q
    have hqo := q.hi
    rw [e1, ho] at hqo
    obtain rfl := Option.some.inj hqo
    cases hdn : (R i).done with
    | none =>
     have hdn' := q.dn
     rw [hdn] at hdn'
     have hra : i ∈ Region.ready md ops al := rdy_le (e1 ▸ q.rd) hS.ls.a1 (by have := hdn'.1; rw [e1] at this; exact this)
     obtain ⟨fuel', rfl⟩ := fu hra
     refine ⟨fun h0 => (by rw [h0] at hra; cases hra), fun j hj => ?_⟩
     by_cases hji : j ∈ idsL L
     ·
      exact early rfl hj hji
     ·
      have h1 := hS.flook hj (l := idsL (L.filter fun x => x.1 != i)) (fun q' hq' ha => by
       obtain ⟨x, hxL, hqx⟩ := mem_ids.1 hq'
       by_cases hxi : x.1 = i
       ·
        have := hS.nd x hxL _ hx hxi
        subst this
        rcases hqx with rfl | hqx
        ·
         have h1 := hdn'.1
         have h2 := gtt ha
         rw [e1] at h1
         rw [h1] at h2
         cases h2
        ·
         cases hqx
       ·
        exact mem_ids.2 ⟨x, by simp [hxL, hxi], hqx⟩) (fun hin => by
       obtain ⟨x, hxL, hqx⟩ := mem_ids.1 hin
       exact hji (mem_ids.2 ⟨x, (List.mem_filter.1 hxL).1, hqx⟩))
      exact absurd (cont.1 (List.all_eq_true.1 hal j h1)) hji
    | some b =>
     have hst := q.st
     have hsn : (R i).st = none := by
      cases hms : (R i).st with
      | none => rfl
      | some z => rw [hms] at e2; cases e2
     rw [hsn] at hst
     have hcur : (R i).cur = (R i).C := by unfold Pd.cur; rw [hst]
     have hdn' := q.dn
     rw [hdn] at hdn'
     obtain ⟨d1, d2, d3, d4, d5, d6⟩ := hdn'
     obtain ⟨ob, C, ty, u, f, hrun, hK, hone, hrep⟩ := opV_mk q.mkk hS.rel hS.rg h
     obtain ⟨hC, hff⟩ := mk_same w q.ex (fun w' => mk_exec q.mkk hS.ok (hrun w'))
     subst hC
     rw [hcur] at d3
     obtain ⟨hO, hu⟩ := hrep w b ⟨List.prefix_append _ _, fun _ h => h, fun _ _ => rfl⟩ d3
     have hT := hS.told hx hdn (fun s hs => by cases hs) (ob := ob) (u := u) (by rw [hcur]; exact hO) (by rw [hcur, hff]; exact hu)
     exact ih r _ _ _ R fuel true a _ ρc _ _ Im w (by omega) hf hs hT hK
   | 4, hs, h =>
    unfold schedC at hs
    simp only [Bool.and_eq_true] at hs
    obtain ⟨⟨⟨⟨hr, hni⟩, hmk⟩, hap⟩, hs⟩ := hs
    have hrs := cont.1 hr
    have hni := ncont hni
    have hap := List.all_eq_true.1 hap
    obtain ⟨o, ho, h⟩ := nthK_get (h : nthK ops.toList i fun o => lkN ρ o.dst (opV τ true P o ρ σ fun τ _ _ => hldV τ P ops r ρ σ K))
    have ho : ops[i]? = some o := by simpa using ho
    unfold mkG at hmk
    rw [ho] at hmk
    simp only [Bool.and_eq_true] at hmk
    obtain ⟨⟨hm1, hm2⟩, hm3⟩ := hmk
    cases hdst : o.dst with
    | none => rw [hdst] at hm3; cases hm3
    | some d =>
     rw [hdst] at hm3 h
     have hslf : d ∉ o.looksAt ops := ncont hm3
     unfold lkN at h
     simp only at h
     cases hfd : fdV ρ d with
     | some _ => rw [hfd] at h; exact h.elim
     | none =>
      rw [hfd] at h
      obtain ⟨ob, C, ty, u, f, hrun, hK, hone, hrep⟩ := opV_mk hm1 hS.rel hS.rg h
      have hidc : ∀ {j}, j ∈ idsL ((i, none) :: L) ↔ j = i ∨ j ∈ idsL L := fun {j} => by simp [idsL]
      have hne : ∀ x ∈ L, x.1 ≠ i := fun x hx e => hni (mem_ids.2 ⟨x, hx, .inl e.symm⟩)
      have hne2 : ∀ x ∈ L, x.2 ≠ some i := fun x hx e => hni (mem_ids.2 ⟨x, hx, .inr e⟩)
      refine ih r ((i, none) :: L) sl al (fun j => if j = i then ⟨i, d, o, C, ty, f, none, none, false⟩ else R j) fuel true a ρ ρc σ μ Im w (by omega) hf hs ⟨hS.ss, hS.as, hS.ls.more (fun j hj => hidc.2 (.inr hj)), hS.ok, hS.kl, hS.rel, hS.rg, hS.sq, fun x hx y hy hxy => ?_, fun x hx y hy hxy => ?_, fun x hx y hy => ?_, fun x hx y hy s h1 h2 => ?_, fun x hx => ?_, fun x hx y hy hxy b h1 h2 => ?_⟩ hK
      ·
       rcases List.mem_cons.1 hx with rfl | hx
       ·
        rcases List.mem_cons.1 hy with rfl | hy
        ·
         exact absurd rfl hxy
        ·
         exact ⟨hap _ (mem_ids.2 ⟨y, hy, .inl rfl⟩), fun s hs => hap _ (mem_ids.2 ⟨y, hy, .inr hs⟩)⟩
       ·
        rcases List.mem_cons.1 hy with rfl | hy
        ·
         exact ⟨apB_symm (hap _ (mem_ids.2 ⟨x, hx, .inl rfl⟩)), fun s hs => by cases hs⟩
        ·
         exact hS.ap x hx y hy hxy
      ·
       rcases List.mem_cons.1 hx with rfl | hx
       ·
        rcases List.mem_cons.1 hy with rfl | hy
        ·
         rfl
        ·
         exact absurd hxy.symm (hne y hy)
       ·
        rcases List.mem_cons.1 hy with rfl | hy
        ·
         exact absurd hxy (hne x hx)
        ·
         exact hS.nd x hx y hy hxy
      ·
       rcases List.mem_cons.1 hy with rfl | hy
       ·
        exact fun h => by cases h
       ·
        rcases List.mem_cons.1 hx with rfl | hx
        ·
         exact hne2 y hy
        ·
         exact hS.nx x hx y hy
      ·
       rcases List.mem_cons.1 hx with rfl | hx
       ·
        cases h1
       ·
        rcases List.mem_cons.1 hy with rfl | hy
        ·
         cases h2
        ·
         exact hS.ny x hx y hy s h1 h2
      ·
       rcases List.mem_cons.1 hx with rfl | hx
       ·
        rw [if_pos rfl]
        exact ⟨rfl, rfl, ho, hm1, by simpa using hm2, hdst, fun w' => mk_exec hm1 hS.ok (hrun w'), hone, hfd, hslf, hrs, ⟨hS.ls.a4 i (mem_ready.1 hrs).1 hni, rfl⟩, rfl⟩
       ·
        rw [if_neg (hne x hx)]
        obtain ⟨f1, f2, f3⟩ := hS.ps x hx
        exact ⟨f1, f2, f3.more fun j hj => by simp [hj]⟩
      ·
       rcases List.mem_cons.1 hx with rfl | hx
       ·
        rw [if_pos rfl] at h1; cases h1
       ·
        rw [if_neg (hne x hx)] at h1
        rcases List.mem_cons.1 hy with rfl | hy
        ·
         rw [if_pos rfl] at h2; cases h2
        ·
         rw [if_neg (hne y hy)] at h2
         exact hS.ds x hx y hy hxy b h1 h2
   | 5, hs, h =>
    unfold schedC at hs
    simp only [Bool.and_eq_true] at hs
    obtain ⟨⟨⟨⟨hr, hni⟩, hfr⟩, hap⟩, hs⟩ := hs
    have hrs := cont.1 hr
    have hni := ncont hni
    have hap := List.all_eq_true.1 hap
    have hra := up hrs hni
    obtain ⟨fuel', rfl⟩ := fu hra
    have hu := unl_set (mem_ready.1 hra).1
    obtain ⟨o, ho, h⟩ := nthK_get (h : nthK ops.toList i fun o => valV τ P o ρ fun τ u => hldV τ P ops r (putV ρ o.dst u) σ K)
    have ho : ops[i]? = some o := by simpa using ho
    unfold freeP at hfr
    rw [ho] at hfr
    simp only [Bool.and_eq_true] at hfr
    obtain ⟨⟨hg, hp⟩, hall⟩ := hfr
    have hg : o.guard = none := by simpa using hg
    obtain ⟨u, v, hv, hK, hrun⟩ := valV_sound (w := w) (Im := Im) (μ := μ) hS.rg h
    have hy : Yields P ops o v a := .inl ⟨wanted_none hg _, fun w' => pure_exec hS.ok hp (hrun w')⟩
    refine wpAnyE_pure ho (Region.noSelect_spec hsel) (fun c a w hq => by cases hq.1) fuel' al a w (fun j oj hj hji hun hno => ?_) hra hy (ih r L _ _ R fuel' true _ _ _ σ μ Im w (by omega) (by omega) hs (hS.step hsel ho (hd _ _ ho) hap hni hS.rel (Stp.refl _ _ _ _) hv) hK)
    have h1 := List.all_eq_true.1 hall j (List.mem_range.2 (Eq.get_lt hj))
    rw [hj] at h1
    simp only [Bool.or_eq_true, beq_iff_eq, hS.ls.a2 j hun] at h1
    rcases h1 with (h1 | h1) | h1 | h1
    ·
     exact absurd h1 hji
    ·
     cases h1
    ·
     obtain ⟨e, he, hb⟩ := Array.any_eq_true'.1 h1
     simp only [Bool.and_eq_true, beq_iff_eq] at hb
     exact absurd hb.2 (hno e he hb.1)
    ·
     exact h1
   | 6, hs, h =>
    unfold schedC at hs
    simp only [Bool.and_eq_true] at hs
    obtain ⟨⟨⟨⟨⟨⟨⟨hx, hni⟩, hsu⟩, hpr⟩, hwr⟩, hrd⟩, hap⟩, hs⟩ := hs
    have hx : ((p, none) : Nat × Option Nat) ∈ L := List.contains_iff_mem.1 hx
    have hni := ncont hni
    have hrd := cont.1 hrd
    have hap := List.all_eq_true.1 hap
    have hsu : sl.getD i true = false := by simpa using hsu
    obtain ⟨o, ho, h⟩ := nthK_get (h : nthK ops.toList i fun o => nthK ops.toList p fun q => opV τ true P q ρ σ fun τ u σ1 => opV τ false P o (putV ρ q.dst u) σ1 fun τ _ _ => hldV τ P ops r ρ σ K)
    obtain ⟨q0, hq0, h⟩ := nthK_get h
    have ho : ops[i]? = some o := by simpa using ho
    have hq0 : ops[p]? = some q0 := by simpa using hq0
    obtain ⟨e1, e2, q⟩ := hS.ps _ hx
    dsimp only at e1 e2 q
    have hqo := q.hi
    rw [e1, hq0] at hqo
    obtain rfl := Option.some.inj hqo
    unfold prG at hpr
    rw [ho, hq0] at hpr
    simp only [Bool.and_eq_true] at hpr
    obtain ⟨⟨⟨hp1, hp2⟩, hp3⟩, hp4⟩ := hpr
    have hp2 : o.guard = none := by simpa using hp2
    have hp3 : o.dst = none := by simpa using hp3
    split at hp1
    ·
     rename_i t d x' t0 e hop hqop hqd
     simp only [Bool.and_eq_true, beq_iff_eq] at hp1
     obtain ⟨rfl, hp5⟩ := hp1
     have hne : x' ≠ .tmp d := fun e => by subst e; simp at hp5
     rw [q.ds] at hqd
     obtain rfl := Option.some.inj hqd
     obtain ⟨C, n0, c, hz, hone, hsz, hln, hle, hone2, hc, hK, hrun⟩ := sto_sound (G := fun τ _ _ => hldV τ P ops r ρ σ K) hqop q.ds hop hne hS.rel hS.rg hS.ok h
     obtain ⟨hC, hff⟩ := mk_same (f' := fun b => .pointer (some ⟨b, 0, none⟩)) (C' := C) (ty' := t0) w q.ex (fun w' => mk_exec q.mkk hS.ok (hrun w'))
     have hsn : (R p).st = none := by
      cases hms : (R p).st with
      | none => rfl
      | some z => rw [hms] at e2; cases e2
     have hst := q.st
     rw [hsn] at hst
     have hfil : ∀ {y : Nat × Option Nat}, y ∈ L.filter (fun y => y.1 != p) ↔ y ∈ L ∧ y.1 ≠ p := fun {y} => by simp [List.mem_filter]
     have hmkm : ∀ j ∈ L.map (·.1), j ∈ ((p, some i) :: L.filter fun y => y.1 != p).map (·.1) := fun j hj => by
      obtain ⟨z, hz, hzj⟩ := List.mem_map.1 hj
      by_cases hzp : z.1 = p
      ·
       rw [← hzj, hzp]; simp
      ·
       exact List.mem_map.2 ⟨z, List.mem_cons_of_mem _ (hfil.2 ⟨hz, hzp⟩), hzj⟩
     have hrdE : ∀ e ∈ o.after, Region.binds md e = true → sl.getD e.on false = true ∨ e.on ∈ ((p, some i) :: L.filter fun y => y.1 != p).map (·.1) := fun e he hb => by
      obtain ⟨_, o', ho', hall⟩ := mem_ready.1 hrd
      rw [ho] at ho'
      cases ho'
      have h1 := hall e he hb
      by_cases h2 : sl.getD e.on false = true
      ·
       exact .inl h2
      ·
       right
       refine hmkm _ ?_
       apply Classical.byContradiction
       intro hn
       have aux : ∀ (l : List Nat) (sl : Array Bool), e.on ∉ l → (lstB sl l).getD e.on false = sl.getD e.on false := by
        intro l
        induction l with
        | nil => intro sl _; rfl
        | cons y l ih =>
         intro sl hn
         simp only [List.mem_cons, not_or] at hn
         show (lstB (sl.setIfInBounds y true) l).getD e.on false = _
         rw [ih _ hn.2, set_getD, if_neg (fun h => hn.1 h.1.symm)]
       rw [aux _ _ hn] at h1
       exact h2 h1
     have hip : i ≠ p := fun e => hni (mem_ids.2 ⟨_, hx, .inl e⟩)
     have hi1 : ∀ x ∈ L, i ≠ x.1 := fun x hx e => hni (mem_ids.2 ⟨x, hx, .inl e⟩)
     have hi2 : ∀ x ∈ L, x.2 ≠ some i := fun x hx e => hni (mem_ids.2 ⟨x, hx, .inr e⟩)
     have hor : ∀ {y : Nat × Option Nat}, y ∈ (p, some i) :: L.filter (fun y => y.1 != p) → y = (p, some i) ∨ (y ∈ L ∧ y.1 ≠ p) := fun {y} hy => (List.mem_cons.1 hy).imp id hfil.1
     refine ih r ((p, some i) :: L.filter fun y => y.1 != p) sl al (fun j => if j = p then { R p with st := some (i, o, t, x', a.eval x') } else R j) fuel true a ρ ρc σ μ Im w (by omega) hf hs ⟨hS.ss, hS.as, hS.ls.more (fun j hj => ?_), hS.ok, hS.kl, hS.rel, hS.rg, hS.sq, fun x1 hx1 y hy hxy => ?_, fun x1 hx1 y hy hxy => ?_, fun x1 hx1 y hy => ?_, fun x1 hx1 y hy s h1 h2 => ?_, fun x1 hx1 => ?_, fun x1 hx1 y hy hxy b h1 h2 => ?_⟩ hK
     ·
      obtain ⟨x1, hx1, hj⟩ := mem_ids.1 hj
      by_cases hxp : x1.1 = p
      ·
       have := hS.nd x1 hx1 _ hx hxp
       subst this
       rcases hj with hjp | hj
       ·
        exact mem_ids.2 ⟨(p, some i), by simp, .inl hjp⟩
       ·
        cases hj
      ·
       exact mem_ids.2 ⟨x1, List.mem_cons_of_mem _ (hfil.2 ⟨hx1, hxp⟩), hj⟩
     ·
      rcases hor hx1 with rfl | ⟨hx1, hx1p⟩
      ·
       rcases hor hy with rfl | ⟨hy, hyp⟩
       ·
        exact absurd rfl hxy
       ·
        exact hS.ap _ hx y hy hxy
      ·
       rcases hor hy with rfl | ⟨hy, hyp⟩
       ·
        refine ⟨(hS.ap x1 hx1 _ hx hxy).1, fun s hs => ?_⟩
        cases hs
        exact apB_symm (hap _ (mem_ids.2 ⟨x1, hfil.2 ⟨hx1, hx1p⟩, .inl rfl⟩))
       ·
        exact hS.ap x1 hx1 y hy hxy
     ·
      rcases hor hx1 with rfl | ⟨hx1, hx1p⟩
      ·
       rcases hor hy with rfl | ⟨hy, hyp⟩
       ·
        rfl
       ·
        exact absurd hxy.symm hyp
      ·
       rcases hor hy with rfl | ⟨hy, hyp⟩
       ·
        exact absurd hxy hx1p
       ·
        exact hS.nd x1 hx1 y hy hxy
     ·
      rcases hor hy with rfl | ⟨hy, hyp⟩
      ·
       rcases hor hx1 with rfl | ⟨hx1, hx1p⟩
       ·
        exact fun h => hip (by simpa using h)
       ·
        exact fun h => hi1 x1 hx1 (by simpa using h)
      ·
       rcases hor hx1 with rfl | ⟨hx1, hx1p⟩
       ·
        exact hS.nx _ hx y hy
       ·
        exact hS.nx x1 hx1 y hy
     ·
      rcases hor hx1 with rfl | ⟨hx1, hx1p⟩
      ·
       rcases hor hy with rfl | ⟨hy, hyp⟩
       ·
        rfl
       ·
        cases h1
        exact absurd h2 (hi2 y hy)
      ·
       rcases hor hy with rfl | ⟨hy, hyp⟩
       ·
        cases h2
        exact absurd h1 (hi2 x1 hx1)
       ·
        exact hS.ny x1 hx1 y hy s h1 h2
     ·
      rcases hor hx1 with rfl | ⟨hx1, hx1p⟩
      ·
       rw [if_pos rfl]
       have hcur : ({ R p with st := some (i, o, t, x', a.eval x') } : Pd).cur = (R p).cur := by
        unfold Pd.cur
        rw [hst]
       refine ⟨e1, rfl, q.hi, q.mkk, q.gd, q.ds, q.ex, q.one, q.fd, q.slf, q.rd, ?_, ?_⟩
       ·
        rw [hcur]
        exact q.dn
       ·
        dsimp only
        obtain ⟨e, he, hb⟩ := Array.any_eq_true'.1 hp4
        simp only [Bool.and_eq_true, beq_iff_eq] at hb
        exact ⟨ho, hop, hp3, hp2, hne, rfl, ⟨n0, hsz, hln, by rw [hC]; exact hle⟩, hone2, funext hff, ⟨_, hqop⟩, by rw [hst]; exact hS.ls.a4 i hsu hni, hwr, hsu, hrdE, ⟨e, he, hb.1, by rw [e1]; exact hb.2⟩⟩
      ·
       rw [if_neg hx1p]
       obtain ⟨f1, f2, f3⟩ := hS.ps x1 hx1
       exact ⟨f1, f2, f3.more hmkm⟩
     ·
      have key : ∀ j, (if j = p then ({ R p with st := some (i, o, t, x', a.eval x') } : Pd) else R j).done = (R j).done := fun j => by
       split
       ·
        rename_i e; rw [e]
       ·
        rfl
      rw [key] at h1 h2
      have hof : ∀ {y : Nat × Option Nat}, y = (p, some i) ∨ (y ∈ L ∧ y.1 ≠ p) → ∃ y' ∈ L, y'.1 = y.1 := fun {y} hy => by
       rcases hy with rfl | ⟨hy, _⟩
       ·
        exact ⟨_, hx, rfl⟩
       ·
        exact ⟨y, hy, rfl⟩
      obtain ⟨x2, hx2, f1⟩ := hof (hor hx1)
      obtain ⟨y2, hy2, f2⟩ := hof (hor hy)
      rw [← f1] at h1 hxy
      rw [← f2] at h2 hxy
      exact hS.ds x2 hx2 y2 hy2 hxy b h1 h2
    ·
     cases hp1
   | 7, hs, h =>
    unfold schedC at hs
    simp only [Bool.and_eq_true] at hs
    obtain ⟨⟨⟨hx, hal1⟩, hal2⟩, hs⟩ := hs
    have hx : ((p, some i) : Nat × Option Nat) ∈ L := List.contains_iff_mem.1 hx
    obtain ⟨o, ho, h⟩ := nthK_get (h : nthK ops.toList i fun o => nthK ops.toList p fun q => opV τ true P q ρ σ fun τ u σ1 => opV τ false P o (putV ρ q.dst u) σ1 fun τ _ σ2 => hldV τ P ops r (putV ρ q.dst u) σ2 K)
    obtain ⟨q0, hq0, hP⟩ := nthK_get h
    have ho : ops[i]? = some o := by simpa using ho
    have hq0 : ops[p]? = some q0 := by simpa using hq0
    obtain ⟨e1, e2, q⟩ := hS.ps _ hx
    dsimp only at e1 e2 q
    have hqo := q.hi
    rw [e1, hq0] at hqo
    obtain rfl := Option.some.inj hqo
    have hst := q.st
    cases hms : (R p).st with
    | none => rw [hms] at e2; cases e2
    | some z =>
     obtain ⟨s', os, t, x', v⟩ := z
     obtain rfl : s' = i := by rw [hms] at e2; simpa using e2
     rw [hms] at hst
     have hst : PdSt P ops wr sl al a md (L.map (·.1)) (R p) s' os t x' v := hst
     have hqo := hst.hs
     rw [ho] at hqo
     obtain rfl := Option.some.inj hqo
     have hdn := q.dn
     have step : al.getD s' true = false → (∃ j, j ∈ Region.ready md ops al) → (∀ j ∈ Region.ready md ops al, j ∈ idsL L) → wpAnyE P md ops (Only n Kc) wr fuel al a w := fun _ ⟨j0, hj0⟩ hall => by
      obtain ⟨fuel', rfl⟩ := fu hj0
      exact ⟨fun h0 => (by rw [h0] at hj0; cases hj0), fun j hj => early rfl hj (hall j hj)⟩
     have hsel2 : ∀ {l : List Nat} {q' : Nat}, q' ∈ idsL L → al.getD q' false = true → al.getD s' true = false → q' = p ∨ q' ∈ idsL (L.filter fun x => x.1 != p) := fun {l q'} hq' ha hns => by
      obtain ⟨x1, hx1, hqx⟩ := mem_ids.1 hq'
      by_cases hxp : x1.1 = p
      ·
       have := hS.nd x1 hx1 _ hx hxp
       subst this
       rcases hqx with rfl | hqx
       ·
        exact .inl rfl
       ·
        have : s' = q' := by simpa using hqx
        subst this
        rw [gtt ha] at hns
        cases hns
      ·
       exact .inr (mem_ids.2 ⟨x1, by simp [hx1, hxp], hqx⟩)
     have hsub : ∀ {j : Nat}, j ∈ idsL (L.filter fun x => x.1 != p) → j ∈ idsL L := fun {j} hin => by
      obtain ⟨x1, hx1, hqx⟩ := mem_ids.1 hin
      exact mem_ids.2 ⟨x1, (List.mem_filter.1 hx1).1, hqx⟩
     cases hdone : (R p).done with
     | none =>
      rw [hdone] at hdn
      have hns : al.getD s' true = false := by rw [hst.al]; exact hdn.2
      have hnp : al.getD p true = false := by have := hdn.1; rw [e1] at this; exact this
      refine step hns ⟨p, rdy_le (e1 ▸ q.rd) hS.ls.a1 hnp⟩ fun j hj => ?_
      by_cases hji : j ∈ idsL L
      ·
       exact hji
      ·
       have h1 := hS.flook hj (l := idsL (L.filter fun x => x.1 != p)) (fun q' hq' ha => by
        rcases hsel2 (l := []) hq' ha hns with rfl | h2
        ·
         rw [gtt ha] at hnp; cases hnp
        ·
         exact h2) (fun hin => hji (hsub hin))
       exact absurd (cont.1 (List.all_eq_true.1 hal1 j h1)) hji
     | some b =>
      rw [hdone] at hdn
      obtain ⟨d1, d2, d3, d4, d5, d6⟩ := hdn
      cases hns : al.getD s' true with
      | false =>
       have hplt : p < al.size := by have := hS.as; rw [this]; exact Eq.get_lt hq0
       have hpf : al.getD p false = true := by
        rw [e1] at d1
        simpa [hplt] using d1
       have hne0 : ∃ j, j ∈ Region.ready md ops al := by
        by_cases hall : ∀ z ∈ L, al.getD z.1 false = true
        ·
         refine ⟨s', mem_ready.2 ⟨hns, _, hst.hs, fun e he hb => ?_⟩⟩
         rcases hst.rd e he hb with h1 | h1
         ·
          exact hS.ls.a1 _ h1
         ·
          obtain ⟨z, hz, hze⟩ := List.mem_map.1 h1
          rw [← hze]
          exact hall z hz
        ·
         simp only [Classical.not_forall] at hall
         obtain ⟨z, hz, hzn⟩ := hall
         obtain ⟨f1, f2, f3⟩ := hS.ps z hz
         refine ⟨z.1, rdy_le (f1 ▸ f3.rd) hS.ls.a1 ?_⟩
         have hzlt : z.1 < al.size := by rw [hS.as, ← f1]; exact Eq.get_lt f3.hi
         simpa [hzlt] using hzn
       refine step hns hne0 fun j hj => ?_
       by_cases hji : j ∈ idsL L
       ·
        exact hji
       ·
        have h1 := hS.flook hj (l := p :: idsL (L.filter fun x => x.1 != p)) (fun q' hq' ha => by
         rcases hsel2 (l := []) hq' ha hns with rfl | h2
         ·
          simp
         ·
          exact List.mem_cons_of_mem _ h2) (fun hin => by
         rcases List.mem_cons.1 hin with rfl | hin
         ·
          exact hji (mem_ids.2 ⟨_, hx, .inl rfl⟩)
         ·
          exact hji (hsub hin))
        exact absurd (cont.1 (List.all_eq_true.1 hal2 j h1)) hji
      | true =>
       have hsd : (R p).sdone = true := by rw [← hst.al]; exact hns
       obtain ⟨t0, hqop⟩ := hst.alc
       obtain ⟨C, n0, c, hz, hone, hsz, hln, hle, hone2, hc, hK, hrun⟩ := sto_sound (G := fun τ ρ' σ2 => hldV τ P ops r ρ' σ2 K) hqop q.ds hst.op hst.ne hS.rel hS.rg hS.ok hP
       obtain ⟨hC, hff⟩ := mk_same (f' := fun b => .pointer (some ⟨b, 0, none⟩)) (C' := C) (ty' := t0) w q.ex (fun w' => mk_exec q.mkk hS.ok (hrun w'))
       rw [hst.ev] at hln hone2 hc
       have hcur : (R p).cur = setL C 0 v.cells.toList := by
        unfold Pd.cur
        rw [hsd, hms, hC]
       have hcl : (R p).cur.length = C.length := by rw [hcur, setL_length]
       have hsl := setL_eq (C := C) (vs := v.cells.toList) (o := 0) (by omega)
       have mn : ∀ x, Mono μ Im w (μ ++ [x]) Im w := fun x => ⟨List.prefix_append _ _, fun _ h => h, fun _ _ => rfl⟩
       have hlit : RepL w Im μ (C.map V.lit) C := RepL.lits (List.all_eq_true.2 hone)
       have hT := hS.told hx hdone (fun s hs => by cases hs; exact hns) (ob := .cells ((C.map V.lit).take 0 ++ c ++ (C.map V.lit).drop (0 + c.length))) (u := .ref σ.length 0 0 0) (RepO.cells0 (C := (R p).cur) rfl d3 (by rw [hcur, hsl]; exact write_one hone hone2) (by rw [hcur, hsl]; exact (hlit.write hc).mono (mn _))) (by
        rw [hff]
        have e5 := RepV.ref (w := w) (Im := Im) (μ := μ ++ [some (b, (R p).cur.length)]) (o := σ.length) (b := b) (n := (R p).cur.length) (z := 0) (i := 0) (off := 0) (by rw [get_snoc, if_neg (by rw [hS.rel.len]; omega), if_pos hS.rel.len.symm])
        simpa only [Nat.zero_mul, Nat.zero_add] using e5)
       rw [q.ds] at hT
       exact ih r _ _ _ R fuel true a _ ρc _ _ Im w (by omega) hf hs hT hK
   | 8, hs, h =>
    unfold schedC at hs
    simp only [Bool.and_eq_true, beq_iff_eq, List.isEmpty_iff] at hs
    obtain ⟨⟨⟨⟨⟨⟨⟨⟨⟨hL, hri⟩, hrp⟩, hall⟩, hra⟩, hrb⟩, hlg⟩, hwr⟩, hap⟩, hsr⟩ := hs
    subst hL
    have hri := cont.1 hri
    have hrp := cont.1 hrp
    obtain ⟨o, ho, h⟩ := nthK_get (h : nthK ops.toList i fun o => nthK ops.toList p fun q => opV τ true P o ρ σ fun τ u _ => opV τ false P q ρ σ fun τ _ σ1 => opV τ true P o ρ σ1 fun τ u2 _ => sameK u2 u (hldV τ P ops r (putV ρ o.dst u) σ1 K))
    obtain ⟨q, hq, hP⟩ := nthK_get h
    have ho : ops[i]? = some o := by simpa using ho
    have hq : ops[p]? = some q := by simpa using hq
    unfold lsG at hlg
    rw [ho, hq] at hlg
    simp only [Bool.and_eq_true] at hlg
    obtain ⟨⟨⟨hl1, hl2⟩, hl3⟩, hl4⟩ := hlg
    have gl2 : o.guard = none := by simpa using hl2
    have gl3 : q.guard = none := by simpa using hl3
    have gl4 : q.dst = none := by simpa using hl4
    clear hl2 hl3 hl4
    have hni : ∀ j : Nat, j ∉ idsL [] := fun j => by simp [idsL]
    have nap : ∀ j : Nat, ∀ l ∈ idsL [], apB ops j l = true := fun j l hl => absurd hl (hni l)
    obtain ⟨dst, op, ty, pos, af, gd⟩ := o
    obtain ⟨dst2, op2, ty2, pos2, af2, gd2⟩ := q
    dsimp only at hl1 gl2 gl3 gl4
    subst gl2 gl3 gl4
    cases op with
    | load tl xl =>
     cases op2 with
     | store ts ys zs =>
      have hP : evV ρ xl fun a0 => ldV P tl a0 σ fun τ u => evV ρ ys fun v => evV ρ zs fun c => stV P ts v c σ fun τ σ1 => evV ρ xl fun a1 => ldV P tl a1 σ1 fun τ u2 => sameK u2 u (hldV τ P ops r (putV ρ dst u) σ1 K) := hP
      have hdo := hd _ _ ho
      have hdp := hd _ _ hq
      obtain ⟨a0, va, h1, h2, h3⟩ := evV_sound hS.rg hP
      obtain ⟨u, v, h4, h5, h6⟩ := ldV_sound hS.rel h1 h2
      obtain ⟨y0, vy, h7, h8, h9⟩ := evV_sound hS.rg h5
      obtain ⟨z0, vz, h10, h11, h12⟩ := evV_sound hS.rg h8
      obtain ⟨w1, σ1, rel1, stp1, hK1, hst1⟩ := stV_sound hS.rel h7 h10 h11
      have rg1 := hS.rg.mono (stp1.mono hS.rel)
      obtain ⟨a1, va1, k1, k2, k3⟩ := evV_sound rg1 hK1
      obtain ⟨u2, v2, k4, k5, k6⟩ := ldV_sound rel1 k1 k2
      obtain ⟨rfl, hrest⟩ := k5
      have ld0 : opK true P ⟨dst, .load tl xl, ty, pos, af, none⟩ ρc w fun _ v' w' => v' = v ∧ w' = w := by
       show evK ρc xl fun a => loadK P tl a w fun τ v' w' => v' = v ∧ w' = w
       rw [h3, h6]
       exact ⟨rfl, rfl⟩
      have lt : ∀ {j : Nat} {x : Oper}, ops[j]? = some x → j < ops.size := fun h => Eq.get_lt h
      have upi := up hri (hni _)
      have upp := up hrp (hni _)
      have hip : i ≠ p := fun e => by
       subst e
       rw [ho] at hq
       cases hq
      obtain ⟨fuel1, rfl⟩ := fu upi
      have hu1 := unl_set (mem_ready.1 upi).1
      have hu2 := unl_set (mem_ready.1 upp).1
      have rdal : ∀ {j : Nat} {x y : Array Bool}, LsR x y (idsL []) → j ∈ Region.ready md ops y → j ∈ Region.ready md ops x := fun {j x y} hl hj => rdy_le hj (fun q hq => (hl.a3 q hq).resolve_right (hni q)) (hl.a2 j (mem_ready.1 hj).1)
      have rdup : ∀ {j : Nat} {x y : Array Bool}, LsR x y (idsL []) → j ∈ Region.ready md ops x → j ∈ Region.ready md ops y := fun {j x y} hl hj => rdy_le hj hl.a1 (hl.a4 j (mem_ready.1 hj).1 (hni j))
      refine ⟨fun h0 => (by rw [h0] at upi; cases upi), fun j hj => ?_⟩
      have hj' := List.all_eq_true.1 hall j (rdal hS.ls hj)
      simp only [Bool.or_eq_true, beq_iff_eq] at hj'
      rcases hj' with rfl | rfl
      ·
       -- the load, then the store
       have hA := hS.step hsel ho hdo (nap _) (hni _) hS.rel (Stp.refl _ _ _ _) h4
       unfold wpOp
       rw [ho]
       simp only
       rw [if_pos (wanted_nog rfl _)]
       refine .inl (op_sound (τ := true) hS.ok ld0 fun v' w' hvw => ?_)
       obtain ⟨rfl, rfl⟩ := hvw
       refine ⟨fun _ => Ext.refl _ _, ?_⟩
       have hrp2 : p ∈ Region.ready md ops (sl.setIfInBounds j true) := by rw [hra]; simp
       have upp2 := rdup hA.ls hrp2
       have hu3 := unl_set (mem_ready.1 upp2).1
       obtain ⟨fuel2, rfl⟩ : ∃ f2, fuel1 = f2 + 1 := ⟨fuel1 - 1, by omega⟩
       refine ⟨fun h0 => (by rw [h0] at upp2; cases upp2), fun j2 hj2 => ?_⟩
       have hj3 := rdal hA.ls hj2
       rw [hra] at hj3
       obtain rfl := List.mem_singleton.1 hj3
       obtain ⟨p1, p2, p3⟩ := Oper.apart_spec (apB_spec hap ho hq)
       have hg2 : RepG w' Im μ ρ (put ρc dst v') ∨ True := .inr trivial
       have stO : opK true P ⟨none, .store ts ys zs, ty2, pos2, af2, none⟩ (put ρc dst v') w' fun _ _ w'' => w'' = w1 := by
        have hev : ∀ {x : Operand} {z : Value} {b : V} (F : Value → Prop), x ∈ (Op.store ts ys zs).operands.toList → (∀ K', evK ρc x K' = K' z) → evK (put ρc dst v') x F = F z := fun {x z b} F hx hz => by
         cases dst with
         | none => exact hz F
         | some d =>
          cases x with
          | tmp t =>
           have hdt : d ≠ t := fun e => p1 d rfl (by rw [e]; exact looks_opnd hx)
           have := hz F
           show lk ((d, v') :: ρc) t F = F z
           unfold lk
           rw [fd_ne hdt]
           exact this
          | const c => exact hz F
          | global g => exact hz F
          | func f => exact hz F
        show evK (put ρc dst v') ys fun a => evK (put ρc dst v') zs fun x => storeK P ts a x w' fun τ w'' => w'' = w1
        rw [hev (b := y0) _ (by simp [Op.operands]) h9, hev (b := z0) _ (by simp [Op.operands]) h12, hst1]
       have hB := hA.step hsel hq hdp (nap _) (hni _) (u := .tup []) (v := undef) rel1 stp1 rep_undef
       unfold wpOp
       rw [hq]
       simp only
       rw [if_pos (wanted_nog rfl _)]
       refine .inl (op_sound (τ := true) hA.ok stO fun v'' w'' hw => ?_)
       subst hw
       exact ⟨fun h => absurd (hwr.symm.trans h) (by simp), ih r [] _ _ R fuel2 true _ _ _ σ1 μ Im _ (by omega) (by omega) hsr hB hrest⟩
      ·
       -- the store, then the load
       have hA := hS.step hsel hq hdp (nap _) (hni _) (u := .tup []) (v := undef) rel1 stp1 rep_undef
       have stO : opK true P ⟨none, .store ts ys zs, ty2, pos2, af2, none⟩ ρc w fun _ _ w'' => w'' = w1 := by
        show evK ρc ys fun a => evK ρc zs fun x => storeK P ts a x w fun τ w'' => w'' = w1
        rw [h9, h12, hst1]
       unfold wpOp
       rw [hq]
       simp only
       rw [if_pos (wanted_nog rfl _)]
       refine .inl (op_sound (τ := true) hS.ok stO fun v'' w'' hw => ?_)
       subst hw
       refine ⟨fun h => absurd (hwr.symm.trans h) (by simp), ?_⟩
       have hri2 : i ∈ Region.ready md ops (sl.setIfInBounds j true) := by rw [hrb]; simp
       have upi2 := rdup hA.ls hri2
       have hu3 := unl_set (mem_ready.1 upi2).1
       obtain ⟨fuel2, rfl⟩ : ∃ f2, fuel1 = f2 + 1 := ⟨fuel1 - 1, by omega⟩
       refine ⟨fun h0 => (by rw [h0] at upi2; cases upi2), fun j2 hj2 => ?_⟩
       have hj3 := rdal hA.ls hj2
       rw [hrb] at hj3
       obtain rfl := List.mem_singleton.1 hj3
       have ldO : opK true P ⟨dst, .load tl xl, ty, pos, af, none⟩ ρc w'' fun _ v' w' => v' = v2 ∧ w' = w'' := by
        show evK ρc xl fun a => loadK P tl a w'' fun τ v' w' => v' = v2 ∧ w' = w''
        rw [k3, k6]
        exact ⟨rfl, rfl⟩
       have hB := hA.step hsel ho hdo (nap _) (hni _) rel1 (Stp.refl _ _ _ _) k4
       unfold wpOp
       rw [ho]
       simp only
       rw [if_pos (wanted_nog rfl _)]
       refine .inl (op_sound (τ := true) hA.ok ldO fun v'' w' hvw => ?_)
       obtain ⟨rfl, rfl⟩ := hvw
       refine ⟨fun _ => Ext.refl _ _, ?_⟩
       have c1 := Array.setIfInBounds_comm (xs := sl) true true hip
       have c2 := Array.setIfInBounds_comm (xs := al) true true hip
       have hu4 := unl_set (mem_ready.1 upi2).1
       rw [← c1, ← c2] at hB
       rw [← c2] at hu4 ⊢
       exact ih r [] _ _ R fuel2 true _ _ _ σ1 μ Im _ (by omega) (by omega) hsr hB hrest
     | _ => cases hl1
    | _ => cases hl1
   | 9, hs, h =>
    unfold schedC at hs
    simp only [Bool.and_eq_true, beq_iff_eq, List.isEmpty_iff] at hs
    obtain ⟨⟨⟨⟨⟨⟨⟨⟨⟨⟨⟨⟨⟨hL, hri⟩, hrp⟩, hall⟩, hra⟩, hrb⟩, hrc⟩, hrd⟩, hlg⟩, hpc⟩, hwr⟩, hap⟩, hap2⟩, hsr⟩ := hs
    subst hL
    have hri := cont.1 hri
    have hrp := cont.1 hrp
    obtain ⟨o, ho, h⟩ := nthK_get (h : nthK ops.toList i fun o => nthK ops.toList p fun q => nthK ops.toList (i + 1) fun c => opV τ true P o ρ σ fun τ u _ => opV τ false P q ρ σ fun τ _ σ1 => opV τ true P o ρ σ1 fun τ u2 _ => sameK u2 u (valV τ P c (putV ρ o.dst u) fun τ u3 => hldV τ P ops r (putV (putV ρ o.dst u) c.dst u3) σ1 K))
    obtain ⟨q, hq, h⟩ := nthK_get h
    obtain ⟨c, hc, hP⟩ := nthK_get h
    have ho : ops[i]? = some o := by simpa using ho
    have hq : ops[p]? = some q := by simpa using hq
    have hc : ops[i + 1]? = some c := by simpa using hc
    unfold lsG at hlg
    rw [ho, hq] at hlg
    simp only [Bool.and_eq_true] at hlg
    obtain ⟨⟨⟨hl1, hl2⟩, hl3⟩, hl4⟩ := hlg
    have gl2 : o.guard = none := by simpa using hl2
    have gl3 : q.guard = none := by simpa using hl3
    have gl4 : q.dst = none := by simpa using hl4
    have gl5 : c.guard = none := by
     unfold ngG at hpc
     rw [hc] at hpc
     simpa using hpc
    clear hl2 hl3 hl4
    have hni : ∀ j : Nat, j ∉ idsL [] := fun j => by simp [idsL]
    have nap : ∀ j : Nat, ∀ l ∈ idsL [], apB ops j l = true := fun j l hl => absurd hl (hni l)
    obtain ⟨dst, op, ty, pos, af, gd⟩ := o
    obtain ⟨dst2, op2, ty2, pos2, af2, gd2⟩ := q
    obtain ⟨dst3, op3, ty3, pos3, af3, gd3⟩ := c
    dsimp only at hl1 gl2 gl3 gl4 gl5
    subst gl2 gl3 gl4 gl5
    cases op with
    | load tl xl =>
     cases op2 with
     | store ts ys zs =>
      have hP : evV ρ xl fun a0 => ldV P tl a0 σ fun τ u => evV ρ ys fun v => evV ρ zs fun c => stV P ts v c σ fun τ σ1 => evV ρ xl fun a1 => ldV P tl a1 σ1 fun τ u2 => sameK u2 u (valV τ P ⟨dst3, op3, ty3, pos3, af3, none⟩ (putV ρ dst u) fun τ u3 => hldV τ P ops r (putV (putV ρ dst u) dst3 u3) σ1 K) := hP
      have hdo := hd _ _ ho
      have hdp := hd _ _ hq
      have hdc := hd _ _ hc
      obtain ⟨a0, va, h1, h2, h3⟩ := evV_sound hS.rg hP
      obtain ⟨u, v, h4, h5, h6⟩ := ldV_sound hS.rel h1 h2
      obtain ⟨y0, vy, h7, h8, h9⟩ := evV_sound hS.rg h5
      obtain ⟨z0, vz, h10, h11, h12⟩ := evV_sound hS.rg h8
      obtain ⟨w1, σ1, rel1, stp1, hK1, hst1⟩ := stV_sound hS.rel h7 h10 h11
      have rg1 := hS.rg.mono (stp1.mono hS.rel)
      obtain ⟨a1, va1, k1, k2, k3⟩ := evV_sound rg1 hK1
      obtain ⟨u2, v2, k4, k5, k6⟩ := ldV_sound rel1 k1 k2
      obtain ⟨rfl, hrest⟩ := k5
      have ld0 : opK true P ⟨dst, .load tl xl, ty, pos, af, none⟩ ρc w fun _ v' w' => v' = v ∧ w' = w := by
       show evK ρc xl fun a => loadK P tl a w fun τ v' w' => v' = v ∧ w' = w
       rw [h3, h6]
       exact ⟨rfl, rfl⟩
      have upi := up hri (hni _)
      have upp := up hrp (hni _)
      have hip : i ≠ p := fun e => by
       subst e
       rw [ho] at hq
       cases hq
      have hcp : i + 1 ≠ p := fun e => by
       subst e
       rw [hc] at hq
       injection hq with hq
       injection hq with e1 e2
       subst e2
       exact hrest.elim
      obtain ⟨fuel1, rfl⟩ := fu upi
      have hu1 := unl_set (mem_ready.1 upi).1
      have hu2 := unl_set (mem_ready.1 upp).1
      have rdal : ∀ {j : Nat} {x y : Array Bool}, LsR x y (idsL []) → j ∈ Region.ready md ops y → j ∈ Region.ready md ops x := fun {j x y} hl hj => rdy_le hj (fun q hq => (hl.a3 q hq).resolve_right (hni q)) (hl.a2 j (mem_ready.1 hj).1)
      have rdup : ∀ {j : Nat} {x y : Array Bool}, LsR x y (idsL []) → j ∈ Region.ready md ops x → j ∈ Region.ready md ops y := fun {j x y} hl hj => rdy_le hj hl.a1 (hl.a4 j (mem_ready.1 hj).1 (hni j))
      obtain ⟨p1, p2, p3⟩ := Oper.apart_spec (apB_spec hap ho hq)
      obtain ⟨q1, q2, q3⟩ := Oper.apart_spec (apB_spec hap2 hc hq)
      have hev : ∀ {ρc' : Rg} {dd : Option Tmp} {vv : Value} {x : Operand} {z : Value} (F : Value → Prop), (∀ d, dd = some d → d ∉ Oper.looksAt ops ⟨none, .store ts ys zs, ty2, pos2, af2, none⟩) → x ∈ (Op.store ts ys zs).operands.toList → (∀ K', evK ρc' x K' = K' z) → evK (put ρc' dd vv) x F = F z := fun {ρc' dd vv x z} F hdd hx hz => by
       cases dd with
       | none => exact hz F
       | some d =>
        cases x with
        | tmp t =>
         have hdt : d ≠ t := fun e => hdd d rfl (by rw [e]; exact looks_opnd hx)
         have := hz F
         show lk ((d, vv) :: ρc') t F = F z
         unfold lk
         rw [fd_ne hdt]
         exact this
        | const c => exact hz F
        | global g => exact hz F
        | func f => exact hz F
      have hall3 : ∀ {j : Nat}, j ∈ Region.ready md ops (sl.setIfInBounds i true) → j = p ∨ j = i + 1 := fun {j} hj => by
       have := List.all_eq_true.1 hra j hj
       simpa only [Bool.or_eq_true, beq_iff_eq] using this
      refine ⟨fun h0 => (by rw [h0] at upi; cases upi), fun j hj => ?_⟩
      have hj' := List.all_eq_true.1 hall j (rdal hS.ls hj)
      simp only [Bool.or_eq_true, beq_iff_eq] at hj'
      rcases hj' with rfl | rfl
      ·
       -- the load first
       have hA := hS.step hsel ho hdo (nap _) (hni _) hS.rel (Stp.refl _ _ _ _) h4
       unfold wpOp
       rw [ho]
       simp only
       rw [if_pos (wanted_nog rfl _)]
       refine .inl (op_sound (τ := true) hS.ok ld0 fun v' w' hvw => ?_)
       obtain ⟨rfl, rfl⟩ := hvw
       refine ⟨fun _ => Ext.refl _ _, ?_⟩
       have upp2 : p ∈ Region.ready md ops (al.setIfInBounds j true) := ready_mono upp hip.symm
       have hu3 := unl_set (mem_ready.1 upp2).1
       obtain ⟨fuel2, rfl⟩ : ∃ f2, fuel1 = f2 + 1 := ⟨fuel1 - 1, by omega⟩
       refine ⟨fun h0 => (by rw [h0] at upp2; cases upp2), fun j2 hj2 => ?_⟩
       rcases hall3 (rdal hA.ls hj2) with rfl | rfl
       ·
        -- then the store, then what is made
        have stO : opK true P ⟨none, .store ts ys zs, ty2, pos2, af2, none⟩ (put ρc dst v') w' fun _ _ w'' => w'' = w1 := by
         show evK (put ρc dst v') ys fun a => evK (put ρc dst v') zs fun x => storeK P ts a x w' fun τ w'' => w'' = w1
         rw [hev _ p1 (by simp [Op.operands]) h9, hev _ p1 (by simp [Op.operands]) h12, hst1]
        have hB := hA.step hsel hq hdp (nap _) (hni _) (u := .tup []) (v := undef) rel1 stp1 rep_undef
        unfold wpOp
        rw [hq]
        simp only
        rw [if_pos (wanted_nog rfl _)]
        refine .inl (op_sound (τ := true) hA.ok stO fun v'' w'' hw => ?_)
        subst hw
        refine ⟨fun h => absurd (hwr.symm.trans h) (by simp), ?_⟩
        have hrd2 : j + 1 ∈ Region.ready md ops ((sl.setIfInBounds j true).setIfInBounds j2 true) := by rw [hrc]; simp
        have upc := rdup hB.ls hrd2
        have hu4 := unl_set (mem_ready.1 upc).1
        obtain ⟨fuel3, rfl⟩ : ∃ f2, fuel2 = f2 + 1 := ⟨fuel2 - 1, by omega⟩
        refine ⟨fun h0 => (by rw [h0] at upc; cases upc), fun j3 hj3 => ?_⟩
        have hj4 := rdal hB.ls hj3
        rw [hrc] at hj4
        obtain rfl := List.mem_singleton.1 hj4
        obtain ⟨u3, v3, m1, m2, m3⟩ := valV_sound hB.rg hrest
        have hC := hB.step hsel hc hdc (nap _) (hni _) rel1 (Stp.refl _ _ _ _) m1
        unfold wpOp
        rw [hc]
        simp only
        rw [if_pos (wanted_nog rfl _)]
        refine .inl (op_sound (τ := true) hB.ok (K := fun _ v4 w4 => v4 = v3 ∧ w4 = w'') (Eq.mpr (m3 _ _) ⟨rfl, rfl⟩) fun v4 w4 hvw => ?_)
        obtain ⟨rfl, rfl⟩ := hvw
        exact ⟨fun _ => Ext.refl _ _, ih r [] _ _ R fuel3 true _ _ _ σ1 μ Im _ (by omega) (by omega) hsr hC m2⟩
       ·
        -- then what is made, then the store
        obtain ⟨u3, v3, m1, m2, m3⟩ := valV_sound hA.rg hrest
        have hB := hA.step hsel hc hdc (nap _) (hni _) hS.rel (Stp.refl _ _ _ _) m1
        unfold wpOp
        rw [hc]
        simp only
        rw [if_pos (wanted_nog rfl _)]
        refine .inl (op_sound (τ := true) hA.ok (K := fun _ v4 w4 => v4 = v3 ∧ w4 = w') (Eq.mpr (m3 _ _) ⟨rfl, rfl⟩) fun v4 w4 hvw => ?_)
        obtain ⟨rfl, rfl⟩ := hvw
        refine ⟨fun _ => Ext.refl _ _, ?_⟩
        have hu5 := unl_set (mem_ready.1 hj2).1
        have upp3 : p ∈ Region.ready md ops ((al.setIfInBounds j true).setIfInBounds (j + 1) true) := ready_mono upp2 hcp.symm
        have hu4 := unl_set (mem_ready.1 upp3).1
        obtain ⟨fuel3, rfl⟩ : ∃ f2, fuel2 = f2 + 1 := ⟨fuel2 - 1, by omega⟩
        refine ⟨fun h0 => (by rw [h0] at upp3; cases upp3), fun j3 hj3 => ?_⟩
        have hj4 := rdal hB.ls hj3
        rw [hrd] at hj4
        obtain rfl := List.mem_singleton.1 hj4
        have stO : opK true P ⟨none, .store ts ys zs, ty2, pos2, af2, none⟩ (put (put ρc dst v') dst3 v4) w4 fun _ _ w'' => w'' = w1 := by
         show evK (put (put ρc dst v') dst3 v4) ys fun a => evK (put (put ρc dst v') dst3 v4) zs fun x => storeK P ts a x w4 fun τ w'' => w'' = w1
         rw [hev _ q1 (by simp [Op.operands]) (fun K' => hev K' p1 (by simp [Op.operands]) h9), hev _ q1 (by simp [Op.operands]) (fun K' => hev K' p1 (by simp [Op.operands]) h12), hst1]
        have hC := hB.step hsel hq hdp (nap _) (hni _) (u := .tup []) (v := undef) rel1 stp1 rep_undef
        unfold wpOp
        rw [hq]
        simp only
        rw [if_pos (wanted_nog rfl _)]
        refine .inl (op_sound (τ := true) hB.ok stO fun v'' w'' hw => ?_)
        subst hw
        have c1 := Array.setIfInBounds_comm (xs := sl.setIfInBounds j true) true true hcp
        have c2 := Array.setIfInBounds_comm (xs := al.setIfInBounds j true) true true hcp
        rw [c1, c2] at hC
        rw [c2] at hu4 ⊢
        exact ⟨fun h => absurd (hwr.symm.trans h) (by simp), ih r [] _ _ R fuel3 true _ _ _ σ1 μ Im _ (by omega) (by omega) hsr hC m2⟩
      ·
       -- the store first
       have hA := hS.step hsel hq hdp (nap _) (hni _) (u := .tup []) (v := undef) rel1 stp1 rep_undef
       have stO : opK true P ⟨none, .store ts ys zs, ty2, pos2, af2, none⟩ ρc w fun _ _ w'' => w'' = w1 := by
        show evK ρc ys fun a => evK ρc zs fun x => storeK P ts a x w fun τ w'' => w'' = w1
        rw [h9, h12, hst1]
       unfold wpOp
       rw [hq]
       simp only
       rw [if_pos (wanted_nog rfl _)]
       refine .inl (op_sound (τ := true) hS.ok stO fun v'' w'' hw => ?_)
       subst hw
       refine ⟨fun h => absurd (hwr.symm.trans h) (by simp), ?_⟩
       have hri2 : i ∈ Region.ready md ops (sl.setIfInBounds j true) := by rw [hrb]; simp
       have upi2 := rdup hA.ls hri2
       have hu3 := unl_set (mem_ready.1 upi2).1
       obtain ⟨fuel2, rfl⟩ : ∃ f2, fuel1 = f2 + 1 := ⟨fuel1 - 1, by omega⟩
       refine ⟨fun h0 => (by rw [h0] at upi2; cases upi2), fun j2 hj2 => ?_⟩
       have hj3 := rdal hA.ls hj2
       rw [hrb] at hj3
       obtain rfl := List.mem_singleton.1 hj3
       have ldO : opK true P ⟨dst, .load tl xl, ty, pos, af, none⟩ ρc w'' fun _ v' w' => v' = v2 ∧ w' = w'' := by
        show evK ρc xl fun a => loadK P tl a w'' fun τ v' w' => v' = v2 ∧ w' = w''
        rw [k3, k6]
        exact ⟨rfl, rfl⟩
       have hB := hA.step hsel ho hdo (nap _) (hni _) rel1 (Stp.refl _ _ _ _) k4
       unfold wpOp
       rw [ho]
       simp only
       rw [if_pos (wanted_nog rfl _)]
       refine .inl (op_sound (τ := true) hA.ok ldO fun v'' w' hvw => ?_)
       obtain ⟨rfl, rfl⟩ := hvw
       refine ⟨fun _ => Ext.refl _ _, ?_⟩
       have c1 := Array.setIfInBounds_comm (xs := sl) true true hip
       have c2 := Array.setIfInBounds_comm (xs := al) true true hip
       rw [← c1, ← c2] at hB
       rw [← c2] at hu3 ⊢
       have hrd2 : j2 + 1 ∈ Region.ready md ops ((sl.setIfInBounds j2 true).setIfInBounds j true) := by rw [hrc]; simp
       have upc := rdup hB.ls hrd2
       have hu4 := unl_set (mem_ready.1 upc).1
       obtain ⟨fuel3, rfl⟩ : ∃ f2, fuel2 = f2 + 1 := ⟨fuel2 - 1, by omega⟩
       refine ⟨fun h0 => (by rw [h0] at upc; cases upc), fun j3 hj3 => ?_⟩
       have hj4 := rdal hB.ls hj3
       rw [hrc] at hj4
       obtain rfl := List.mem_singleton.1 hj4
       obtain ⟨u3, v3, m1, m2, m3⟩ := valV_sound hB.rg hrest
       have hC := hB.step hsel hc hdc (nap _) (hni _) rel1 (Stp.refl _ _ _ _) m1
       unfold wpOp
       rw [hc]
       simp only
       rw [if_pos (wanted_nog rfl _)]
       refine .inl (op_sound (τ := true) hB.ok (K := fun _ v4 w4 => v4 = v3 ∧ w4 = w') (Eq.mpr (m3 _ _) ⟨rfl, rfl⟩) fun v4 w4 hvw => ?_)
       obtain ⟨rfl, rfl⟩ := hvw
       exact ⟨fun _ => Ext.refl _ _, ih r [] _ _ R fuel3 true _ _ _ σ1 μ Im _ (by omega) (by omega) hsr hC m2⟩
     | _ => cases hl1
    | _ => cases hl1
   | 10, hs, h =>
    unfold schedC at hs
    simp only [Bool.and_eq_true, List.isEmpty_iff] at hs
    obtain ⟨⟨hL, hc⟩, hsr⟩ := hs
    subst hL
    exact enu_sound hsel hd (m0 := unl al) (fun al' fuel' τ' a' ρ' ρc' σ' μ' Im' w' h1 h2 hS' h' => ih r [] _ al' R fuel' τ' a' ρ' ρc' σ' μ' Im' w' (by omega) h2 hsr hS' h') i sl al p fuel τ a ρ ρc σ μ Im w hc (Nat.le_refl _) hf hS (h : enuV P ops (r.take i) i p τ ρ σ fun τ ρ' σ' => hldV τ P ops r ρ' σ' K)
   | 11, hs, h =>
    unfold schedC at hs
    exact ih r L sl al R fuel τ a ρ ρc σ μ Im w (by omega) hf hs hS (h : hldV τ P ops r ρ σ K)
   | 12, hs, h =>
    unfold schedC at hs
    exact ih r L sl al R fuel τ a ρ ρc σ μ Im w (by omega) hf hs hS (h : hldV τ P ops r ρ σ K)
   | t + 13, hs, h => exact absurd (show False from by unfold schedC at hs; cases hs) id
end
theorem DrawW {K : KR} {Qc : Post} {id : Nat} {ops : Array Oper} {ρ : Vg} {ρc : Rg} {σ : St} {μ : Mu} {Im : Nat → Prop} {w : World} {τ : Bool} (S : List (Nat × Nat × Nat)) (hm : P.follows .mixedOrders = true)
  (hB : (Region.noSelect ops && schedC .any ops (fun j => S.any fun p => (p.1 == j && (p.2.1 == 2 || p.2.1 == 7 || p.2.1 == 12)) || ((p.2.1 == 8 || p.2.1 == 9) && p.2.2 == j)) (Array.replicate ops.size false) [] S) = true)
  (hd : (ops.toList.all fun o => o.dst.all (· < n)) = true) (hk : k ≤ μ.length) (r : Rel μ Im σ w) (hg : RepG w Im μ ρ ρc) (tr : TrK k μ Im σ w K fun τ => Qc τ .normal) (h : hldV τ P ops S ρ σ K) : DrawK P n id ops ρc w Qc := by
 intro a hok
 simp only [Bool.and_eq_true] at hB
 obtain ⟨h1, h3⟩ := hB
 have mn : Mono μ Im w μ Im w.drew := ⟨List.prefix_refl _, fun _ h => h, fun _ _ => rfl⟩
 have r' : Rel μ Im σ w.drew := ⟨r.len, fun o ob ho => by
  obtain ⟨loc, h1, h2⟩ := r.rep o ob ho
  exact ⟨loc, h1, h2.mono mn fun _ _ _ => rfl⟩, r.inj, r.im, r.lay.mono mn⟩
 have s' : Stp μ Im σ w μ Im σ w.drew := ⟨List.prefix_refl _, fun _ h => h, (Ext.refl _ _).drew, fun _ h => .inl h, fun _ h => .inl h⟩
 refine wp_mono (wp_region_any (Q := Only n fun τ => Qc τ .normal) hm ?_) ?_
 ·
  refine wpAny_of_E _ _ _ _ (hldW_sound (Kc := fun τ => Qc τ .normal) h1 (fun i o ho => ?_) tr (S.length + unl (Array.replicate ops.size false)) S [] (Array.replicate ops.size false) (Array.replicate ops.size false) (fun _ => ⟨0, 0, ⟨none, .move (.tmp 0), 0, "", #[], none⟩, [], 0, fun _ => undef, none, none, false⟩) ops.size τ a ρ ρc σ μ Im w.drew (Nat.le_refl _) (by rw [unl_rep]; exact Nat.le_refl _) h3 ⟨by simp, by simp, LsR.refl _, hok, hk, r', hg.mono mn, s'.toq hk, by simp, by simp, by simp, by simp, by simp, by simp⟩ h)
  exact List.all_eq_true.1 hd o (List.mem_of_getElem? (by simpa using ho))
 ·
  rintro e a' w' ⟨rfl, ρ', hok', hk⟩
  exact ⟨ρ', hok', hk⟩

theorem Emb.part {π : Pi} {ρ₀ ρ : Vg} {σ₀ σ : St} {μ : Mu} {Im : Nat → Prop} {w : World} (h : Emb k π ρ₀ σ₀ ρ σ) (r : Rel μ Im σ w) (hkm : k ≤ μ.length) :
  ∃ Im', Rel (muOf μ π) Im' σ₀ w ∧ Stq k μ Im σ w (muOf μ π) Im' σ₀ w ∧ k ≤ (muOf μ π).length ∧ Frz μ Im σ (okN π) Im' := by
 obtain ⟨h0, hs, hg⟩ := h
 simp only [Bool.and_eq_true] at h0
 obtain ⟨hn, hk⟩ := h0
 have fz : Frz μ Im σ (okN π) fun b => Im b ∨ ∃ (o n : Nat) (ob : Ob), okN π o = true ∧ σ[o]? = some (some ob) ∧ μ[o]? = some (some (b, n)) := ⟨fun b hb => .inl hb, fun o b n ob h1 h2 h3 => .inr ⟨o, n, ob, h1, h2, h3⟩⟩
 obtain ⟨r', hl⟩ := r.part fz (fun j o hj => by
  unfold okN
  simp only [Bool.not_eq_false']
  exact List.contains_iff_mem.2 (List.mem_of_getElem? hj)) hn hs (fun b hb => hb)
 have kf : ∀ i, i < k → π[i]? = some (some i) := fun i hi => by
  have := List.all_eq_true.1 hk i (List.mem_range.2 hi)
  simpa using this
 refine ⟨_, r', ⟨fun i hi => ?_, fun b hb => .inl hb, Ext.refl _ _, fun b hb => .inl (hl b hb), fun b hb => ?_⟩, ?_, fz⟩
 ·
  rw [muOf_some (kf i hi)]
  obtain ⟨hsl, hss⟩ := mSt_spec hs
  rw [List.getElem?_eq_getElem (by omega)]
  rfl
 ·
  rcases hb with h | ⟨o, n, ob, h1, h2, h3⟩
  ·
   exact .inl h
  ·
   exact .inr (.inl (mem_live.2 ⟨o, n, ob, h3, h2⟩))
 ·
  simp only [muOf, List.length_map]
  rcases Nat.lt_or_ge π.length k with h | h
  ·
   have := kf π.length h
   simp at this
  ·
   exact h

theorem lkV_get {w : World} {Im : Nat → Prop} {μ : Mu} {ρ : Vg} {ρc : Rg} {t : Nat} {K : V → Prop} (hg : RepG w Im μ ρ ρc) (h : lkV ρ t K) : ∃ u v, fd ρc t = some v ∧ RepV w Im μ u v ∧ K u := by
 unfold lkV at h
 cases hf : fdV ρ t with
 | none => rw [hf] at h; exact h.elim
 | some u =>
  rw [hf] at h
  obtain ⟨v, h1, h2⟩ := hg t u hf
  exact ⟨u, v, h1, h2, h⟩
theorem Sub.refl (ρ : Rg) : Sub ρ ρ := fun _ _ h => h
theorem denV_sound : ∀ (c : Code), chk n pl c = true → ∀ (τ : Bool) (ρ : Vg) (σ : St) (μ : Mu) (Im : Nat → Prop) (w : World) (ρc : Rg) (Q : PostV) (Qc : Post), P.follows .mixedOrders = true → k ≤ μ.length → Rel μ Im σ w → RepG w Im μ ρ ρc → TrQ k μ Im σ w Q Qc → denV τ P k pl c ρ σ Q → den true P n c ρc w Qc
 | .skip, _, τ, ρ, σ, μ, Im, w, ρc, Q, Qc, hm, hk, r, hg, tr, h => tr _ ρ σ μ Im w ρc r ((Stp.refl _ _ _ _).toq hk) hg hk h
 | .region id ops draw, hc, τ, ρ, σ, μ, Im, w, ρc, Q, Qc, hm, hk, r, hg, tr, h => by
  simp only [chk, Bool.and_eq_true] at hc
  cases draw with
  | true =>
   simp only [Bool.not_true, Bool.false_or] at hc
   show DrawK P n id ops ρc w Qc
   exact DrawW (K := fun τ => Q τ .normal) (pl id) hm hc.2 hc.1 hk r hg (fun ρ' σ' μ' Im' w' ρc' => tr _ ρ' σ' μ' Im' w' ρc') h
  | false => exact ops_sound (K := fun τ => Q τ .normal) (Kc := fun τ => Qc τ .normal) _ τ ρ σ μ Im w ρc hk r hg (fun ρ' σ' μ' Im' w' ρc' => tr _ ρ' σ' μ' Im' w' ρc') h
 | .seq a b, hc, τ, ρ, σ, μ, Im, w, ρc, Q, Qc, hm, hk, r, hg, tr, h => by
  simp only [chk, Bool.and_eq_true] at hc
  refine denV_sound a hc.1 τ ρ σ μ Im w ρc _ _ hm hk r hg ?_ (h : denV τ P k pl a ρ σ _)
  intro e ρ' σ' μ' Im' w' ρc' r' s' hg' hk' hq
  cases e with
  | normal => exact denV_sound b hc.2 true ρ' σ' μ' Im' w' ρc' Q Qc hm hk' r' hg' (fun e ρ'' σ'' μ'' Im'' w'' ρc'' r'' s'' => tr e ρ'' σ'' μ'' Im'' w'' ρc'' r'' (s'.trans s'')) hq
  | _ => exact tr _ ρ' σ' μ' Im' w' ρc' r' s' hg' hk' hq
 | .cond c a b, hc, τ, ρ, σ, μ, Im, w, ρc, Q, Qc, hm, hk, r, hg, tr, h => by
  simp only [chk, Bool.and_eq_true] at hc
  obtain ⟨u, v, h1, h2, h3⟩ := evV_sound hg (h : evV ρ c _)
  show evK ρc c fun v => cdK v (fun τ => den τ P n a ρc w Qc) (fun τ => den τ P n b ρc w Qc)
  rw [h3]
  unfold cdV at h2
  split at h2
  ·
   cases h1
   exact ⟨fun e => denV_sound a hc.1 true ρ σ μ Im w ρc Q Qc hm hk r hg tr (h2.1 e), fun e => denV_sound b hc.2 true ρ σ μ Im w ρc Q Qc hm hk r hg tr (h2.2 e)⟩
  ·
   exact h2.elim
 | .block id c, hc, τ, ρ, σ, μ, Im, w, ρc, Q, Qc, hm, hk, r, hg, tr, h => by
  refine denV_sound c hc τ ρ σ μ Im w ρc _ _ hm hk r hg ?_ (h : denV τ P k pl c ρ σ _)
  intro e ρ' σ' μ' Im' w' ρc' r' s' hg' hk' hq
  cases e with
  | exit i =>
   simp only [blockV] at hq
   simp only [blockQ]
   split at hq
   ·
    rw [if_pos ‹_›]; exact tr _ ρ' σ' μ' Im' w' ρc' r' s' hg' hk' hq
   ·
    rw [if_neg ‹_›]; exact tr _ ρ' σ' μ' Im' w' ρc' r' s' hg' hk' hq
  | _ => exact tr _ ρ' σ' μ' Im' w' ρc' r' s' hg' hk' hq
 | .loop c, hc, τ, ρ, σ, μ, Im, w, ρc, Q, Qc, hm, hk, r, hg, tr, h => by
  obtain ⟨I, ⟨m₀, π, ρ₀, σ₀, hE, hI⟩, round⟩ := (h : LoopV k (denV true P k pl c) ρ σ Q)
  have enter : ∀ {π : Pi} {ρ₀ ρ : Vg} {σ₀ σ : St} {μ' : Mu} {Im' : Nat → Prop} {w' : World} {ρc' : Rg}, Emb k π ρ₀ σ₀ ρ σ → Rel μ' Im' σ w' → RepG w' Im' μ' ρ ρc' → k ≤ μ'.length →
    ∃ Im'', Rel (muOf μ' π) Im'' σ₀ w' ∧ Stq k μ' Im' σ w' (muOf μ' π) Im'' σ₀ w' ∧ RepG w' Im'' (muOf μ' π) ρ₀ ρc' ∧ k ≤ (muOf μ' π).length := by
   intro π ρ₀ ρ σ₀ σ μ' Im' w' ρc' hE r' hg' hk'
   obtain ⟨Im'', h1, h2, h3, fz⟩ := hE.part r' hk'
   refine ⟨Im'', h1, h2, ?_, h3⟩
   have hG := hE.2.2
   have aux : ∀ (ρ₀ : Vg), mG (okN π) π σ ρ₀ ρ → RepG w' Im'' (muOf μ' π) ρ₀ ρc' := by
    intro ρ₀
    induction ρ₀ with
    | nil => intro _ t u ht; simp [fdV] at ht
    | cons x ρ₀ ih =>
     obtain ⟨s, u⟩ := x
     intro hG t u' ht
     unfold mG at hG
     rw [fdV_cons] at ht
     split at ht
     ·
      rename_i e
      subst e
      cases ht
      obtain ⟨v, vc, h4, h5, h6⟩ := lkV_get hg' hG.1
      exact ⟨_, h4, mV_sound r' fz h6 h5⟩
     ·
      exact ih hG.2 t u' ht
   exact aux ρ₀ hG
  obtain ⟨Im₁, r₁, s₁, g₁, k₁⟩ := enter hE r hg hk
  refine ⟨fun m ρc' w' => ∃ ρ' σ' μ' Im', I m ρ' σ' ∧ Rel μ' Im' σ' w' ∧ Stq k μ Im σ w μ' Im' σ' w' ∧ RepG w' Im' μ' ρ' ρc' ∧ k ≤ μ'.length, ⟨m₀, ρc, Sub.refl _, ρ₀, σ₀, _, Im₁, hI, r₁, s₁, g₁, k₁⟩, ?_⟩
  rintro m ρc' w' ⟨ρ', σ', μ', Im', hI', r', s', g', k'⟩
  refine denV_sound c hc true ρ' σ' μ' Im' w' ρc' _ _ hm k' r' g' ?_ (round m ρ' σ' hI')
  intro e ρ'' σ'' μ'' Im'' w'' ρc'' r'' s'' g'' k'' hq
  cases e with
  | normal =>
   obtain ⟨m', π', ρ₁, σ₁, hlt, hE', hI''⟩ := hq
   obtain ⟨Im₂, r₂, s₂, g₂, k₂⟩ := enter hE' r'' g'' k''
   exact ⟨m', ρc'', hlt, Sub.refl _, ρ₁, σ₁, _, Im₂, hI'', r₂, (s'.trans s'').trans s₂, g₂, k₂⟩
  | _ => exact tr _ ρ'' σ'' μ'' Im'' w'' ρc'' r'' (s'.trans s'') g'' k'' hq
 | .exit id, _, τ, ρ, σ, μ, Im, w, ρc, Q, Qc, hm, hk, r, hg, tr, h => tr _ ρ σ μ Im w ρc r ((Stp.refl _ _ _ _).toq hk) hg hk h
 | .ret, _, τ, ρ, σ, μ, Im, w, ρc, Q, Qc, hm, hk, r, hg, tr, h => tr _ ρ σ μ Im w ρc r ((Stp.refl _ _ _ _).toq hk) hg hk h
 | .rangeFunc .., _, _, _, _, _, _, _, _, _, _, _, _, _, _, _, h => (h : False).elim
 | .scope c, hc, τ, ρ, σ, μ, Im, w, ρc, Q, Qc, hm, hk, r, hg, tr, h => by
  refine denV_sound c hc τ ρ σ μ Im w ρc _ (scopeQ Qc) hm hk r hg ?_ (h : denV τ P k pl c ρ σ _)
  intro e ρ' σ' μ' Im' w' ρc' r' s' hg' hk' hq
  cases e with
  | goto l => exact hq.elim
  | _ => exact tr _ ρ' σ' μ' Im' w' ρc' r' s' hg' hk' hq
 | .label .., _, τ, ρ, σ, μ, Im, w, ρc, Q, Qc, hm, hk, r, hg, tr, h => tr _ ρ σ μ Im w ρc r ((Stp.refl _ _ _ _).toq hk) hg hk h
 | .goto .., _, _, _, _, _, _, _, _, _, _, _, _, _, _, _, h => (h : False).elim
 | .refuse .., _, _, _, _, _, _, _, _, _, _, _, _, _, _, _, h => (h : False).elim
end
end Go.Vx

namespace Go.Vx
open Go.Eng
set_option linter.unusedSimpArgs false
set_option linter.unusedVariables false

def rgV : Nat → List V → Vg
 | _, [] => []
 | i, v :: r => (i, v) :: rgV (i + 1) r
def resultsV (P : Program) : List ResultVar → Vg → St → (List V → Prop) → Prop
 | [], _, _, K => K []
 | .tmp t :: r, ρ, σ, K => lkV ρ t fun v => resultsV P r ρ σ fun vs => K (v :: vs)
 | .cell t ty :: r, ρ, σ, K => lkV ρ t fun p => ldV P ty p σ fun _ v => resultsV P r ρ σ fun vs => K (v :: vs)
def packU : List V → V
 | [v] => v
 | vs => .tup vs
def retPV (P : Program) (rs : List ResultVar) (R : V → St → Prop) : PostV
 | _, .normal, ρ, σ => resultsV P rs ρ σ fun vs => R (packU vs) σ
 | _, .ret, ρ, σ => resultsV P rs ρ σ fun vs => R (packU vs) σ
 | _, _, _, _ => False
def Fn (P : Program) (f : FuncId) (vs : List V) (σ : St) (Q : V → St → Prop) : Prop :=
 (∀ (args : Array Value) (w : World), (callFunc f args).run P w = .ok (.enter f args) w) ∧
 ∀ (μ : Mu) (Im : Nat → Prop) (w : World) (args : List Value), Rel μ Im σ w → RepL w Im μ vs args →
  Rets P f args w fun v w' => ∃ u σ' μ' Im', Rel μ' Im' σ' w' ∧ Stq σ.length μ Im σ w μ' Im' σ' w' ∧ σ.length ≤ μ'.length ∧ RepV w' Im' μ' u v ∧ Q u σ'
def Fn1 (P : Program) (f : FuncId) (vs : List V) (σ : St) (u : V) (s : St) : Prop := Fn P f vs σ fun u' s' => u' = u ∧ s' = s
theorem Fn.mono {P : Program} {f : FuncId} {vs : List V} {σ : St} {Q Q' : V → St → Prop} (h : Fn P f vs σ Q) (hq : ∀ u s, Q u s → Q' u s) : Fn P f vs σ Q' :=
 ⟨h.1, fun μ Im w args r hr => (h.2 μ Im w args r hr).mono fun v w' ⟨u, σ', μ', Im', h1, h2, h3, h4, h5⟩ => ⟨u, σ', μ', Im', h1, h2, h3, h4, hq _ _ h5⟩⟩

section
variable {P : Program}
theorem okC_of_chk {n : Nat} {pl : Plans} : ∀ (c : Code), chk n pl c = true → okC n c = true
 | .region _ ops draw, h => by simp only [chk, Bool.and_eq_true] at h; exact h.1
 | .seq a b, h => by simp only [chk, Bool.and_eq_true] at h; simp only [okC, Bool.and_eq_true]; exact ⟨okC_of_chk a h.1, okC_of_chk b h.2⟩
 | .cond _ a b, h => by simp only [chk, Bool.and_eq_true] at h; simp only [okC, Bool.and_eq_true]; exact ⟨okC_of_chk a h.1, okC_of_chk b h.2⟩
 | .block _ c, h => okC_of_chk c h
 | .loop c, h => okC_of_chk c h
 | .skip, _ => rfl
 | .exit _, _ => rfl
 | .ret, _ => rfl
 | .rangeFunc .., _ => rfl
 | .scope c, h => okC_of_chk c h
 | .label .., _ => rfl
 | .goto .., _ => rfl
 | .refuse .., _ => rfl
theorem rgV_sound {w : World} {Im : Nat → Prop} {μ : Mu} : ∀ {vs : List V} {args : List Value} (i : Nat), RepL w Im μ vs args → RepG w Im μ (rgV i vs) (rgOf i args)
 | [], _, i, _ => fun t u h => by simp [rgV, fdV] at h
 | v :: vs, args, i, h => by
  obtain ⟨a, args, rfl, h1, h2⟩ := h.uncons
  exact (rgV_sound (i + 1) h2).cons i h1
theorem resultsV_sound {w : World} {Im : Nat → Prop} {μ : Mu} {σ : St} {ρ : Vg} {ρc : Rg} (r : Rel μ Im σ w) (hg : RepG w Im μ ρ ρc) : ∀ {rs : List ResultVar} {K : List V → Prop} {Kc : List Value → Prop}, resultsV P rs ρ σ K → (∀ us vs, RepL w Im μ us vs → K us → Kc vs) → resultsK P rs ρc w Kc
 | [], K, Kc, h, hk => hk [] [] .nil h
 | .tmp t :: rs, K, Kc, h, hk => by
  obtain ⟨u, v, h1, h2, h3⟩ := lkV_sound hg (h : lkV ρ t _)
  show lk ρc t fun v => resultsK P rs ρc w fun vs => Kc (v :: vs)
  rw [h3]
  exact resultsV_sound r hg h2 fun us vs hr hK => hk _ _ (.cons h1 hr) hK
 | .cell t ty :: rs, K, Kc, h, hk => by
  obtain ⟨u, v, h1, h2, h3⟩ := lkV_sound hg (h : lkV ρ t _)
  obtain ⟨u', v', h4, h5, h6⟩ := ldV_sound r h1 h2
  show lk ρc t fun p => loadK P ty p w fun _ v _ => resultsK P rs ρc w fun vs => Kc (v :: vs)
  rw [h3, h6]
  exact resultsV_sound r hg h5 fun us vs hr hK => hk _ _ (.cons h4 hr) hK
theorem packU_sound {w : World} {Im : Nat → Prop} {μ : Mu} {us : List V} {vs : List Value} (h : RepL w Im μ us vs) : RepV w Im μ (packU us) (packV vs) := by
 match us, h with
 | [], h =>
  have : vs = [] := List.length_eq_zero_iff.1 (by simpa using h.1)
  subst this
  exact .tup h.1 h.2
 | [u], h =>
  obtain ⟨v, vs, rfl, h1, h2⟩ := h.uncons
  have : vs = [] := List.length_eq_zero_iff.1 (by simpa using h2.1)
  subst this
  exact h1
 | u :: u' :: us, h =>
  obtain ⟨v, vs, rfl, h1, h2⟩ := h.uncons
  obtain ⟨v', vs, rfl, h3, h4⟩ := h2.uncons
  exact .tup h.1 h.2

def EndV (k : Nat) (Q : V → St → Prop) (u : V) (s : St) : Prop := ∃ π u₀ s₀, EmbR k π u₀ s₀ u s ∧ Q u₀ s₀
theorem fn_of {f : FuncId} {fn : Func} {c : Code} {vs : List V} {σ : St} {Q : V → St → Prop} (pl : Plans) (hm : P.follows .mixedOrders = true) (hcf : ∀ (args : Array Value) (w : World), (callFunc f args).run P w = .ok (.enter f args) w)
  (hf : P.funcs[f]? = some fn) (hb : fn.body = some c) (hc : chk fn.ntmps pl c = true) (hs : Nat.ble vs.length fn.ntmps = true) (rs : List ResultVar) (hr : fn.results.toList = rs)
  (h : denV true P σ.length pl c (rgV 0 vs) σ (retPV P rs (EndV σ.length Q))) : Fn P f vs σ Q := by
 refine ⟨hcf, fun μ Im w args r hl => ?_⟩
 refine rets_den hf hb (okC_of_chk c hc) (by rw [hl.1]; exact hs) rs hr ?_
 refine denV_sound c hc true _ σ μ Im w _ _ _ hm (by rw [r.len]; exact Nat.le_refl _) r (rgV_sound 0 hl) ?_ h
 intro e ρ' σ' μ' Im' w' ρc r' s' g' k' hq
 have fin : resultsV P rs ρ' σ' (fun vs => EndV σ.length Q (packU vs) σ') → resultsK P rs ρc w' fun vs => ∃ u σ' μ' Im', Rel μ' Im' σ' w' ∧ Stq σ.length μ Im σ w μ' Im' σ' w' ∧ σ.length ≤ μ'.length ∧ RepV w' Im' μ' u (packV vs) ∧ Q u σ' := fun hq =>
  resultsV_sound r' g' hq fun us vs hus hE => by
   obtain ⟨π, u₀, s₀, ⟨h1, h2, h3⟩, hQ⟩ := hE
   obtain ⟨Im'', q1, q2, q3, fz⟩ := Emb.part (ρ₀ := []) (ρ := []) ⟨h1, h2, trivial⟩ r' k'
   exact ⟨u₀, s₀, _, Im'', q1, s'.trans q2, q3, mV_sound r' fz h3 (packU_sound hus), hQ⟩
 cases e with
 | normal => exact fin hq
 | ret => exact fin hq
 | _ => exact hq.elim


mutual
def renV (f : Nat → Nat) : V → V
 | .lit v => .lit v
 | .row z l => .row z l
 | .xrow z l => .xrow z l
 | .ref o z i off => .ref (f o) z i off
 | .sl o z off len => .sl (f o) z off len
 | .rref z l i off => .rref z l i off
 | .agg l => .agg (renL f l)
 | .tup l => .tup (renL f l)
 | .clo g l => .clo g (renL f l)
 | .mref o => .mref (f o)
def renL (f : Nat → Nat) : List V → List V
 | [] => []
 | v :: vs => renV f v :: renL f vs
end
def renO (f : Nat → Nat) : Ob → Ob
 | .cells l => .cells (renL f l)
 | .row z l => .row z l
 | .map l => .map l
 | .iter o n s => .iter (f o) n s
def renX (f : Nat → Nat) : Option Ob → Option Ob
 | none => none
 | some ob => some (renO f ob)
def rnm : List Nat → Nat → Nat → Nat
 | [], n, j => n + j
 | p :: _, _, 0 => p
 | _ :: r, n, j + 1 => rnm r n j
def renS (f : Nat → Nat) : St → St
 | [] => []
 | x :: s => renX f x :: renS f s
def mrg (f : Nat → Nat) : List Nat → St → St → St
 | [], σ, s => σ ++ renS f s
 | p :: π, σ, x :: s => mrg f π (σ.set p (renX f x)) s
 | _ :: _, σ, [] => σ
def kill : List Nat → St → St
 | [], σ => σ
 | o :: F, σ => kill F (σ.set o none)
theorem renL_eq (f : Nat → Nat) : ∀ l : List V, renL f l = l.map (renV f)
 | [] => rfl
 | v :: l => by simp [renL, renL_eq f l]
theorem renS_eq (f : Nat → Nat) : ∀ s : St, renS f s = s.map (renX f)
 | [] => rfl
 | v :: l => by simp [renS, renS_eq f l]
theorem rnm_lt : ∀ {π : List Nat} {n j : Nat} (h : j < π.length), rnm π n j = π[j]
 | [], _, _, h => by simp at h
 | p :: π, n, 0, _ => rfl
 | p :: π, n, j + 1, h => by simpa [rnm] using rnm_lt (π := π) (n := n) (j := j) (by simpa using h)
theorem rnm_ge : ∀ {π : List Nat} {n j : Nat} (h : π.length ≤ j), rnm π n j = n + (j - π.length)
 | [], _, _, _ => by simp [rnm]
 | p :: π, n, 0, h => by simp at h
 | p :: π, n, j + 1, h => by simpa [rnm] using rnm_ge (π := π) (n := n) (j := j) (by simpa using h)
theorem mrg_len {f : Nat → Nat} : ∀ {π : List Nat} {σ s : St}, π.length ≤ s.length → (mrg f π σ s).length = σ.length + (s.length - π.length)
 | [], σ, s, _ => by simp [mrg, renS_eq]
 | p :: π, σ, [], h => by simp at h
 | p :: π, σ, x :: s, h => by rw [mrg, mrg_len (by simpa using h)]; simp
theorem mrg_old {f : Nat → Nat} : ∀ {π : List Nat} {σ s : St} {i : Nat}, π.length ≤ s.length → i < σ.length → i ∉ π → (mrg f π σ s)[i]? = σ[i]?
 | [], σ, s, i, _, hi, _ => by rw [mrg, List.getElem?_append_left hi]
 | p :: π, σ, [], i, h, _, _ => by simp at h
 | p :: π, σ, x :: s, i, h, hi, hn => by
  simp only [List.mem_cons, not_or] at hn
  rw [mrg, mrg_old (by simpa using h) (by simpa using hi) hn.2, List.getElem?_set_ne (fun e => hn.1 e.symm)]
theorem mrg_at {f : Nat → Nat} : ∀ {π : List Nat} {σ s : St} {j p : Nat}, π.length ≤ s.length → π.Nodup → π[j]? = some p → p < σ.length → (mrg f π σ s)[p]? = (s[j]?).map (renX f)
 | [], σ, s, j, p, _, _, h, _ => by simp at h
 | q :: π, σ, [], j, p, h, _, _, _ => by simp at h
 | q :: π, σ, x :: s, 0, p, h, hn, hp, hl => by
  simp only [List.nodup_cons] at hn
  simp at hp
  subst hp
  rw [mrg, mrg_old (by simpa using h) (by simpa using hl) hn.1, List.getElem?_set_self hl]
  rfl
 | q :: π, σ, x :: s, j + 1, p, h, hn, hp, hl => by
  simp only [List.nodup_cons] at hn
  rw [mrg, mrg_at (j := j) (by simpa using h) hn.2 (by simpa using hp) (by simpa using hl)]
  simp
theorem mrg_new {f : Nat → Nat} : ∀ {π : List Nat} {σ s : St} {i : Nat}, π.length ≤ s.length → σ.length ≤ i → (mrg f π σ s)[i]? = (s[π.length + (i - σ.length)]?).map (renX f)
 | [], σ, s, i, _, hi => by rw [mrg, List.getElem?_append_right hi, renS_eq, List.getElem?_map]; simp
 | p :: π, σ, [], i, h, _ => by simp at h
 | p :: π, σ, x :: s, i, h, hi => by
  rw [mrg, mrg_new (by simpa using h) (by simpa using hi)]
  simp only [List.length_set, List.length_cons]
  rw [show π.length + 1 + (i - σ.length) = (π.length + (i - σ.length)) + 1 by omega, List.getElem?_cons_succ]
theorem kill_len : ∀ (F : List Nat) (σ : St), (kill F σ).length = σ.length
 | [], σ => rfl
 | o :: F, σ => by rw [kill, kill_len F]; simp
theorem kill_get : ∀ (F : List Nat) (σ : St) {i : Nat} {ob : Ob}, (kill F σ)[i]? = some (some ob) → i ∉ F ∧ σ[i]? = some (some ob)
 | [], σ, i, ob, h => ⟨by simp, h⟩
 | o :: F, σ, i, ob, h => by
  obtain ⟨h1, h2⟩ := kill_get F (σ.set o none) h
  by_cases e : o = i
  ·
   subst e
   rw [List.getElem?_set] at h2
   simp at h2
  ·
   rw [List.getElem?_set_ne e] at h2
   exact ⟨by simp [h1]; exact fun h => e h.symm, h2⟩
theorem RepV.ren {w : World} {Im : Nat → Prop} {μ μ' : Mu} {f : Nat → Nat} (hf : ∀ (j : Nat) x, μ[j]? = some x → μ'[f j]? = some x) {u : V} {v : Value} (h : RepV w Im μ u v) : RepV w Im μ' (renV f u) v := by
 have lst : ∀ {l : List V} {C : List Value}, (∀ (i : Nat) u c, l[i]? = some u → C[i]? = some c → RepV w Im μ' (renV f u) c) → ∀ (i : Nat) u c, (renL f l)[i]? = some u → C[i]? = some c → RepV w Im μ' u c := by
  intro l C ih i u c hu hc
  rw [renL_eq, List.getElem?_map] at hu
  cases hx : l[i]? with
  | none => rw [hx] at hu; cases hu
  | some x => rw [hx] at hu; cases hu; exact ih i x c hx hc
 induction h with
 | lit h => exact .lit h
 | row h => exact .row h
 | xrow h => exact .xrow h
 | ref h => exact .ref (hf _ _ h)
 | sl h =>
  obtain ⟨x, hx⟩ := h.some
  refine .sl ?_
  rw [hf _ _ hx]
  rw [hx] at h
  exact h
 | rref q1 q2 q3 q4 q5 q6 => exact .rref q1 q2 q3 q4 q5 q6
 | agg hn ho _ ih => exact .agg (by rw [renL_eq]; simpa using hn) ho (lst ih)
 | tup hn _ ih => exact .tup (by rw [renL_eq]; simpa using hn) (lst ih)
 | clo hn _ ih => exact .clo (by rw [renL_eq]; simpa using hn) (lst ih)
 | mref h => exact .mref (hf _ _ h)
theorem RepO.ren {w : World} {Im : Nat → Prop} {μ μ' : Mu} {f : Nat → Nat} (hf : ∀ (j : Nat) x, μ[j]? = some x → μ'[f j]? = some x) {loc : Option (Nat × Nat)} {ob : Ob} (h : RepO w Im μ loc ob) : RepO w Im μ' loc (renO f ob) := by
 cases ob with
 | cells l =>
  obtain ⟨b, C, D, e, hB, ho, hL⟩ := h
  refine ⟨b, C, D, e, hB, ho, by rw [renL_eq]; simpa using hL.1, fun i u c hu hc => ?_⟩
  rw [renL_eq, List.getElem?_map] at hu
  cases hx : l[i]? with
  | none => rw [hx] at hu; cases hu
  | some x => rw [hx] at hu; cases hu; exact (hL.2 i x c hx hc).ren hf
 | row z l => exact h
 | map l => exact h
 | iter o n s =>
  obtain ⟨b, q, k, e, hm, hB⟩ := h
  exact ⟨b, q, k, e, hf _ _ hm, hB⟩
def vpi : Nat → Pi → List Nat
 | _, [] => []
 | n, some o :: r => o :: vpi n r
 | n, none :: r => n :: vpi (n + 1) r
def vcnt : Pi → Nat
 | [] => 0
 | some _ :: r => vcnt r
 | none :: r => vcnt r + 1
def padN : Nat → St → St
 | 0, σ => σ
 | n + 1, σ => padN n (σ ++ [none])
theorem padN_eq : ∀ (n : Nat) (σ : St), padN n σ = σ ++ List.replicate n none
 | 0, σ => by simp [padN]
 | n + 1, σ => by rw [padN, padN_eq n]; simp [List.replicate_succ]
theorem vpi_len : ∀ (π : Pi) (n : Nat), (vpi n π).length = π.length
 | [], _ => rfl
 | some _ :: r, n => by simp [vpi, vpi_len r]
 | none :: r, n => by simp [vpi, vpi_len r]
theorem vpi_some : ∀ (π : Pi) (n j o : Nat), π[j]? = some (some o) → (vpi n π)[j]? = some o
 | [], _, j, o, h => by simp at h
 | some p :: r, n, 0, o, h => by simp at h; subst h; rfl
 | none :: r, n, 0, o, h => by simp at h
 | some p :: r, n, j + 1, o, h => by simpa [vpi] using vpi_some r n j o (by simpa using h)
 | none :: r, n, j + 1, o, h => by simpa [vpi] using vpi_some r (n + 1) j o (by simpa using h)
theorem vpi_none : ∀ (π : Pi) (n j : Nat), π[j]? = some none → ∃ m, (vpi n π)[j]? = some m ∧ n ≤ m ∧ m < n + vcnt π
 | [], _, j, h => by simp at h
 | some p :: r, n, 0, h => by simp at h
 | none :: r, n, 0, _ => ⟨n, rfl, Nat.le_refl _, by simp [vcnt]⟩
 | some p :: r, n, j + 1, h => by simpa [vpi, vcnt] using vpi_none r n j (by simpa using h)
 | none :: r, n, j + 1, h => by
  obtain ⟨m, h1, h2, h3⟩ := vpi_none r (n + 1) j (by simpa using h)
  exact ⟨m, by simpa [vpi] using h1, by omega, by simp only [vcnt]; omega⟩
theorem vpi_mem : ∀ (π : Pi) (n m : Nat), m ∈ vpi n π → some m ∈ π ∨ (n ≤ m ∧ m < n + vcnt π)
 | [], _, m, h => by simp [vpi] at h
 | some p :: r, n, m, h => by
  simp only [vpi, List.mem_cons] at h
  rcases h with rfl | h
  ·
   exact .inl (by simp)
  ·
   exact (vpi_mem r n m h).imp (fun h => by simp [h]) id
 | none :: r, n, m, h => by
  simp only [vpi, List.mem_cons] at h
  simp only [vcnt]
  rcases h with rfl | h
  ·
   exact .inr ⟨Nat.le_refl _, by omega⟩
  ·
   rcases vpi_mem r (n + 1) m h with h | h
   ·
    exact .inl (by simp [h])
   ·
    exact .inr ⟨by omega, by omega⟩
theorem vpi_nodup : ∀ (π : Pi) (n : Nat), (π.filterMap id).Nodup → (∀ p, some p ∈ π → p < n) → (vpi n π).Nodup
 | [], _, _, _ => by simp [vpi]
 | some p :: r, n, h, hb => by
  simp only [List.filterMap_cons, id, List.nodup_cons] at h
  simp only [vpi, List.nodup_cons]
  refine ⟨fun hm => ?_, vpi_nodup r n h.2 (fun q hq => hb q (by simp [hq]))⟩
  rcases vpi_mem r n p hm with h1 | h1
  ·
   exact h.1 (List.mem_filterMap.2 ⟨some p, h1, rfl⟩)
  ·
   have := hb p (by simp); omega
 | none :: r, n, h, hb => by
  simp only [List.filterMap_cons, id] at h
  simp only [vpi, List.nodup_cons]
  refine ⟨fun hm => ?_, vpi_nodup r (n + 1) h (fun q hq => by have := hb q (by simp [hq]); omega)⟩
  rcases vpi_mem r (n + 1) n hm with h1 | h1
  ·
   have := hb n (by simp [h1]); omega
  ·
   omega
def CallM (π : Pi) (F : List Nat) (vs₀ : List V) (σ₀ : St) (vs : List V) (σ : St) : Prop :=
 (ndp π && π.all (fun p => match p with | some p => decide (p < σ.length) && !F.contains p | none => true)) = true ∧ mSt F.contains π σ σ₀ π ∧ mVs F.contains π σ vs₀ vs
def behd (π : Pi) (F : List Nat) (σ s : St) : St := mrg (rnm (vpi σ.length π) (σ.length + vcnt π)) (vpi σ.length π) (padN (vcnt π) (kill F σ)) s

theorem callV_of {e : Bool} {f : FuncId} {vs vs₀ : List V} {σ σ₀ : St} {Q : V → St → Prop} {K : KV} (π : Pi) (F : List Nat) (spec : Fn P f vs₀ σ₀ Q) (hm : CallM π F vs₀ σ₀ vs σ) (he : e = true → σ₀ = [])
  (hk : ∀ u s, Q u s → K true (renV (rnm (vpi σ.length π) (σ.length + vcnt π)) u) (behd π F σ s)) : callV P e f vs σ K := by
 refine callV_mk spec.1 fun μ Im w args r hr => ?_
 obtain ⟨hc, hs, hv⟩ := hm
 simp only [Bool.and_eq_true] at hc
 obtain ⟨hnp, hall⟩ := hc
 have hall' : ∀ p, some p ∈ π → p < σ.length ∧ F.contains p = false := fun p hp => by
  have := List.all_eq_true.1 hall _ hp
  simpa using this
 have fz : Frz μ Im σ F.contains fun b => Im b ∨ ∃ (o n : Nat) (ob : Ob), F.contains o = true ∧ σ[o]? = some (some ob) ∧ μ[o]? = some (some (b, n)) := ⟨fun b hb => .inl hb, fun o b n ob h1 h2 h3 => .inr ⟨o, n, ob, h1, h2, h3⟩⟩
 obtain ⟨r₀, hl₀⟩ := r.part fz (fun j o hj => (hall' o (List.mem_of_getElem? hj)).2) (ndl_of_ndp hnp) hs (fun b hb => hb)
 obtain ⟨hsl, hss⟩ := mSt_spec hs
 refine (spec.2 (muOf μ π) _ w args r₀ (mVs_sound r fz hv hr)).mono ?_
 rintro v w' ⟨u, s, μ₁, Im₁, r₁, s₁, hlen, hu, hQ⟩
 have hn : μ.length = σ.length := r.len
 generalize hN : σ.length = N at *
 generalize hq : vcnt π = q at *
 have hμ₁ : μ₁.length = s.length := r₁.len
 have hpl : (vpi N π).length = π.length := vpi_len π N
 have hps : (vpi N π).length ≤ s.length := by omega
 have hnd : (vpi N π).Nodup := vpi_nodup π N (of_decide_eq_true hnp) fun p hp => (hall' p hp).1
 have hkx : (padN q (kill F σ)) = kill F σ ++ List.replicate q none := padN_eq _ _
 have hxl : (padN q (kill F σ)).length = N + q := by rw [hkx]; simp [kill_len, hN]
 have hplt : ∀ p ∈ vpi N π, p < N + q := fun p hp => by
  rcases vpi_mem π N p hp with h | h
  ·
   have := (hall' p h).1; omega
  ·
   rw [hq] at h; omega
 have hmx : (μ ++ List.replicate q none).length = N + q := by simp [hn]
 have hf : ∀ (j : Nat) x, μ₁[j]? = some x → ((μ ++ List.replicate q none) ++ μ₁.drop π.length)[rnm (vpi N π) (N + q) j]? = some x := by
  intro j x hx
  by_cases hj : j < π.length
  ·
   have hjp : j < (vpi N π).length := by omega
   rw [rnm_lt hjp, List.getElem?_append_left (by rw [hmx]; exact hplt _ (List.getElem_mem hjp))]
   rw [s₁.pre j (by omega)] at hx
   have hpj : π[j]? = some π[j] := List.getElem?_eq_getElem hj
   cases hp : π[j] with
   | some o =>
    rw [hp] at hpj
    have h1 := vpi_some π N j o hpj
    rw [List.getElem?_eq_getElem hjp] at h1
    have h2 : (vpi N π)[j] = o := Option.some.inj h1
    have hlt : o < μ.length := by rw [hn]; exact (hall' o (List.mem_of_getElem? hpj)).1
    rw [h2, List.getElem?_append_left hlt]
    rw [muOf_some hpj, List.getElem?_eq_getElem hlt] at hx
    rw [List.getElem?_eq_getElem hlt]
    simpa using hx
   | none =>
    rw [hp] at hpj
    obtain ⟨m, h1, h2, h3⟩ := vpi_none π N j hpj
    rw [List.getElem?_eq_getElem hjp] at h1
    have h4 : (vpi N π)[j] = m := Option.some.inj h1
    rw [muOf_none hpj] at hx
    rw [h4, List.getElem?_append_right (by omega), List.getElem?_replicate, if_pos (by rw [hq] at h3; omega), ← hx]
  ·
   rw [rnm_ge (by omega), List.getElem?_append_right (by omega), List.getElem?_drop, ← hx]
   congr 1
   rw [hmx]
   omega
 have src : ∀ (i : Nat) ob, (behd π F σ s)[i]? = some (some ob) →
   (some i ∉ π ∧ i ∉ F ∧ i < N ∧ σ[i]? = some (some ob)) ∨ ∃ j ob₁, s[j]? = some (some ob₁) ∧ ob = renO (rnm (vpi N π) (N + q)) ob₁ ∧ i = rnm (vpi N π) (N + q) j := by
  intro i ob h
  unfold behd at h
  rw [hN, hq] at h
  by_cases hi : i < N + q
  ·
   by_cases hp : i ∈ vpi N π
   ·
    obtain ⟨j, hj, hje⟩ := List.mem_iff_getElem.1 hp
    rw [mrg_at (j := j) hps hnd (by rw [List.getElem?_eq_getElem hj, hje]) (by omega)] at h
    cases hx : s[j]? with
    | none => rw [hx] at h; cases h
    | some x =>
     rw [hx] at h
     cases x with
     | none => cases h
     | some ob₁ => cases h; exact .inr ⟨j, ob₁, hx, rfl, by rw [rnm_lt hj, hje]⟩
   ·
    rw [mrg_old hps (by omega) hp, hkx] at h
    by_cases hiN : i < N
    ·
     rw [List.getElem?_append_left (by rw [kill_len, hN]; exact hiN)] at h
     obtain ⟨h1, h2⟩ := kill_get F σ h
     refine .inl ⟨fun hm => ?_, h1, hiN, h2⟩
     obtain ⟨j, hj, hje⟩ := List.mem_iff_getElem.1 hm
     exact hp (List.mem_of_getElem? (vpi_some π N j i (by rw [List.getElem?_eq_getElem hj, hje])))
    ·
     rw [List.getElem?_append_right (by rw [kill_len, hN]; omega), List.getElem?_replicate] at h
     split at h <;> cases h
  ·
   rw [mrg_new hps (by omega)] at h
   cases hx : s[(vpi N π).length + (i - (padN q (kill F σ)).length)]? with
   | none => rw [hx] at h; cases h
   | some x =>
    rw [hx] at h
    cases x with
    | none => cases h
    | some ob₁ => cases h; exact .inr ⟨_, ob₁, hx, rfl, by rw [rnm_ge (by omega)]; omega⟩
 have hext : Ext (live μ σ) w w' := s₁.ext.mono fun b hb => .inl (hl₀ b hb)
 have mn : Mono μ Im w ((μ ++ List.replicate q none) ++ μ₁.drop π.length) Im₁ w' := ⟨by rw [List.append_assoc]; exact List.prefix_append _ _, fun b hb => s₁.im b (.inl hb), fun b hb => hext.block b (r.im b hb).1 (r.im b hb).2⟩
 have oldget : ∀ {i : Nat} {x}, i < N → ((μ ++ List.replicate q none) ++ μ₁.drop π.length)[i]? = x → μ[i]? = x := fun {i x} hi h => by
  rw [List.append_assoc, List.getElem?_append_left (by omega)] at h; exact h
 have apart : ∀ {i : Nat} {ob : Ob} {b n : Nat}, some i ∉ π → σ[i]? = some (some ob) → μ[i]? = some (some (b, n)) → b ∉ live (muOf μ π) σ₀ := by
  intro i ob b n hi h1 h2 hb
  obtain ⟨j, m, ob₀, h3, h4⟩ := mem_live.1 hb
  rcases hss j ob₀ h4 with ⟨o, ob', h5, h6, _⟩ | ⟨h5, _⟩
  ·
   rw [muOf_some h5] at h3
   obtain ⟨loc, h7, _⟩ := r.rep o ob' h6
   rw [h7] at h3
   simp at h3
   subst h3
   have := r.inj i o ob ob' b n m h1 h6 h2 h7
   subst this
   exact hi (List.mem_of_getElem? h5)
  ·
   rw [muOf_none h5] at h3
   cases h3
 have news : ∀ {j : Nat} {ob : Ob} {b n : Nat}, s[j]? = some (some ob) → ((μ ++ List.replicate q none) ++ μ₁.drop π.length)[rnm (vpi N π) (N + q) j]? = some (some (b, n)) → μ₁[j]? = some (some (b, n)) := by
  intro j ob b n h1 h2
  have : μ₁[j]? = some (μ₁[j]'(by rw [hμ₁]; exact get_lt h1)) := List.getElem?_eq_getElem _
  rw [hf j _ this] at h2
  rw [this]
  exact h2
 have hlive : ∀ b ∈ live ((μ ++ List.replicate q none) ++ μ₁.drop π.length) (behd π F σ s), b ∈ live μ σ ∨ w.heap.size ≤ b := by
  intro b hb
  obtain ⟨i, n, ob, h1, h2⟩ := mem_live.1 hb
  rcases src i ob h2 with ⟨h3, h4, h5, h6⟩ | ⟨j, ob₁, h3, rfl, rfl⟩
  ·
   exact .inl (mem_live.2 ⟨i, n, ob, oldget h5 h1, h6⟩)
  ·
   exact (s₁.live b (mem_live.2 ⟨j, n, ob₁, news h3 h1, h3⟩)).imp (hl₀ b) id
 refine ⟨_, _, (μ ++ List.replicate q none) ++ μ₁.drop π.length, Im₁, ⟨?_, fun i ob h => ?_, fun i i' ob ob' b n n' h1 h2 h3 h4 => ?_, fun b hb => ?_, r₁.lay⟩, ⟨by rw [List.append_assoc]; exact List.prefix_append _ _, fun b hb => s₁.im b (.inl hb), hext, hlive, fun b hb => ?_⟩, fun e' => ?_, hu.ren hf, hk u s hQ⟩
 ·
  unfold behd
  rw [hN, hq, mrg_len hps, hxl]
  simp [hn]
  omega
 ·
  rcases src i ob h with ⟨h3, h4, h5, h6⟩ | ⟨j, ob₁, h3, rfl, rfl⟩
  ·
   obtain ⟨loc, h7, h8⟩ := r.rep i ob h6
   refine ⟨loc, by rw [List.append_assoc, List.getElem?_append_left (by omega)]; exact h7, h8.mono mn fun b n e => ?_⟩
   subst e
   exact s₁.ext.block b (r.lt (mem_live.2 ⟨i, n, ob, h7, h6⟩)) (apart h3 h6 h7)
  ·
   obtain ⟨loc, h7, h8⟩ := r₁.rep j ob₁ h3
   exact ⟨loc, hf j loc h7, h8.ren hf⟩
 ·
  have mixed : ∀ {i j : Nat} {ob ob₁ : Ob} {b n n' : Nat}, some i ∉ π → i < N → σ[i]? = some (some ob) → ((μ ++ List.replicate q none) ++ μ₁.drop π.length)[i]? = some (some (b, n)) → s[j]? = some (some ob₁) → ((μ ++ List.replicate q none) ++ μ₁.drop π.length)[rnm (vpi N π) (N + q) j]? = some (some (b, n')) → False := by
   intro i j ob ob₁ b n n' h1 h2 h3 h4 h5 h6
   have h4' := oldget h2 h4
   rcases s₁.live b (mem_live.2 ⟨j, n', ob₁, news h5 h6, h5⟩) with h7 | h7
   ·
    exact apart h1 h3 h4' h7
   ·
    have := r.lt (mem_live.2 ⟨i, n, ob, h4', h3⟩)
    omega
  rcases src i ob h1 with ⟨q1, q2, q3, q4⟩ | ⟨j, ob₁, q1, rfl, rfl⟩
  ·
   rcases src i' ob' h2 with ⟨q5, q6, q7, q8⟩ | ⟨j, ob₁, q5, rfl, rfl⟩
   ·
    exact r.inj i i' ob ob' b n n' q4 q8 (oldget q3 h3) (oldget q7 h4)
   ·
    exact (mixed q1 q3 q4 h3 q5 h4).elim
  ·
   rcases src i' ob' h2 with ⟨q5, q6, q7, q8⟩ | ⟨j', ob₁', q5, rfl, rfl⟩
   ·
    exact (mixed q5 q7 q8 h4 q1 h3).elim
   ·
    have := r₁.inj j j' ob₁ ob₁' b n n' q1 q5 (news q1 h3) (news q5 h4)
    subst this
    rfl
 ·
  refine ⟨(r₁.im b hb).1, fun h => ?_⟩
  obtain ⟨i, n, ob, h1, h2⟩ := mem_live.1 h
  rcases src i ob h2 with ⟨q1, q2, q3, q4⟩ | ⟨j, ob₁, q1, rfl, rfl⟩
  ·
   have h1' := oldget q3 h1
   have hbl : b ∈ live μ σ := mem_live.2 ⟨i, n, ob, h1', q4⟩
   rcases s₁.fresh b hb with (h5 | ⟨o, m, ob', h5, h6, h7⟩) | h5 | h5
   ·
    exact (r.im b h5).2 hbl
   ·
    have := r.inj i o ob ob' b n m q4 h6 h1' h7
    subst this
    exact q2 (List.contains_iff_mem.1 h5)
   ·
    exact apart q1 q4 h1' h5
   ·
    have := r.lt hbl
    omega
  ·
   exact (r₁.im b hb).2 (mem_live.2 ⟨j, n, ob₁, news q1 h1, q1⟩)
 ·
  rcases s₁.fresh b hb with (h5 | ⟨o, m, ob', h5, h6, h7⟩) | h5 | h5
  ·
   exact .inl h5
  ·
   exact .inr (.inl (mem_live.2 ⟨o, m, ob', h7, h6⟩))
  ·
   exact .inr (.inl (hl₀ b h5))
  ·
   exact .inr (.inr h5)
 ·
  have e0 := he e'
  refine s₁.ext.mono fun b hb => ?_
  rw [e0] at hb
  simp [live] at hb

theorem rets_of_fn {f : FuncId} {vs : List V} {args : List Value} {w : World} {u : V} {Q : V → St → Prop} (h : Fn P f vs [] Q) (hr : RepL w (fun b => b < w.heap.size) [] vs args) (hq : ∀ u s, Q u s → u = .lit (.bool true)) (hlay : LayOk w (fun b => b < w.heap.size)) :
  Rets P f args w fun v w' => v = .bool true ∧ Ext [] w w' := by
 have r : Rel [] (fun b => b < w.heap.size) [] w := ⟨rfl, fun o ob h => by simp at h, fun o o' ob ob' b n n' h => by simp at h, fun b hb => ⟨hb, by simp [live]⟩, hlay⟩
 refine (h.2 [] _ w args r hr).mono ?_
 rintro v w' ⟨u, σ', μ', Im', h1, h2, h3, h4, h5⟩
 have e := hq _ _ h5
 subst e
 cases h4
 exact ⟨rfl, h2.ext.mono fun b hb => by simp [live] at hb⟩
end
end Go.Vx
