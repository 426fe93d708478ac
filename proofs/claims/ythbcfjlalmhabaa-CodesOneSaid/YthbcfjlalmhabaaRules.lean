import Derived.Test.YthbcfjlalmhabaaEng
/-! The engine's rules, for 'simp'. -/
namespace Go.Eng
set_option linter.unusedSimpArgs false
set_option linter.unusedVariables false
section
variable {P : Program} {n : Nat} {ρ : Rg} {w : World} {Q : Post}

@[go_sem ↓] theorem den_skip : den true P n .skip ρ w Q = Q true .normal ρ w := (rfl)
@[go_sem ↓] theorem den_region {id : Nat} {l : List Oper} : den true P n (.region id l.toArray false) ρ w Q = opsK true P l.toArray l ρ w fun τ => Q τ .normal := (rfl)
@[go_sem ↓] theorem den_draw {id : Nat} {ops : Array Oper} : den true P n (.region id ops true) ρ w Q = DrawK P n id ops ρ w Q := (rfl)
@[go_sem ↓] theorem den_seq {a b : Code} : den true P n (.seq a b) ρ w Q = den true P n a ρ w (thenQ (fun τ ρ' w' => den τ P n b ρ' w' Q) Q) := (rfl)
@[go_sem ↓] theorem den_cond {c : Operand} {a b : Code} : den true P n (.cond c a b) ρ w Q = evK ρ c fun v => cdK v (fun τ => den τ P n a ρ w Q) (fun τ => den τ P n b ρ w Q) := (rfl)
@[go_sem ↓] theorem den_block {id : Nat} {c : Code} : den true P n (.block id c) ρ w Q = den true P n c ρ w (blockQ id Q) := (rfl)
@[go_sem ↓] theorem den_loop {c : Code} : den true P n (.loop c) ρ w Q = LoopK (den true P n c) ρ w Q := (rfl)
@[go_sem ↓] theorem den_exit {id : Nat} : den true P n (.exit id) ρ w Q = Q true (.exit id) ρ w := (rfl)
@[go_sem ↓] theorem den_ret : den true P n .ret ρ w Q = Q true .ret ρ w := (rfl)

variable {K : Kr}
@[go_sem ↓] theorem thenQ_normal : thenQ K Q true .normal ρ w = K true ρ w := (rfl)
@[go_sem ↓] theorem thenQ_exit {i : Nat} : thenQ K Q true (.exit i) ρ w = Q true (.exit i) ρ w := (rfl)
@[go_sem ↓] theorem thenQ_ret : thenQ K Q true .ret ρ w = Q true .ret ρ w := (rfl)
@[go_sem ↓] theorem blockQ_normal {id : Nat} : blockQ id Q true .normal ρ w = Q true .normal ρ w := (rfl)
@[go_sem ↓] theorem blockQ_exit {id i : Nat} : blockQ id Q true (.exit i) ρ w = if i = id then Q true .normal ρ w else Q true (.exit i) ρ w := (rfl)
@[go_sem ↓] theorem blockQ_ret {id : Nat} : blockQ id Q true .ret ρ w = Q true .ret ρ w := (rfl)
variable {rs : List ResultVar} {R : Ending → World → Prop}
@[go_sem ↓] theorem retQ_normal : retQ P rs R true .normal ρ w = resultsK P rs ρ w fun vs => R (.returned (packV vs)) w := (rfl)
@[go_sem ↓] theorem retQ_ret : retQ P rs R true .ret ρ w = resultsK P rs ρ w fun vs => R (.returned (packV vs)) w := (rfl)
variable {KV : List Value → Prop}
@[go_sem ↓] theorem resultsK_nil : resultsK P [] ρ w KV = KV [] := (rfl)
@[go_sem ↓] theorem resultsK_tmp {t : Nat} : resultsK P (.tmp t :: rs) ρ w KV = lk ρ t fun v => resultsK P rs ρ w fun vs => KV (v :: vs) := (rfl)
@[go_sem ↓] theorem resultsK_cell {t ty : Nat} : resultsK P (.cell t ty :: rs) ρ w KV = lk ρ t fun p => loadK P ty p w fun _ v _ => resultsK P rs ρ w fun vs => KV (v :: vs) := (rfl)
@[go_sem ↓] theorem packV_one (v : Value) : packV [v] = v := (rfl)
@[go_sem ↓] theorem packV_two (v u : Value) : packV [v, u] = .tuple #[v, u] := (rfl)
@[go_sem ↓] theorem packV_three (v u x : Value) : packV [v, u, x] = .tuple #[v, u, x] := (rfl)
@[go_sem ↓] theorem packV_none : packV [] = .tuple #[] := (rfl)

/-! the arguments -/
@[go_sem ↓] theorem rgOf_nil {i : Nat} : rgOf i [] = [] := (rfl)
@[go_sem ↓] theorem rgOf_cons {i : Nat} {v : Value} {r : List Value} : rgOf i (v :: r) = (i, v) :: rgOf (i + 1) r := (rfl)

/-! registers -/
variable {KO : Value → Prop}
@[go_sem ↓] theorem lk_cons {s t : Nat} {v : Value} {r : Rg} : lk ((s, v) :: r) t KO = if s = t then KO v else lk r t KO := by
  by_cases h : s = t
  · subst h; rw [lk_hit, if_pos rfl]
  · rw [lk_miss _ _ _ _ _ h, if_neg h]
@[go_sem ↓] theorem lk_rgOf {i t : Nat} {v : Value} {r : List Value} : lk (rgOf i (v :: r)) t KO = if i = t then KO v else lk (rgOf (i + 1) r) t KO := lk_cons
@[go_sem ↓] theorem evK_tmp {t : Nat} : evK ρ (.tmp t) KO = lk ρ t KO := (rfl)
@[go_sem ↓] theorem evK_const {v : Value} : evK ρ (.const v) KO = KO v := (rfl)
@[go_sem ↓] theorem evK_global {g : Nat} : evK ρ (.global g) KO = KO (.pointer (some ⟨g, 0, none⟩)) := (rfl)
@[go_sem ↓] theorem evK_func {f : Nat} : evK ρ (.func f) KO = KO (.func (.func f) #[] #[]) := (rfl)
@[go_sem ↓] theorem evsK_nil : evsK ρ [] KV = KV [] := (rfl)
@[go_sem ↓] theorem evsK_cons {x : Operand} {xs : List Operand} : evsK ρ (x :: xs) KV = evK ρ x fun v => evsK ρ xs fun vs => KV (v :: vs) := (rfl)
variable {KP : List (Nat × Value) → Prop}
@[go_sem ↓] theorem evpK_nil : evpK ρ [] KP = KP [] := (rfl)
@[go_sem ↓] theorem evpK_cons {i : Nat} {x : Operand} {xs : List (Nat × Operand)} : evpK ρ ((i, x) :: xs) KP = evK ρ x fun v => evpK ρ xs fun vs => KP ((i, v) :: vs) := (rfl)
variable {KM : Option Value → Prop}
@[go_sem ↓] theorem evoK_none : evoK ρ none KM = KM none := (rfl)
@[go_sem ↓] theorem evoK_some {x : Operand} : evoK ρ (some x) KM = evK ρ x fun v => KM (some v) := (rfl)
@[go_sem ↓] theorem put_some {d : Nat} {v : Value} : put ρ (some d) v = (d, v) :: ρ := (rfl)
@[go_sem ↓] theorem put_none {v : Value} : put ρ none v = ρ := (rfl)

/-! lists of operations -/
def gslK : List Oper → Nat → (Nat → Prop) → Prop
  | [], _, _ => False
  | o :: _, 0, F => match o.dst with | some t => F t | none => False
  | _ :: r, j + 1, F => gslK r j F
theorem gslK_eq : ∀ (l : List Oper) (j : Nat) (F : Nat → Prop), gslK l j F = match (l[j]?).bind (·.dst) with | some t => F t | none => False
  | [], j, F => by simp [gslK]
  | o :: r, 0, F => by simp [gslK]
  | o :: r, j + 1, F => by simp [gslK, gslK_eq r j F]
@[go_sem ↓] theorem gslK_zero {d : Nat} {op : Op} {t : TypeId} {p : String} {af : Array Edge} {g : Option (Nat × Bool)} {r : List Oper} {F : Nat → Prop} : gslK (⟨some d, op, t, p, af, g⟩ :: r) 0 F = F d := (rfl)
@[go_sem ↓] theorem gslK_succ {o : Oper} {r : List Oper} {j : Nat} {F : Nat → Prop} : gslK (o :: r) (j + 1) F = gslK r j F := (rfl)
variable {all : List Oper} {r : List Oper} {d : Option Nat} {dn : Nat} {op : Op} {ty : TypeId} {pos : String} {af : Array Edge}
@[go_sem ↓] theorem opsK_nil : opsK true P all.toArray [] ρ w K = K true ρ w := (rfl)
@[go_sem ↓] theorem opsK_some : opsK true P all.toArray (⟨some dn, op, ty, pos, af, none⟩ :: r) ρ w K = opK true P ⟨some dn, op, ty, pos, af, none⟩ ρ w fun τ v w' => opsK τ P all.toArray r ((dn, v) :: ρ) w' K := (rfl)
@[go_sem ↓] theorem opsK_none : opsK true P all.toArray (⟨none, op, ty, pos, af, none⟩ :: r) ρ w K = opK true P ⟨none, op, ty, pos, af, none⟩ ρ w fun τ _ w' => opsK τ P all.toArray r ρ w' K := (rfl)
@[go_sem ↓] theorem opsK_guard_some {j : Nat} {want : Bool} : opsK true P all.toArray (⟨some dn, op, ty, pos, af, some (j, want)⟩ :: r) ρ w K =
    gslK all j fun t => lk ρ t fun g => gdK g want (fun τ => opK τ P ⟨some dn, op, ty, pos, af, some (j, want)⟩ ρ w fun τ v w' => opsK τ P all.toArray r ((dn, v) :: ρ) w' K) (fun τ => opsK τ P all.toArray r ((dn, undef) :: ρ) w K) := by
  rw [gslK_eq]
  simp only [opsK, List.getElem?_toArray]
  rfl
@[go_sem ↓] theorem opsK_guard_none {j : Nat} {want : Bool} : opsK true P all.toArray (⟨none, op, ty, pos, af, some (j, want)⟩ :: r) ρ w K =
    gslK all j fun t => lk ρ t fun g => gdK g want (fun τ => opK τ P ⟨none, op, ty, pos, af, some (j, want)⟩ ρ w fun τ _ w' => opsK τ P all.toArray r ρ w' K) (fun τ => opsK τ P all.toArray r ρ w K) := by
  rw [gslK_eq]
  simp only [opsK, List.getElem?_toArray]
  rfl
@[go_sem ↓] theorem gdK_tt {A B : Bool → Prop} : gdK (.bool true) true A B = A true := (rfl)
@[go_sem ↓] theorem gdK_ff {A B : Bool → Prop} : gdK (.bool false) false A B = A true := (rfl)
@[go_sem ↓] theorem gdK_tf {A B : Bool → Prop} : gdK (.bool true) false A B = B true := (rfl)
@[go_sem ↓] theorem gdK_ft {A B : Bool → Prop} : gdK (.bool false) true A B = B true := (rfl)
section
variable {p : Prop} [Decidable p] {A B : Bool → Prop}
@[go_sem ↓] theorem gdK_post (h : p) : gdK (.bool (decide p)) true A B = A true := by simp [gdK, h]
@[go_sem ↓] theorem gdK_negt (h : ¬ p) : gdK (.bool (decide p)) true A B = B true := by simp [gdK, h]
@[go_sem ↓] theorem gdK_posf (h : p) : gdK (.bool (decide p)) false A B = B true := by simp [gdK, h]
@[go_sem ↓] theorem gdK_negf (h : ¬ p) : gdK (.bool (decide p)) false A B = A true := by simp [gdK, h]
@[go_sem ↓] theorem gdK_npost (h : p) : gdK (.bool (!decide p)) true A B = B true := by simp [gdK, h]
@[go_sem ↓] theorem gdK_nnegt (h : ¬ p) : gdK (.bool (!decide p)) true A B = A true := by simp [gdK, h]
@[go_sem ↓] theorem gdK_nposf (h : p) : gdK (.bool (!decide p)) false A B = A true := by simp [gdK, h]
@[go_sem ↓] theorem gdK_nnegf (h : ¬ p) : gdK (.bool (!decide p)) false A B = B true := by simp [gdK, h]
end
theorem gdK_split {b want : Bool} {A B : Bool → Prop} (h1 : b = want → A true) (h2 : b = !want → B true) : gdK (.bool b) want A B := by
  cases b <;> cases want <;> first | exact h1 rfl | exact h2 rfl
@[go_sem ↓] theorem gdK_undef {want : Bool} {A B : Bool → Prop} : gdK undef want A B = B true := (rfl)

/-! operations -/
def binK (P : Program) (op : BinOp) (t : TypeId) (x y : Operand) (u v : Value) (w : World) (K : Kv) : Prop :=
  runK P (do eqGuard op t x y u v; binOp op t u v) w (K true)
variable {g : Option (Nat × Bool)} {k : Kv}
@[go_sem ↓] theorem opK_move {x : Operand} : opK true P ⟨d, .move x, ty, pos, af, g⟩ ρ w k = evK ρ x fun v => k true v w := (rfl)
@[go_sem ↓] theorem opK_assign {x : Operand} : opK true P ⟨d, .assign x, ty, pos, af, g⟩ ρ w k = evK ρ x fun v => k true v w := (rfl)
def pickK (c x y : Value) (w : World) (K : Kv) : Prop := match c with | .bool t => K true (bif t then x else y) w | _ => False
@[go_sem ↓] theorem opK_pick {c x y : Operand} : opK true P ⟨d, .pick c x y, ty, pos, af, g⟩ ρ w k = evK ρ c fun c => evK ρ x fun x => evK ρ y fun y => pickK c x y w k := (rfl)
@[go_sem ↓] theorem pickK_true {x y : Value} : pickK (.bool true) x y w k = k true x w := (rfl)
@[go_sem ↓] theorem pickK_false {x y : Value} : pickK (.bool false) x y w k = k true y w := (rfl)
@[go_sem ↓] theorem pickK_pos {x y : Value} {p : Prop} [Decidable p] (h : p) : pickK (.bool (decide p)) x y w k = k true x w := by simp [pickK, h]
@[go_sem ↓] theorem pickK_neg {x y : Value} {p : Prop} [Decidable p] (h : ¬ p) : pickK (.bool (decide p)) x y w k = k true y w := by simp [pickK, h]
@[go_sem ↓] theorem pickK_npos {x y : Value} {p : Prop} [Decidable p] (h : p) : pickK (.bool (!decide p)) x y w k = k true y w := by simp [pickK, h]
@[go_sem ↓] theorem pickK_nneg {x y : Value} {p : Prop} [Decidable p] (h : ¬ p) : pickK (.bool (!decide p)) x y w k = k true x w := by simp [pickK, h]
@[go_sem ↓] theorem opK_binOp {op : BinOp} {t yt : TypeId} {x y : Operand} : opK true P ⟨d, .binOp op t x y yt, ty, pos, af, g⟩ ρ w k = evK ρ x fun u => evK ρ y fun v => binK P op t x y u v w k := (rfl)
def unoK (P : Program) (op : UnOp) (v : Value) (w : World) (K : Kv) : Prop := runK P (Op.unary op v) w (K true)
@[go_sem ↓] theorem opK_unOp {op : UnOp} {t : TypeId} {x : Operand} : opK true P ⟨d, .unOp op t x, ty, pos, af, g⟩ ρ w k = evK ρ x fun v => unoK P op v w k := (rfl)
def cvtK (P : Program) (s t : TypeId) (v : Value) (w : World) (K : Kv) : Prop := runK P (convert s t v) w (K true)
@[go_sem ↓] theorem opK_convert {s t : TypeId} {x : Operand} : opK true P ⟨d, .convert s t x, ty, pos, af, g⟩ ρ w k = evK ρ x fun v => cvtK P s t v w k := (rfl)
@[go_sem ↓] theorem opK_load {t : TypeId} {x : Operand} : opK true P ⟨d, .load t x, ty, pos, af, g⟩ ρ w k = evK ρ x fun v => loadK P t v w k := (rfl)
@[go_sem ↓] theorem opK_store {t : TypeId} {x y : Operand} : opK true P ⟨d, .store t x y, ty, pos, af, g⟩ ρ w k = evK ρ x fun a => evK ρ y fun v => storeK P t a v w fun τ w' => k τ undef w' := (rfl)
def idxK (P : Program) (t : TypeId) (x i : Value) (w : World) (K : Kv) : Prop := runK P (Instr.indexAt t x i) w (K true)
@[go_sem ↓] theorem opK_indexAddr {t : TypeId} {x y : Operand} : opK true P ⟨d, .indexAddr t x y, ty, pos, af, g⟩ ρ w k = evK ρ x fun a => evK ρ y fun i => idxK P t a i w k := (rfl)
def bltK (P : Program) (b : Builtin) (ats : Array TypeId) (ty : TypeId) (cs : Array Bool) (args : List Value) (w : World) (K : Kv) : Prop :=
  nextK P (builtin b ats ty cs args.toArray) w K
@[go_sem ↓] theorem opK_builtin {b : Builtin} {xs : List Operand} {ats : Array TypeId} : opK true P ⟨d, .call { callee := .builtin b, args := xs.toArray, argTypes := ats }, ty, pos, af, g⟩ ρ w k =
    evsK ρ xs fun args => bltK P b ats ty (xs.toArray.map fun | .const _ => true | _ => false) args w k := rfl

/-! numbers -/
variable {t : TypeId} {x y : Operand} {i j : IntKind} {a b : Int}
@[go_sem ↓] theorem binK_add : binK P .add t x y (.int i a) (.int i b) w k = k true (.int i (i.wrap (a + b))) w := by
  simp [binK, eqGuard, binOp, Op.intArith, runK_pure]
@[go_sem ↓] theorem binK_sub : binK P .sub t x y (.int i a) (.int i b) w k = k true (.int i (i.wrap (a - b))) w := by
  simp [binK, eqGuard, binOp, Op.intArith, runK_pure]
@[go_sem ↓] theorem binK_mul : binK P .mul t x y (.int i a) (.int i b) w k = k true (.int i (i.wrap (a * b))) w := by
  simp [binK, eqGuard, binOp, Op.intArith, runK_pure]
@[go_sem ↓] theorem binK_quo (h : b ≠ 0) : binK P .quo t x y (.int i a) (.int i b) w k = k true (.int i (i.wrap (a.tdiv b))) w := by
  simp [binK, eqGuard, binOp, Op.intDiv, runK_pure, h]
@[go_sem ↓] theorem binK_rem (h : b ≠ 0) : binK P .rem t x y (.int i a) (.int i b) w k = k true (.int i (a.tmod b)) w := by
  simp [binK, eqGuard, binOp, Op.intDiv, runK_pure, h]
@[go_sem ↓] theorem binK_lss : binK P .lss t x y (.int i a) (.int i b) w k = k true (.bool (decide (a < b))) w := by
  simp [binK, eqGuard, binOp, Op.intCmp, runK_pure]
@[go_sem ↓] theorem binK_leq : binK P .leq t x y (.int i a) (.int i b) w k = k true (.bool (decide (a ≤ b))) w := by
  simp [binK, eqGuard, binOp, Op.intCmp, runK_pure]
@[go_sem ↓] theorem binK_gtr : binK P .gtr t x y (.int i a) (.int i b) w k = k true (.bool (decide (b < a))) w := by
  simp [binK, eqGuard, binOp, Op.intCmp, runK_pure]
@[go_sem ↓] theorem binK_geq : binK P .geq t x y (.int i a) (.int i b) w k = k true (.bool (decide (b ≤ a))) w := by
  simp [binK, eqGuard, binOp, Op.intCmp, runK_pure]
@[go_sem ↓] theorem binK_eql : binK P .eql t x y (.int i a) (.int i b) w k = k true (.bool (decide (a = b))) w := by
  simp [binK, eqGuard, binOp, Op.intCmp, runK_pure]; rfl
@[go_sem ↓] theorem binK_neq : binK P .neq t x y (.int i a) (.int i b) w k = k true (.bool (!decide (a = b))) w := by
  simp [binK, eqGuard, binOp, Op.intCmp, runK_pure]; rfl
/-- Bits of two numbers of a kind. -/
def bitK (op : BinOp) (k : IntKind) (x y : Int) : Int :=
  let a := BitVec.ofInt k.bits x
  let b := BitVec.ofInt k.bits y
  match op with
  | .and => k.wrap (a &&& b).toNat
  | .or => k.wrap (a ||| b).toNat
  | .xor => k.wrap (a ^^^ b).toNat
  | _ => k.wrap (a &&& ~~~b).toNat
@[go_sem ↓] theorem binK_and : binK P .and t x y (.int i a) (.int i b) w k = k true (.int i (bitK .and i a b)) w := by
  simp [binK, eqGuard, binOp, Op.intBits, runK_pure, bitK]
@[go_sem ↓] theorem binK_or : binK P .or t x y (.int i a) (.int i b) w k = k true (.int i (bitK .or i a b)) w := by
  simp [binK, eqGuard, binOp, Op.intBits, runK_pure, bitK]
@[go_sem ↓] theorem binK_xor : binK P .xor t x y (.int i a) (.int i b) w k = k true (.int i (bitK .xor i a b)) w := by
  simp [binK, eqGuard, binOp, Op.intBits, runK_pure, bitK]
@[go_sem ↓] theorem binK_andNot : binK P .andNot t x y (.int i a) (.int i b) w k = k true (.int i (bitK .andNot i a b)) w := by
  simp [binK, eqGuard, binOp, Op.intBits, runK_pure, bitK]
theorem binK_shl (h : 0 ≤ b) : binK P .shl t x y (.int i a) (.int j b) w k = k true (.int i (i.wrap (a * 2 ^ min b.toNat i.bits))) w := by
  have h' : ¬ b < 0 := by omega
  simp [binK, eqGuard, binOp, Op.shift, runK_pure, h']
theorem binK_shr (h : 0 ≤ b) : binK P .shr t x y (.int i a) (.int j b) w k = k true (.int i (a / 2 ^ min b.toNat i.bits)) w := by
  have h' : ¬ b < 0 := by omega
  have e : a.fdiv (2 ^ min b.toNat i.bits) = a / 2 ^ min b.toNat i.bits := by
    rw [Int.fdiv_eq_ediv_of_nonneg]
    exact Int.le_of_lt (Int.pow_pos (by decide))
  simp [binK, eqGuard, binOp, Op.shift, runK_pure, h', e]
@[go_sem ↓] theorem binK_shl_i64 (h : 0 ≤ b ∧ b ≤ 64) : binK P .shl t x y (.int .i64 a) (.int j b) w k = k true (.int .i64 (IntKind.i64.wrap (a * 2 ^ b.toNat))) w := by
  rw [binK_shl h.1, show min b.toNat IntKind.i64.bits = b.toNat from Nat.min_eq_left (show b.toNat ≤ 64 by omega)]
@[go_sem ↓] theorem binK_shr_i64 (h : 0 ≤ b ∧ b ≤ 64) : binK P .shr t x y (.int .i64 a) (.int j b) w k = k true (.int .i64 (a / 2 ^ b.toNat)) w := by
  rw [binK_shr h.1, show min b.toNat IntKind.i64.bits = b.toNat from Nat.min_eq_left (show b.toNat ≤ 64 by omega)]
@[go_sem ↓ high] theorem binK_shl_i64n {m : Nat} (h : m ≤ 64) : binK P .shl t x y (.int .i64 a) (.int j (m : Int)) w k = k true (.int .i64 (IntKind.i64.wrap (a * 2 ^ m))) w := by
  rw [binK_shl_i64 (by omega)]; rfl
@[go_sem ↓ high] theorem binK_shr_i64n {m : Nat} (h : m ≤ 64) : binK P .shr t x y (.int .i64 a) (.int j (m : Int)) w k = k true (.int .i64 (a / 2 ^ m)) w := by
  rw [binK_shr_i64 (by omega)]; rfl
@[go_sem ↓] theorem binK_shl_u64 (h : 0 ≤ b ∧ b ≤ 64) : binK P .shl t x y (.int .u64 a) (.int j b) w k = k true (.int .u64 (IntKind.u64.wrap (a * 2 ^ b.toNat))) w := by
  rw [binK_shl h.1, show min b.toNat IntKind.u64.bits = b.toNat from Nat.min_eq_left (show b.toNat ≤ 64 by omega)]
@[go_sem ↓] theorem binK_shr_u64 (h : 0 ≤ b ∧ b ≤ 64) : binK P .shr t x y (.int .u64 a) (.int j b) w k = k true (.int .u64 (a / 2 ^ b.toNat)) w := by
  rw [binK_shr h.1, show min b.toNat IntKind.u64.bits = b.toNat from Nat.min_eq_left (show b.toNat ≤ 64 by omega)]
@[go_sem ↓ high] theorem binK_shl_u64n {m : Nat} (h : m ≤ 64) : binK P .shl t x y (.int .u64 a) (.int j (m : Int)) w k = k true (.int .u64 (IntKind.u64.wrap (a * 2 ^ m))) w := by
  rw [binK_shl_u64 (by omega)]; rfl
@[go_sem ↓ high] theorem binK_shr_u64n {m : Nat} (h : m ≤ 64) : binK P .shr t x y (.int .u64 a) (.int j (m : Int)) w k = k true (.int .u64 (a / 2 ^ m)) w := by
  rw [binK_shr_u64 (by omega)]; rfl
@[go_sem ↓] theorem binK_shl_u32 (h : 0 ≤ b ∧ b ≤ 32) : binK P .shl t x y (.int .u32 a) (.int j b) w k = k true (.int .u32 (IntKind.u32.wrap (a * 2 ^ b.toNat))) w := by
  rw [binK_shl h.1, show min b.toNat IntKind.u32.bits = b.toNat from Nat.min_eq_left (show b.toNat ≤ 32 by omega)]
@[go_sem ↓] theorem binK_shr_u32 (h : 0 ≤ b ∧ b ≤ 32) : binK P .shr t x y (.int .u32 a) (.int j b) w k = k true (.int .u32 (a / 2 ^ b.toNat)) w := by
  rw [binK_shr h.1, show min b.toNat IntKind.u32.bits = b.toNat from Nat.min_eq_left (show b.toNat ≤ 32 by omega)]
@[go_sem ↓ high] theorem binK_shl_u32n {m : Nat} (h : m ≤ 32) : binK P .shl t x y (.int .u32 a) (.int j (m : Int)) w k = k true (.int .u32 (IntKind.u32.wrap (a * 2 ^ m))) w := by
  rw [binK_shl_u32 (by omega)]; rfl
@[go_sem ↓ high] theorem binK_shr_u32n {m : Nat} (h : m ≤ 32) : binK P .shr t x y (.int .u32 a) (.int j (m : Int)) w k = k true (.int .u32 (a / 2 ^ m)) w := by
  rw [binK_shr_u32 (by omega)]; rfl
@[go_sem ↓] theorem binK_shl_u8 (h : 0 ≤ b ∧ b ≤ 8) : binK P .shl t x y (.int .u8 a) (.int j b) w k = k true (.int .u8 (IntKind.u8.wrap (a * 2 ^ b.toNat))) w := by
  rw [binK_shl h.1, show min b.toNat IntKind.u8.bits = b.toNat from Nat.min_eq_left (show b.toNat ≤ 8 by omega)]
@[go_sem ↓] theorem binK_shr_u8 (h : 0 ≤ b ∧ b ≤ 8) : binK P .shr t x y (.int .u8 a) (.int j b) w k = k true (.int .u8 (a / 2 ^ b.toNat)) w := by
  rw [binK_shr h.1, show min b.toNat IntKind.u8.bits = b.toNat from Nat.min_eq_left (show b.toNat ≤ 8 by omega)]
@[go_sem ↓ high] theorem binK_shl_u8n {m : Nat} (h : m ≤ 8) : binK P .shl t x y (.int .u8 a) (.int j (m : Int)) w k = k true (.int .u8 (IntKind.u8.wrap (a * 2 ^ m))) w := by
  rw [binK_shl_u8 (by omega)]; rfl
@[go_sem ↓ high] theorem binK_shr_u8n {m : Nat} (h : m ≤ 8) : binK P .shr t x y (.int .u8 a) (.int j (m : Int)) w k = k true (.int .u8 (a / 2 ^ m)) w := by
  rw [binK_shr_u8 (by omega)]; rfl
@[go_sem ↓] theorem binK_shl_i32 (h : 0 ≤ b ∧ b ≤ 32) : binK P .shl t x y (.int .i32 a) (.int j b) w k = k true (.int .i32 (IntKind.i32.wrap (a * 2 ^ b.toNat))) w := by
  rw [binK_shl h.1, show min b.toNat IntKind.i32.bits = b.toNat from Nat.min_eq_left (show b.toNat ≤ 32 by omega)]
@[go_sem ↓] theorem binK_shr_i32 (h : 0 ≤ b ∧ b ≤ 32) : binK P .shr t x y (.int .i32 a) (.int j b) w k = k true (.int .i32 (a / 2 ^ b.toNat)) w := by
  rw [binK_shr h.1, show min b.toNat IntKind.i32.bits = b.toNat from Nat.min_eq_left (show b.toNat ≤ 32 by omega)]
@[go_sem ↓ high] theorem binK_shl_i32n {m : Nat} (h : m ≤ 32) : binK P .shl t x y (.int .i32 a) (.int j (m : Int)) w k = k true (.int .i32 (IntKind.i32.wrap (a * 2 ^ m))) w := by
  rw [binK_shl_i32 (by omega)]; rfl
@[go_sem ↓ high] theorem binK_shr_i32n {m : Nat} (h : m ≤ 32) : binK P .shr t x y (.int .i32 a) (.int j (m : Int)) w k = k true (.int .i32 (a / 2 ^ m)) w := by
  rw [binK_shr_i32 (by omega)]; rfl
@[go_sem ↓] theorem unoK_not {b : Bool} : unoK P .not (.bool b) w k = k true (.bool !b) w := (rfl)
@[go_sem ↓] theorem unoK_neg : unoK P .neg (.int i a) w k = k true (.int i (i.wrap (0 - a))) w := (rfl)
@[go_sem ↓] theorem unoK_xor : unoK P .xor (.int i a) w k = k true (.int i (bitK .xor i (if i.signed then -1 else i.max) a)) w := (rfl)

/-! what a wrap leaves as it is -/
@[go_sem] theorem wrap_i64 (h : -9223372036854775808 ≤ a ∧ a ≤ 9223372036854775807) : IntKind.i64.wrap a = a := by
  simp only [IntKind.wrap, IntKind.bits, IntKind.signed]; simp; split <;> omega
@[go_sem] theorem wrap_i32 (h : -2147483648 ≤ a ∧ a ≤ 2147483647) : IntKind.i32.wrap a = a := by
  simp only [IntKind.wrap, IntKind.bits, IntKind.signed]; simp; split <;> omega
@[go_sem] theorem wrap_u8 (h : 0 ≤ a ∧ a ≤ 255) : IntKind.u8.wrap a = a := by simp [IntKind.wrap, IntKind.bits, IntKind.signed]; omega
@[go_sem] theorem wrap_u16 (h : 0 ≤ a ∧ a ≤ 65535) : IntKind.u16.wrap a = a := by simp [IntKind.wrap, IntKind.bits, IntKind.signed]; omega
@[go_sem] theorem wrap_u32 (h : 0 ≤ a ∧ a ≤ 4294967295) : IntKind.u32.wrap a = a := by simp [IntKind.wrap, IntKind.bits, IntKind.signed]; omega
@[go_sem] theorem wrap_u64 (h : 0 ≤ a ∧ a ≤ 18446744073709551615) : IntKind.u64.wrap a = a := by simp [IntKind.wrap, IntKind.bits, IntKind.signed]; omega
/-- Quotients and remainders of numbers that aren't below nought. -/
@[go_sem] theorem tdiv_pos (h : 0 ≤ a) : a.tdiv b = a / b := Int.tdiv_eq_ediv_of_nonneg h
@[go_sem] theorem tmod_pos (h : 0 ≤ a) : a.tmod b = a % b := Int.tmod_eq_emod_of_nonneg h

/-! the same, where nothing is wrapped -/
section
@[go_sem ↓ high] theorem binK_add_i64 (h : -9223372036854775808 ≤ a + b ∧ a + b ≤ 9223372036854775807) : binK P .add t x y (.int .i64 a) (.int .i64 b) w k = k true (.int .i64 (a + b)) w := by rw [binK_add, wrap_i64 h]
@[go_sem ↓ high] theorem binK_sub_i64 (h : -9223372036854775808 ≤ a - b ∧ a - b ≤ 9223372036854775807) : binK P .sub t x y (.int .i64 a) (.int .i64 b) w k = k true (.int .i64 (a - b)) w := by rw [binK_sub, wrap_i64 h]
@[go_sem ↓ high] theorem binK_mul_i64 (h : -9223372036854775808 ≤ a * b ∧ a * b ≤ 9223372036854775807) : binK P .mul t x y (.int .i64 a) (.int .i64 b) w k = k true (.int .i64 (a * b)) w := by rw [binK_mul, wrap_i64 h]
@[go_sem ↓ high] theorem binK_add_u64 (h : 0 ≤ a + b ∧ a + b ≤ 18446744073709551615) : binK P .add t x y (.int .u64 a) (.int .u64 b) w k = k true (.int .u64 (a + b)) w := by rw [binK_add, wrap_u64 h]
@[go_sem ↓ high] theorem binK_sub_u64 (h : 0 ≤ a - b ∧ a - b ≤ 18446744073709551615) : binK P .sub t x y (.int .u64 a) (.int .u64 b) w k = k true (.int .u64 (a - b)) w := by rw [binK_sub, wrap_u64 h]
@[go_sem ↓ high] theorem binK_mul_u64 (h : 0 ≤ a * b ∧ a * b ≤ 18446744073709551615) : binK P .mul t x y (.int .u64 a) (.int .u64 b) w k = k true (.int .u64 (a * b)) w := by rw [binK_mul, wrap_u64 h]
@[go_sem ↓ high] theorem binK_add_u32 (h : 0 ≤ a + b ∧ a + b ≤ 4294967295) : binK P .add t x y (.int .u32 a) (.int .u32 b) w k = k true (.int .u32 (a + b)) w := by rw [binK_add, wrap_u32 h]
@[go_sem ↓ high] theorem binK_sub_u32 (h : 0 ≤ a - b ∧ a - b ≤ 4294967295) : binK P .sub t x y (.int .u32 a) (.int .u32 b) w k = k true (.int .u32 (a - b)) w := by rw [binK_sub, wrap_u32 h]
@[go_sem ↓ high] theorem binK_mul_u32 (h : 0 ≤ a * b ∧ a * b ≤ 4294967295) : binK P .mul t x y (.int .u32 a) (.int .u32 b) w k = k true (.int .u32 (a * b)) w := by rw [binK_mul, wrap_u32 h]
@[go_sem ↓ high] theorem binK_add_u8 (h : 0 ≤ a + b ∧ a + b ≤ 255) : binK P .add t x y (.int .u8 a) (.int .u8 b) w k = k true (.int .u8 (a + b)) w := by rw [binK_add, wrap_u8 h]
@[go_sem ↓ high] theorem binK_sub_u8 (h : 0 ≤ a - b ∧ a - b ≤ 255) : binK P .sub t x y (.int .u8 a) (.int .u8 b) w k = k true (.int .u8 (a - b)) w := by rw [binK_sub, wrap_u8 h]
theorem div_le_self' {c d : Int} (hc : 0 ≤ c) (hd : 0 < d) : 0 ≤ c / d ∧ c / d ≤ c := ⟨Int.ediv_nonneg hc (by omega), Int.ediv_le_self _ hc⟩
@[go_sem ↓ high] theorem binK_quo_i64 (h : 0 ≤ a ∧ a ≤ 9223372036854775807 ∧ 0 < b) : binK P .quo t x y (.int .i64 a) (.int .i64 b) w k = k true (.int .i64 (a / b)) w := by
  have := div_le_self' h.1 h.2.2
  rw [binK_quo (by omega), Int.tdiv_eq_ediv_of_nonneg h.1, wrap_i64 (by omega)]
@[go_sem ↓ high] theorem binK_quo_u64 (h : 0 ≤ a ∧ a ≤ 18446744073709551615 ∧ 0 < b) : binK P .quo t x y (.int .u64 a) (.int .u64 b) w k = k true (.int .u64 (a / b)) w := by
  have := div_le_self' h.1 h.2.2
  rw [binK_quo (by omega), Int.tdiv_eq_ediv_of_nonneg h.1, wrap_u64 (by omega)]
@[go_sem ↓ high] theorem binK_quo_u32 (h : 0 ≤ a ∧ a ≤ 4294967295 ∧ 0 < b) : binK P .quo t x y (.int .u32 a) (.int .u32 b) w k = k true (.int .u32 (a / b)) w := by
  have := div_le_self' h.1 h.2.2
  rw [binK_quo (by omega), Int.tdiv_eq_ediv_of_nonneg h.1, wrap_u32 (by omega)]
@[go_sem ↓ high] theorem binK_quo_u8 (h : 0 ≤ a ∧ a ≤ 255 ∧ 0 < b) : binK P .quo t x y (.int .u8 a) (.int .u8 b) w k = k true (.int .u8 (a / b)) w := by
  have := div_le_self' h.1 h.2.2
  rw [binK_quo (by omega), Int.tdiv_eq_ediv_of_nonneg h.1, wrap_u8 (by omega)]
@[go_sem ↓ high] theorem binK_rem_pos (h : 0 ≤ a ∧ b ≠ 0) : binK P .rem t x y (.int i a) (.int i b) w k = k true (.int i (a % b)) w := by
  rw [binK_rem h.2, Int.tmod_eq_emod_of_nonneg h.1]
end

/-! types -/
def tyK (P : Program) (t : TypeId) (F : TypeDesc → Prop) : Prop := match P.underlying t with | some d => F d | none => False
def infK (P : Program) (t : TypeId) (F : Nat → Nat → Prop) : Prop := match P.info? t with | some i => F i.size i.bytes | none => False
def zerK (P : Program) (t : TypeId) (F : Value → Prop) : Prop := match (P.info? t).bind (·.zero) with | some v => F v | none => False
theorem runK_underlying {F : TypeDesc → World → Prop} : runK P (underlying t) w F = tyK P t fun d => F d w := by
  unfold runK underlying tyK
  simp only [program, Sem.run_bind]
  show resK ((Sem.run P (Sem.program Sem.pure) w).andThen _) F = _
  simp only [Sem.run, Result.andThen_ok]
  cases P.underlying t <;> rfl
theorem runK_sizeOf {F : Nat → World → Prop} : runK P (sizeOf t) w F = infK P t fun s _ => F s w := by
  unfold runK sizeOf typeInfo infK
  simp only [program, Sem.run_bind]
  show resK (((Sem.run P (Sem.program Sem.pure) w).andThen _).andThen _) F = _
  simp only [Sem.run, Result.andThen_ok]
  cases P.info? t <;> rfl

/-! tests -/
@[go_sem ↓] theorem cdK_true {A B : Bool → Prop} : cdK (.bool true) A B = A true := by simp [cdK]
@[go_sem ↓] theorem cdK_false {A B : Bool → Prop} : cdK (.bool false) A B = B true := by simp [cdK]
@[go_sem ↓] theorem cdK_pos {A B : Bool → Prop} {p : Prop} [Decidable p] (h : p) : cdK (.bool (decide p)) A B = A true := by simp [cdK, h]
@[go_sem ↓] theorem cdK_neg {A B : Bool → Prop} {p : Prop} [Decidable p] (h : ¬ p) : cdK (.bool (decide p)) A B = B true := by simp [cdK, h]
@[go_sem ↓] theorem cdK_npos {A B : Bool → Prop} {p : Prop} [Decidable p] (h : p) : cdK (.bool (!decide p)) A B = B true := by simp [cdK, h]
@[go_sem ↓] theorem cdK_nneg {A B : Bool → Prop} {p : Prop} [Decidable p] (h : ¬ p) : cdK (.bool (!decide p)) A B = A true := by simp [cdK, h]
theorem cdK_split {A B : Bool → Prop} {p : Prop} [Decidable p] (h1 : p → A true) (h2 : ¬ p → B true) : cdK (.bool (decide p)) A B := by
  by_cases h : p
  · rw [cdK_pos h]; exact h1 h
  · rw [cdK_neg h]; exact h2 h
theorem cdK_nsplit {A B : Bool → Prop} {p : Prop} [Decidable p] (h1 : ¬ p → A true) (h2 : p → B true) : cdK (.bool (!decide p)) A B := by
  by_cases h : p
  · rw [cdK_npos h]; exact h2 h
  · rw [cdK_nneg h]; exact h1 h
@[congr] theorem cdK_congr {v v' : Value} {A B : Bool → Prop} (h : v = v') : cdK v A B = cdK v' A B := by rw [h]
@[congr] theorem idxK_congr {u u' v v' : Value} (h : u = u') (h' : v = v') : idxK P t u v w k = idxK P t u' v' w k := by rw [h, h']
@[congr] theorem binK_congr {op : BinOp} {u u' v v' : Value} (h : u = u') (h' : v = v') : binK P op t x y u v w k = binK P op t x y u' v' w k := by rw [h, h']
@[congr] theorem cvtK_congr {s : TypeId} {u u' : Value} (h : u = u') : cvtK P s t u w k = cvtK P s t u' w k := by rw [h]
@[congr] theorem bltK_congr {b : Builtin} {ats : Array TypeId} {cs : Array Bool} {args args' : List Value} (h : args = args') : bltK P b ats ty cs args w k = bltK P b ats ty cs args' w k := by rw [h]
end
end Go.Eng
