import Derived.Test.YteookgjmohokiaaGreatVl
import Derived.Test.YteookgjmohokiaaGreatProg
import Derived.KernelRfl
namespace Go.Proofs.YteookgjmohokiaaGreat
open Go.Eng Go.Vx
set_option linter.unusedVariables false
set_option linter.unusedSimpArgs false
set_option maxRecDepth 100000
section
variable {u v : V} {σ : St} {F : FV} {kv : KV} {ks : KS} {e : Bool} {i : IntKind} {a : Int} {o z i' off len m : Nat} {l : List (List PV)} {us : List V} {β : Type} {L : List β} {f : β → List PV} {lo hi : Option V}
def pl2 : Plans := fun id => match id with
  | _ => []
def pl3 : Plans := fun id => match id with
  | 5 => [(1, (5, 0)), (2, (5, 0)), (0, (0, 0)), (3, (0, 0)), (4, (2, 0)), (5, (5, 0)), (6, (5, 0)), (7, (5, 0)), (8, (2, 0))]
  | 14 => [(0, (0, 0)), (2, (0, 0)), (1, (1, 0)), (3, (2, 0)), (4, (5, 0)), (5, (2, 0)), (6, (5, 0)), (7, (5, 0)), (8, (5, 0)), (9, (5, 0)), (10, (5, 0))]
  | _ => []
def pl4 : Plans := fun id => match id with
  | _ => []
def pl5 : Plans := fun id => match id with
  | _ => []
def pl6 : Plans := fun id => match id with
  | 10 => [(0, (0, 0)), (1, (0, 0)), (2, (0, 0)), (3, (1, 0)), (4, (2, 0)), (5, (2, 0))]
  | _ => []
def pl7 : Plans := fun id => match id with
  | _ => []
def pl8 : Plans := fun id => match id with
  | _ => []
def pl9 : Plans := fun id => match id with
  | _ => []
def pl10 : Plans := fun id => match id with
  | _ => []
def pl11 : Plans := fun id => match id with
  | _ => []
def pl12 : Plans := fun id => match id with
  | _ => []
def pl13 : Plans := fun id => match id with
  | _ => []
def pl14 : Plans := fun id => match id with
  | _ => []
def pl15 : Plans := fun id => match id with
  | 6 => [(0, (5, 0)), (1, (5, 0)), (2, (5, 0)), (4, (5, 0)), (5, (5, 0)), (6, (5, 0)), (3, (0, 0)), (7, (0, 0)), (8, (5, 0))]
  | _ => []
@[go_sem ↓] theorem pl15_6 : pl15 6 = [(0, (5, 0)), (1, (5, 0)), (2, (5, 0)), (4, (5, 0)), (5, (5, 0)), (6, (5, 0)), (3, (0, 0)), (7, (0, 0)), (8, (5, 0))] := (rfl)
def pl16 : Plans := fun id => match id with
  | 5 => [(0, (5, 0)), (2, (5, 0)), (3, (5, 0)), (4, (5, 0)), (1, (0, 0)), (5, (0, 0)), (6, (2, 0)), (7, (2, 0)), (8, (1, 0)), (9, (2, 0)), (10, (5, 0))]
  | _ => []
def pl17 : Plans := fun id => match id with
  | _ => []
def pl18 : Plans := fun id => match id with
  | _ => []
def pl19 : Plans := fun id => match id with
  | 2 => [(0, (5, 0)), (3, (5, 0)), (7, (5, 0)), (10, (5, 0)), (1, (0, 0)), (2, (5, 0)), (4, (0, 0)), (5, (5, 0)), (6, (5, 0)), (8, (0, 0)), (9, (5, 0)), (14, (5, 0)), (4, (10, 47104)), (11, (11, 0)), (12, (11, 2048)), (13, (11, 4096)), (15, (12, 0)), (16, (5, 0)), (17, (2, 0))]
  | _ => []
def ps19_2_12 : List (Nat × Nat × Nat) := [(11, (11, 0)), (12, (11, 2048)), (13, (11, 4096)), (15, (12, 0))]
def pl20 : Plans := fun id => match id with
  | _ => []
def pl21 : Plans := fun id => match id with
  | _ => []
def pl22 : Plans := fun id => match id with
  | 2 => [(0, (5, 0)), (3, (5, 0)), (1, (0, 0)), (4, (0, 0)), (2, (1, 0)), (5, (2, 0)), (6, (5, 0)), (7, (5, 0))]
  | _ => []
def pl23 : Plans := fun id => match id with
  | _ => []
def pl24 : Plans := fun id => match id with
  | 5 => [(0, (5, 0)), (4, (5, 0)), (1, (0, 0)), (5, (0, 0)), (6, (5, 0)), (7, (5, 0)), (8, (0, 0)), (2, (1, 0)), (3, (1, 0)), (9, (2, 0)), (10, (1, 0)), (11, (2, 0)), (12, (5, 0))]
  | 8 => [(0, (5, 0)), (2, (5, 0)), (4, (5, 0)), (6, (5, 0)), (1, (0, 0)), (3, (0, 0)), (5, (0, 0)), (7, (0, 0)), (8, (1, 0)), (9, (1, 0)), (10, (5, 0))]
  | 11 => [(0, (5, 0)), (2, (5, 0)), (5, (5, 0)), (1, (0, 0)), (3, (0, 0)), (6, (0, 0)), (4, (4, 0)), (7, (1, 0)), (4, (3, 0)), (8, (2, 0)), (9, (5, 0))]
  | _ => []
@[go_sem ↓] theorem pl24_5 : pl24 5 = [(0, (5, 0)), (4, (5, 0)), (1, (0, 0)), (5, (0, 0)), (6, (5, 0)), (7, (5, 0)), (8, (0, 0)), (2, (1, 0)), (3, (1, 0)), (9, (2, 0)), (10, (1, 0)), (11, (2, 0)), (12, (5, 0))] := (rfl)
@[go_sem ↓] theorem pl24_8 : pl24 8 = [(0, (5, 0)), (2, (5, 0)), (4, (5, 0)), (6, (5, 0)), (1, (0, 0)), (3, (0, 0)), (5, (0, 0)), (7, (0, 0)), (8, (1, 0)), (9, (1, 0)), (10, (5, 0))] := (rfl)
@[go_sem ↓] theorem pl24_11 : pl24 11 = [(0, (5, 0)), (2, (5, 0)), (5, (5, 0)), (1, (0, 0)), (3, (0, 0)), (6, (0, 0)), (4, (4, 0)), (7, (1, 0)), (4, (3, 0)), (8, (2, 0)), (9, (5, 0))] := (rfl)
def pl25 : Plans := fun id => match id with
  | _ => []
def pl26 : Plans := fun id => match id with
  | _ => []
def pl27 : Plans := fun id => match id with
  | _ => []
def pl28 : Plans := fun id => match id with
  | 5 => [(0, (5, 0)), (1, (5, 0)), (4, (5, 0)), (5, (5, 0)), (6, (5, 0)), (7, (5, 0)), (2, (0, 0)), (3, (5, 0)), (8, (0, 0)), (9, (2, 0))]
  | 6 => [(0, (5, 0)), (1, (5, 0)), (4, (5, 0)), (5, (5, 0)), (6, (5, 0)), (7, (5, 0)), (2, (0, 0)), (3, (5, 0)), (8, (0, 0)), (9, (2, 0))]
  | _ => []
@[go_sem ↓] theorem pl28_5 : pl28 5 = [(0, (5, 0)), (1, (5, 0)), (4, (5, 0)), (5, (5, 0)), (6, (5, 0)), (7, (5, 0)), (2, (0, 0)), (3, (5, 0)), (8, (0, 0)), (9, (2, 0))] := (rfl)
@[go_sem ↓] theorem pl28_6 : pl28 6 = [(0, (5, 0)), (1, (5, 0)), (4, (5, 0)), (5, (5, 0)), (6, (5, 0)), (7, (5, 0)), (2, (0, 0)), (3, (5, 0)), (8, (0, 0)), (9, (2, 0))] := (rfl)
def pl29 : Plans := fun id => match id with
  | _ => []
def pl30 : Plans := fun id => match id with
  | _ => []
def pl31 : Plans := fun id => match id with
  | _ => []
def pl32 : Plans := fun id => match id with
  | _ => []
def pl33 : Plans := fun id => match id with
  | _ => []
def pl34 : Plans := fun id => match id with
  | 5 => [(0, (5, 0)), (1, (5, 0)), (2, (5, 0)), (3, (0, 0)), (4, (0, 0)), (5, (2, 0)), (6, (5, 0))]
  | 8 => [(2, (5, 0)), (3, (5, 0)), (4, (5, 0)), (5, (0, 0)), (0, (1, 0)), (1, (1, 0)), (6, (2, 0)), (7, (2, 0)), (8, (5, 0)), (9, (5, 0)), (10, (5, 0)), (11, (5, 0)), (12, (5, 0))]
  | _ => []
@[go_sem ↓] theorem pl34_5 : pl34 5 = [(0, (5, 0)), (1, (5, 0)), (2, (5, 0)), (3, (0, 0)), (4, (0, 0)), (5, (2, 0)), (6, (5, 0))] := (rfl)
@[go_sem ↓] theorem pl34_8 : pl34 8 = [(2, (5, 0)), (3, (5, 0)), (4, (5, 0)), (5, (0, 0)), (0, (1, 0)), (1, (1, 0)), (6, (2, 0)), (7, (2, 0)), (8, (5, 0)), (9, (5, 0)), (10, (5, 0)), (11, (5, 0)), (12, (5, 0))] := (rfl)
def pl35 : Plans := fun id => match id with
  | _ => []
def pl36 : Plans := fun id => match id with
  | _ => []
def pl37 : Plans := fun id => match id with
  | _ => []
def pl38 : Plans := fun id => match id with
  | 11 => [(0, (5, 0)), (2, (5, 0)), (3, (5, 0)), (4, (5, 0)), (1, (0, 0)), (5, (0, 0)), (6, (2, 0)), (7, (5, 0)), (8, (5, 0)), (9, (5, 0)), (10, (5, 0)), (11, (2, 0)), (12, (5, 0))]
  | 13 => [(0, (5, 0)), (1, (5, 0)), (2, (5, 0)), (4, (5, 0)), (6, (5, 0)), (3, (10, 168)), (3, (11, 0)), (5, (11, 0)), (7, (12, 0)), (8, (2, 0)), (9, (5, 0)), (10, (5, 0)), (11, (5, 0)), (12, (5, 0)), (13, (2, 0)), (14, (5, 0))]
  | 18 => [(0, (5, 0)), (1, (5, 0)), (2, (5, 0)), (4, (5, 0)), (5, (5, 0)), (6, (5, 0)), (7, (5, 0)), (8, (5, 0)), (2, (10, 520)), (3, (11, 0)), (9, (12, 0)), (10, (2, 0)), (11, (5, 0)), (12, (5, 0)), (13, (5, 0)), (14, (5, 0)), (15, (2, 0)), (16, (5, 0))]
  | 21 => [(0, (5, 0)), (1, (5, 0)), (2, (5, 0)), (4, (5, 0)), (5, (5, 0)), (6, (5, 0)), (3, (10, 392)), (3, (11, 0)), (7, (12, 0)), (8, (11, 128)), (9, (2, 0)), (10, (5, 0)), (11, (5, 0)), (12, (5, 0)), (13, (5, 0)), (14, (2, 0)), (15, (5, 0))]
  | 24 => [(0, (5, 0)), (1, (5, 0)), (2, (5, 0)), (4, (5, 0)), (5, (5, 0)), (6, (5, 0)), (3, (10, 392)), (3, (11, 0)), (7, (12, 0)), (8, (11, 128)), (9, (2, 0)), (10, (5, 0)), (11, (5, 0)), (12, (5, 0)), (13, (5, 0)), (14, (2, 0)), (15, (5, 0))]
  | _ => []
@[go_sem ↓] theorem pl38_11 : pl38 11 = [(0, (5, 0)), (2, (5, 0)), (3, (5, 0)), (4, (5, 0)), (1, (0, 0)), (5, (0, 0)), (6, (2, 0)), (7, (5, 0)), (8, (5, 0)), (9, (5, 0)), (10, (5, 0)), (11, (2, 0)), (12, (5, 0))] := (rfl)
@[go_sem ↓] theorem pl38_13 : pl38 13 = [(0, (5, 0)), (1, (5, 0)), (2, (5, 0)), (4, (5, 0)), (6, (5, 0)), (3, (10, 168)), (3, (11, 0)), (5, (11, 0)), (7, (12, 0)), (8, (2, 0)), (9, (5, 0)), (10, (5, 0)), (11, (5, 0)), (12, (5, 0)), (13, (2, 0)), (14, (5, 0))] := (rfl)
def ps38_13_5 : List (Nat × Nat × Nat) := [(3, (11, 0)), (5, (11, 0)), (7, (12, 0))]
@[go_sem ↓] theorem ph38_13_5 {K : KR} {all : List Oper} {ρ : Vg} : hldV true Tryz.prog all.toArray [(3, (10, 168)), (3, (11, 0)), (5, (11, 0)), (7, (12, 0)), (8, (2, 0)), (9, (5, 0)), (10, (5, 0)), (11, (5, 0)), (12, (5, 0)), (13, (2, 0)), (14, (5, 0))] ρ σ K = enuV Tryz.prog all.toArray ps38_13_5 3 168 true ρ σ fun τ ρ' σ' => hldV τ Tryz.prog all.toArray [(8, (2, 0)), (9, (5, 0)), (10, (5, 0)), (11, (5, 0)), (12, (5, 0)), (13, (2, 0)), (14, (5, 0))] ρ' σ' K := (rfl)
@[go_sem ↓] theorem pe38_13_5_168 {K : KR} {all : List Oper} {ρ : Vg} : enuV Tryz.prog all.toArray ps38_13_5 3 168 true ρ σ K = ((nthK all 3 fun o => runV true Tryz.prog o ρ σ 1 fun τ u σ' => enuV Tryz.prog all.toArray ps38_13_5 2 160 τ (putV ρ o.dst u) σ' K) ∧ (nthK all 5 fun o => runV true Tryz.prog o ρ σ 1 fun τ u σ' => enuV Tryz.prog all.toArray ps38_13_5 2 136 τ (putV ρ o.dst u) σ' K) ∧ (nthK all 7 fun o => runV true Tryz.prog o ρ σ 2 fun τ u σ' => enuV Tryz.prog all.toArray ps38_13_5 2 40 τ (putV ρ o.dst u) σ' K) ∧ True) := (rfl)
@[go_sem ↓] theorem pe38_13_5_160 {K : KR} {all : List Oper} {ρ : Vg} : enuV Tryz.prog all.toArray ps38_13_5 2 160 true ρ σ K = ((nthK all 5 fun o => runV true Tryz.prog o ρ σ 1 fun τ u σ' => enuV Tryz.prog all.toArray ps38_13_5 1 128 τ (putV ρ o.dst u) σ' K) ∧ (nthK all 7 fun o => runV true Tryz.prog o ρ σ 2 fun τ u σ' => enuV Tryz.prog all.toArray ps38_13_5 1 32 τ (putV ρ o.dst u) σ' K) ∧ True) := (rfl)
@[go_sem ↓] theorem pe38_13_5_136 {K : KR} {all : List Oper} {ρ : Vg} : enuV Tryz.prog all.toArray ps38_13_5 2 136 true ρ σ K = ((nthK all 3 fun o => runV true Tryz.prog o ρ σ 1 fun τ u σ' => enuV Tryz.prog all.toArray ps38_13_5 1 128 τ (putV ρ o.dst u) σ' K) ∧ (nthK all 7 fun o => runV true Tryz.prog o ρ σ 2 fun τ u σ' => enuV Tryz.prog all.toArray ps38_13_5 1 8 τ (putV ρ o.dst u) σ' K) ∧ True) := (rfl)
@[go_sem ↓] theorem pe38_13_5_40 {K : KR} {all : List Oper} {ρ : Vg} : enuV Tryz.prog all.toArray ps38_13_5 2 40 true ρ σ K = ((nthK all 3 fun o => runV true Tryz.prog o ρ σ 1 fun τ u σ' => enuV Tryz.prog all.toArray ps38_13_5 1 32 τ (putV ρ o.dst u) σ' K) ∧ (nthK all 5 fun o => runV true Tryz.prog o ρ σ 1 fun τ u σ' => enuV Tryz.prog all.toArray ps38_13_5 1 8 τ (putV ρ o.dst u) σ' K) ∧ True) := (rfl)
@[go_sem ↓] theorem pe38_13_5_128 {K : KR} {all : List Oper} {ρ : Vg} : enuV Tryz.prog all.toArray ps38_13_5 1 128 true ρ σ K = ((nthK all 7 fun o => runV true Tryz.prog o ρ σ 2 fun τ u σ' => enuV Tryz.prog all.toArray ps38_13_5 0 0 τ (putV ρ o.dst u) σ' K) ∧ True) := (rfl)
@[go_sem ↓] theorem pe38_13_5_32 {K : KR} {all : List Oper} {ρ : Vg} : enuV Tryz.prog all.toArray ps38_13_5 1 32 true ρ σ K = ((nthK all 5 fun o => runV true Tryz.prog o ρ σ 1 fun τ u σ' => enuV Tryz.prog all.toArray ps38_13_5 0 0 τ (putV ρ o.dst u) σ' K) ∧ True) := (rfl)
@[go_sem ↓] theorem pe38_13_5_8 {K : KR} {all : List Oper} {ρ : Vg} : enuV Tryz.prog all.toArray ps38_13_5 1 8 true ρ σ K = ((nthK all 3 fun o => runV true Tryz.prog o ρ σ 1 fun τ u σ' => enuV Tryz.prog all.toArray ps38_13_5 0 0 τ (putV ρ o.dst u) σ' K) ∧ True) := (rfl)
@[go_sem ↓] theorem pl38_18 : pl38 18 = [(0, (5, 0)), (1, (5, 0)), (2, (5, 0)), (4, (5, 0)), (5, (5, 0)), (6, (5, 0)), (7, (5, 0)), (8, (5, 0)), (2, (10, 520)), (3, (11, 0)), (9, (12, 0)), (10, (2, 0)), (11, (5, 0)), (12, (5, 0)), (13, (5, 0)), (14, (5, 0)), (15, (2, 0)), (16, (5, 0))] := (rfl)
def ps38_18_8 : List (Nat × Nat × Nat) := [(3, (11, 0)), (9, (12, 0))]
@[go_sem ↓] theorem ph38_18_8 {K : KR} {all : List Oper} {ρ : Vg} : hldV true Tryz.prog all.toArray [(2, (10, 520)), (3, (11, 0)), (9, (12, 0)), (10, (2, 0)), (11, (5, 0)), (12, (5, 0)), (13, (5, 0)), (14, (5, 0)), (15, (2, 0)), (16, (5, 0))] ρ σ K = enuV Tryz.prog all.toArray ps38_18_8 2 520 true ρ σ fun τ ρ' σ' => hldV τ Tryz.prog all.toArray [(10, (2, 0)), (11, (5, 0)), (12, (5, 0)), (13, (5, 0)), (14, (5, 0)), (15, (2, 0)), (16, (5, 0))] ρ' σ' K := (rfl)
@[go_sem ↓] theorem pe38_18_8_520 {K : KR} {all : List Oper} {ρ : Vg} : enuV Tryz.prog all.toArray ps38_18_8 2 520 true ρ σ K = ((nthK all 3 fun o => runV true Tryz.prog o ρ σ 1 fun τ u σ' => enuV Tryz.prog all.toArray ps38_18_8 1 512 τ (putV ρ o.dst u) σ' K) ∧ (nthK all 9 fun o => runV true Tryz.prog o ρ σ 2 fun τ u σ' => enuV Tryz.prog all.toArray ps38_18_8 1 8 τ (putV ρ o.dst u) σ' K) ∧ True) := (rfl)
@[go_sem ↓] theorem pe38_18_8_512 {K : KR} {all : List Oper} {ρ : Vg} : enuV Tryz.prog all.toArray ps38_18_8 1 512 true ρ σ K = ((nthK all 9 fun o => runV true Tryz.prog o ρ σ 2 fun τ u σ' => enuV Tryz.prog all.toArray ps38_18_8 0 0 τ (putV ρ o.dst u) σ' K) ∧ True) := (rfl)
@[go_sem ↓] theorem pe38_18_8_8 {K : KR} {all : List Oper} {ρ : Vg} : enuV Tryz.prog all.toArray ps38_18_8 1 8 true ρ σ K = ((nthK all 3 fun o => runV true Tryz.prog o ρ σ 1 fun τ u σ' => enuV Tryz.prog all.toArray ps38_18_8 0 0 τ (putV ρ o.dst u) σ' K) ∧ True) := (rfl)
@[go_sem ↓] theorem pl38_21 : pl38 21 = [(0, (5, 0)), (1, (5, 0)), (2, (5, 0)), (4, (5, 0)), (5, (5, 0)), (6, (5, 0)), (3, (10, 392)), (3, (11, 0)), (7, (12, 0)), (8, (11, 128)), (9, (2, 0)), (10, (5, 0)), (11, (5, 0)), (12, (5, 0)), (13, (5, 0)), (14, (2, 0)), (15, (5, 0))] := (rfl)
def ps38_21_6 : List (Nat × Nat × Nat) := [(3, (11, 0)), (7, (12, 0)), (8, (11, 128))]
@[go_sem ↓] theorem ph38_21_6 {K : KR} {all : List Oper} {ρ : Vg} : hldV true Tryz.prog all.toArray [(3, (10, 392)), (3, (11, 0)), (7, (12, 0)), (8, (11, 128)), (9, (2, 0)), (10, (5, 0)), (11, (5, 0)), (12, (5, 0)), (13, (5, 0)), (14, (2, 0)), (15, (5, 0))] ρ σ K = enuV Tryz.prog all.toArray ps38_21_6 3 392 true ρ σ fun τ ρ' σ' => hldV τ Tryz.prog all.toArray [(9, (2, 0)), (10, (5, 0)), (11, (5, 0)), (12, (5, 0)), (13, (5, 0)), (14, (2, 0)), (15, (5, 0))] ρ' σ' K := (rfl)
@[go_sem ↓] theorem pe38_21_6_392 {K : KR} {all : List Oper} {ρ : Vg} : enuV Tryz.prog all.toArray ps38_21_6 3 392 true ρ σ K = ((nthK all 3 fun o => runV true Tryz.prog o ρ σ 1 fun τ u σ' => enuV Tryz.prog all.toArray ps38_21_6 2 384 τ (putV ρ o.dst u) σ' K) ∧ (nthK all 7 fun o => runV true Tryz.prog o ρ σ 2 fun τ u σ' => enuV Tryz.prog all.toArray ps38_21_6 2 264 τ (putV ρ o.dst u) σ' K) ∧ True) := (rfl)
@[go_sem ↓] theorem pe38_21_6_384 {K : KR} {all : List Oper} {ρ : Vg} : enuV Tryz.prog all.toArray ps38_21_6 2 384 true ρ σ K = ((nthK all 7 fun o => runV true Tryz.prog o ρ σ 2 fun τ u σ' => enuV Tryz.prog all.toArray ps38_21_6 1 256 τ (putV ρ o.dst u) σ' K) ∧ True) := (rfl)
@[go_sem ↓] theorem pe38_21_6_264 {K : KR} {all : List Oper} {ρ : Vg} : enuV Tryz.prog all.toArray ps38_21_6 2 264 true ρ σ K = ((nthK all 3 fun o => runV true Tryz.prog o ρ σ 1 fun τ u σ' => enuV Tryz.prog all.toArray ps38_21_6 1 256 τ (putV ρ o.dst u) σ' K) ∧ (nthK all 8 fun o => runV true Tryz.prog o ρ σ 1 fun τ u σ' => enuV Tryz.prog all.toArray ps38_21_6 1 8 τ (putV ρ o.dst u) σ' K) ∧ True) := (rfl)
@[go_sem ↓] theorem pe38_21_6_256 {K : KR} {all : List Oper} {ρ : Vg} : enuV Tryz.prog all.toArray ps38_21_6 1 256 true ρ σ K = ((nthK all 8 fun o => runV true Tryz.prog o ρ σ 1 fun τ u σ' => enuV Tryz.prog all.toArray ps38_21_6 0 0 τ (putV ρ o.dst u) σ' K) ∧ True) := (rfl)
@[go_sem ↓] theorem pe38_21_6_8 {K : KR} {all : List Oper} {ρ : Vg} : enuV Tryz.prog all.toArray ps38_21_6 1 8 true ρ σ K = ((nthK all 3 fun o => runV true Tryz.prog o ρ σ 1 fun τ u σ' => enuV Tryz.prog all.toArray ps38_21_6 0 0 τ (putV ρ o.dst u) σ' K) ∧ True) := (rfl)
@[go_sem ↓] theorem pl38_24 : pl38 24 = [(0, (5, 0)), (1, (5, 0)), (2, (5, 0)), (4, (5, 0)), (5, (5, 0)), (6, (5, 0)), (3, (10, 392)), (3, (11, 0)), (7, (12, 0)), (8, (11, 128)), (9, (2, 0)), (10, (5, 0)), (11, (5, 0)), (12, (5, 0)), (13, (5, 0)), (14, (2, 0)), (15, (5, 0))] := (rfl)
def ps38_24_6 : List (Nat × Nat × Nat) := [(3, (11, 0)), (7, (12, 0)), (8, (11, 128))]
def pl39 : Plans := fun id => match id with
  | _ => []
def pl40 : Plans := fun id => match id with
  | 6 => [(0, (5, 0)), (1, (5, 0)), (2, (5, 0)), (4, (5, 0)), (5, (5, 0)), (6, (5, 0)), (3, (0, 0)), (7, (0, 0)), (8, (5, 0))]
  | _ => []
@[go_sem ↓] theorem pl40_6 : pl40 6 = [(0, (5, 0)), (1, (5, 0)), (2, (5, 0)), (4, (5, 0)), (5, (5, 0)), (6, (5, 0)), (3, (0, 0)), (7, (0, 0)), (8, (5, 0))] := (rfl)
def pl41 : Plans := fun id => match id with
  | _ => []
def pl42 : Plans := fun id => match id with
  | _ => []
def pl43 : Plans := fun id => match id with
  | _ => []
def pl44 : Plans := fun id => match id with
  | _ => []
def pl45 : Plans := fun id => match id with
  | 3 => [(0, (5, 0)), (1, (5, 0)), (2, (5, 0)), (4, (5, 0)), (5, (5, 0)), (6, (5, 0)), (11, (5, 0)), (12, (5, 0)), (13, (5, 0)), (3, (0, 0)), (7, (0, 0)), (8, (5, 0)), (9, (5, 0)), (10, (0, 0)), (14, (0, 0)), (15, (5, 0)), (16, (5, 0)), (17, (5, 0)), (18, (5, 0)), (19, (5, 0)), (20, (2, 0))]
  | _ => []
@[go_sem ↓] theorem pl45_3 : pl45 3 = [(0, (5, 0)), (1, (5, 0)), (2, (5, 0)), (4, (5, 0)), (5, (5, 0)), (6, (5, 0)), (11, (5, 0)), (12, (5, 0)), (13, (5, 0)), (3, (0, 0)), (7, (0, 0)), (8, (5, 0)), (9, (5, 0)), (10, (0, 0)), (14, (0, 0)), (15, (5, 0)), (16, (5, 0)), (17, (5, 0)), (18, (5, 0)), (19, (5, 0)), (20, (2, 0))] := (rfl)
def pl46 : Plans := fun id => match id with
  | _ => []
def pl47 : Plans := fun id => match id with
  | _ => []
def pl48 : Plans := fun id => match id with
  | _ => []
def pl49 : Plans := fun id => match id with
  | _ => []
def pl50 : Plans := fun id => match id with
  | _ => []
def pl51 : Plans := fun id => match id with
  | _ => []
def pl52 : Plans := fun id => match id with
  | _ => []
def pl53 : Plans := fun id => match id with
  | _ => []
def pl54 : Plans := fun id => match id with
  | _ => []
def pl55 : Plans := fun id => match id with
  | 2 => [(0, (5, 0)), (4, (5, 0)), (1, (0, 0)), (2, (5, 0)), (5, (0, 0)), (6, (5, 0)), (3, (1, 0)), (7, (2, 0)), (8, (5, 0)), (9, (5, 0))]
  | _ => []
@[go_sem ↓] theorem pl55_2 : pl55 2 = [(0, (5, 0)), (4, (5, 0)), (1, (0, 0)), (2, (5, 0)), (5, (0, 0)), (6, (5, 0)), (3, (1, 0)), (7, (2, 0)), (8, (5, 0)), (9, (5, 0))] := (rfl)
def pl56 : Plans := fun id => match id with
  | _ => []
def pl57 : Plans := fun id => match id with
  | _ => []
def pl58 : Plans := fun id => match id with
  | _ => []
def pl59 : Plans := fun id => match id with
  | _ => []
def pl60 : Plans := fun id => match id with
  | _ => []
def pl61 : Plans := fun id => match id with
  | _ => []
def pl62 : Plans := fun id => match id with
  | _ => []
def pl63 : Plans := fun id => match id with
  | _ => []
def pl64 : Plans := fun id => match id with
  | 6 => [(0, (5, 0)), (1, (5, 0)), (2, (5, 0)), (4, (5, 0)), (5, (5, 0)), (6, (5, 0)), (7, (5, 0)), (9, (5, 0)), (12, (5, 0)), (14, (5, 0)), (17, (5, 0)), (18, (5, 0)), (19, (5, 0)), (3, (0, 0)), (8, (0, 0)), (10, (5, 0)), (11, (0, 0)), (13, (1, 0)), (15, (5, 0)), (16, (5, 0)), (20, (5, 0)), (21, (5, 0)), (22, (2, 0))]
  | 9 => [(0, (5, 0)), (1, (5, 0)), (2, (5, 0)), (4, (5, 0)), (5, (5, 0)), (6, (5, 0)), (7, (5, 0)), (8, (5, 0)), (10, (5, 0)), (11, (5, 0)), (14, (5, 0)), (16, (5, 0)), (19, (5, 0)), (20, (5, 0)), (21, (5, 0)), (3, (0, 0)), (9, (0, 0)), (12, (5, 0)), (13, (0, 0)), (15, (1, 0)), (17, (5, 0)), (18, (5, 0)), (22, (5, 0)), (23, (5, 0)), (24, (2, 0))]
  | _ => []
@[go_sem ↓] theorem pl64_6 : pl64 6 = [(0, (5, 0)), (1, (5, 0)), (2, (5, 0)), (4, (5, 0)), (5, (5, 0)), (6, (5, 0)), (7, (5, 0)), (9, (5, 0)), (12, (5, 0)), (14, (5, 0)), (17, (5, 0)), (18, (5, 0)), (19, (5, 0)), (3, (0, 0)), (8, (0, 0)), (10, (5, 0)), (11, (0, 0)), (13, (1, 0)), (15, (5, 0)), (16, (5, 0)), (20, (5, 0)), (21, (5, 0)), (22, (2, 0))] := (rfl)
@[go_sem ↓] theorem pl64_9 : pl64 9 = [(0, (5, 0)), (1, (5, 0)), (2, (5, 0)), (4, (5, 0)), (5, (5, 0)), (6, (5, 0)), (7, (5, 0)), (8, (5, 0)), (10, (5, 0)), (11, (5, 0)), (14, (5, 0)), (16, (5, 0)), (19, (5, 0)), (20, (5, 0)), (21, (5, 0)), (3, (0, 0)), (9, (0, 0)), (12, (5, 0)), (13, (0, 0)), (15, (1, 0)), (17, (5, 0)), (18, (5, 0)), (22, (5, 0)), (23, (5, 0)), (24, (2, 0))] := (rfl)
def pl65 : Plans := fun id => match id with
  | 1 => [(0, (5, 0)), (1, (5, 0)), (2, (5, 0)), (6, (5, 0)), (7, (5, 0)), (8, (5, 0)), (3, (0, 0)), (4, (0, 0)), (5, (5, 0)), (9, (0, 0)), (10, (5, 0)), (11, (5, 0))]
  | _ => []
@[go_sem ↓] theorem pl65_1 : pl65 1 = [(0, (5, 0)), (1, (5, 0)), (2, (5, 0)), (6, (5, 0)), (7, (5, 0)), (8, (5, 0)), (3, (0, 0)), (4, (0, 0)), (5, (5, 0)), (9, (0, 0)), (10, (5, 0)), (11, (5, 0))] := (rfl)
def pl66 : Plans := fun id => match id with
  | 1 => [(0, (5, 0)), (1, (5, 0)), (2, (5, 0)), (4, (5, 0)), (5, (5, 0)), (6, (5, 0)), (11, (5, 0)), (12, (5, 0)), (13, (5, 0)), (3, (0, 0)), (7, (0, 0)), (8, (5, 0)), (9, (5, 0)), (10, (0, 0)), (14, (0, 0)), (15, (5, 0)), (16, (5, 0)), (17, (5, 0)), (18, (5, 0)), (19, (5, 0))]
  | _ => []
@[go_sem ↓] theorem pl66_1 : pl66 1 = [(0, (5, 0)), (1, (5, 0)), (2, (5, 0)), (4, (5, 0)), (5, (5, 0)), (6, (5, 0)), (11, (5, 0)), (12, (5, 0)), (13, (5, 0)), (3, (0, 0)), (7, (0, 0)), (8, (5, 0)), (9, (5, 0)), (10, (0, 0)), (14, (0, 0)), (15, (5, 0)), (16, (5, 0)), (17, (5, 0)), (18, (5, 0)), (19, (5, 0))] := (rfl)
def pl67 : Plans := fun id => match id with
  | _ => []
def pl68 : Plans := fun id => match id with
  | 4 => [(0, (5, 0)), (2, (0, 0)), (1, (1, 0)), (3, (2, 0)), (4, (5, 0))]
  | _ => []
@[go_sem ↓] theorem pl68_4 : pl68 4 = [(0, (5, 0)), (2, (0, 0)), (1, (1, 0)), (3, (2, 0)), (4, (5, 0))] := (rfl)
def pl69 : Plans := fun id => match id with
  | _ => []
def pl70 : Plans := fun id => match id with
  | _ => []
def pl71 : Plans := fun id => match id with
  | 9 => [(0, (5, 0)), (1, (5, 0)), (2, (5, 0)), (4, (5, 0)), (3, (0, 0)), (5, (0, 0)), (6, (5, 0)), (7, (5, 0)), (8, (0, 0)), (9, (0, 0)), (10, (0, 0)), (11, (0, 0)), (12, (0, 0)), (13, (0, 0)), (14, (0, 0)), (15, (0, 0)), (16, (0, 0)), (17, (0, 0)), (18, (0, 0)), (19, (0, 0)), (20, (0, 0)), (21, (5, 0))]
  | 14 => [(0, (5, 0)), (2, (5, 0)), (4, (5, 0)), (3, (0, 0)), (5, (0, 0)), (6, (5, 0)), (1, (1, 0)), (7, (5, 0))]
  | _ => []
@[go_sem ↓] theorem pl71_9 : pl71 9 = [(0, (5, 0)), (1, (5, 0)), (2, (5, 0)), (4, (5, 0)), (3, (0, 0)), (5, (0, 0)), (6, (5, 0)), (7, (5, 0)), (8, (0, 0)), (9, (0, 0)), (10, (0, 0)), (11, (0, 0)), (12, (0, 0)), (13, (0, 0)), (14, (0, 0)), (15, (0, 0)), (16, (0, 0)), (17, (0, 0)), (18, (0, 0)), (19, (0, 0)), (20, (0, 0)), (21, (5, 0))] := (rfl)
@[go_sem ↓] theorem pl71_14 : pl71 14 = [(0, (5, 0)), (2, (5, 0)), (4, (5, 0)), (3, (0, 0)), (5, (0, 0)), (6, (5, 0)), (1, (1, 0)), (7, (5, 0))] := (rfl)
def pl72 : Plans := fun id => match id with
  | 25 => [(0, (5, 0)), (1, (5, 0)), (2, (5, 0)), (3, (5, 0)), (6, (5, 0)), (4, (0, 0)), (5, (0, 0)), (7, (5, 0)), (8, (1, 0)), (9, (2, 0)), (10, (5, 0)), (11, (5, 0)), (12, (2, 0))]
  | _ => []
@[go_sem ↓] theorem pl72_25 : pl72 25 = [(0, (5, 0)), (1, (5, 0)), (2, (5, 0)), (3, (5, 0)), (6, (5, 0)), (4, (0, 0)), (5, (0, 0)), (7, (5, 0)), (8, (1, 0)), (9, (2, 0)), (10, (5, 0)), (11, (5, 0)), (12, (2, 0))] := (rfl)
def pl73 : Plans := fun id => match id with
  | _ => []
def pl74 : Plans := fun id => match id with
  | 4 => [(0, (0, 0)), (2, (0, 0)), (1, (1, 0)), (3, (2, 0)), (4, (2, 0)), (5, (5, 0))]
  | _ => []
@[go_sem ↓] theorem pl74_4 : pl74 4 = [(0, (0, 0)), (2, (0, 0)), (1, (1, 0)), (3, (2, 0)), (4, (2, 0)), (5, (5, 0))] := (rfl)
def pl75 : Plans := fun id => match id with
  | _ => []
def pl76 : Plans := fun id => match id with
  | 1 => [(0, (5, 0)), (1, (5, 0)), (2, (5, 0)), (3, (5, 0)), (7, (5, 0)), (8, (5, 0)), (9, (5, 0)), (10, (5, 0)), (4, (0, 0)), (5, (5, 0)), (6, (5, 0)), (14, (5, 0)), (11, (0, 0)), (12, (5, 0)), (13, (5, 0)), (15, (5, 0))]
  | _ => []
@[go_sem ↓] theorem pl76_1 : pl76 1 = [(0, (5, 0)), (1, (5, 0)), (2, (5, 0)), (3, (5, 0)), (7, (5, 0)), (8, (5, 0)), (9, (5, 0)), (10, (5, 0)), (4, (0, 0)), (5, (5, 0)), (6, (5, 0)), (14, (5, 0)), (11, (0, 0)), (12, (5, 0)), (13, (5, 0)), (15, (5, 0))] := (rfl)
def pl77 : Plans := fun id => match id with
  | _ => []
def pl78 : Plans := fun id => match id with
  | _ => []
def pl79 : Plans := fun id => match id with
  | _ => []
def pl80 : Plans := fun id => match id with
  | _ => []
def pl81 : Plans := fun id => match id with
  | _ => []
def pl82 : Plans := fun id => match id with
  | 4 => [(0, (5, 0)), (1, (0, 0)), (2, (5, 0)), (3, (5, 0)), (4, (0, 0)), (5, (0, 0)), (6, (0, 0)), (7, (0, 0)), (9, (0, 0)), (10, (0, 0)), (11, (0, 0)), (12, (0, 0)), (8, (1, 0)), (13, (0, 0)), (14, (0, 0)), (15, (5, 0))]
  | _ => []
@[go_sem ↓] theorem pl82_4 : pl82 4 = [(0, (5, 0)), (1, (0, 0)), (2, (5, 0)), (3, (5, 0)), (4, (0, 0)), (5, (0, 0)), (6, (0, 0)), (7, (0, 0)), (9, (0, 0)), (10, (0, 0)), (11, (0, 0)), (12, (0, 0)), (8, (1, 0)), (13, (0, 0)), (14, (0, 0)), (15, (5, 0))] := (rfl)
def pl83 : Plans := fun id => match id with
  | _ => []
def pl84 : Plans := fun id => match id with
  | _ => []
def pl85 : Plans := fun id => match id with
  | 3 => [(1, (5, 0)), (0, (0, 0)), (2, (1, 0)), (3, (5, 0)), (4, (1, 0)), (5, (5, 0)), (6, (5, 0))]
  | _ => []
@[go_sem ↓] theorem pl85_3 : pl85 3 = [(1, (5, 0)), (0, (0, 0)), (2, (1, 0)), (3, (5, 0)), (4, (1, 0)), (5, (5, 0)), (6, (5, 0))] := (rfl)
def pl86 : Plans := fun id => match id with
  | _ => []
def pl87 : Plans := fun id => match id with
  | _ => []
def pl88 : Plans := fun id => match id with
  | _ => []
def pl89 : Plans := fun id => match id with
  | 4 => [(1, (5, 0)), (0, (0, 0)), (2, (0, 0)), (3, (1, 0)), (4, (5, 0)), (5, (1, 0)), (6, (5, 0)), (7, (5, 0))]
  | _ => []
@[go_sem ↓] theorem pl89_4 : pl89 4 = [(1, (5, 0)), (0, (0, 0)), (2, (0, 0)), (3, (1, 0)), (4, (5, 0)), (5, (1, 0)), (6, (5, 0)), (7, (5, 0))] := (rfl)
def pl90 : Plans := fun id => match id with
  | _ => []
def pl91 : Plans := fun id => match id with
  | _ => []
def pl92 : Plans := fun id => match id with
  | _ => []
def pl93 : Plans := fun id => match id with
  | _ => []
def pl94 : Plans := fun id => match id with
  | _ => []
def pl95 : Plans := fun id => match id with
  | _ => []
def pl96 : Plans := fun id => match id with
  | _ => []
def pl97 : Plans := fun id => match id with
  | _ => []
def pl98 : Plans := fun id => match id with
  | _ => []
def pl123 : Plans := fun id => match id with
  | _ => []
def pl127 : Plans := fun id => match id with
  | _ => []
def pl130 : Plans := fun id => match id with
  | _ => []
def pl134 : Plans := fun id => match id with
  | _ => []
def pl137 : Plans := fun id => match id with
  | _ => []
def pl141 : Plans := fun id => match id with
  | _ => []
@[go_sem ↓] theorem vfa_108_2 : fadV Tryz.prog 108 (.ref o z i' off) 2 F = F true (.ref o z i' (off + 2)) := fadV_ref (x := 2) (ag := false) (m := 1) (by kernel_rfl)
@[go_sem ↓] theorem vld_3 : ldV Tryz.prog 3 u σ F = rdV u σ (none) F := ldV_of (by kernel_rfl)
@[go_sem ↓] theorem vfa_108_0 : fadV Tryz.prog 108 (.ref o z i' off) 0 F = F true (.ref o z i' off) := fadV_ref (x := 0) (ag := false) (m := 1) (by kernel_rfl)
@[go_sem ↓] theorem vfa_108_1 : fadV Tryz.prog 108 (.ref o z i' off) 1 F = F true (.ref o z i' (off + 1)) := fadV_ref (x := 1) (ag := false) (m := 1) (by kernel_rfl)
@[go_sem ↓] theorem vfa_102_0 : fadV Tryz.prog 102 (.ref o z i' off) 0 F = F true (.ref o z i' off) := fadV_ref (x := 0) (ag := false) (m := 1) (by kernel_rfl)
@[go_sem ↓] theorem vfr_102_0 : fadV Tryz.prog 102 (.rref z l i' off) 0 F = F true (.rref z l i' off) := fadV_rref (x := 0) (ag := false) (m := 1) (by kernel_rfl)
@[go_sem ↓] theorem vfa_102_1 : fadV Tryz.prog 102 (.ref o z i' off) 1 F = F true (.ref o z i' (off + 1)) := fadV_ref (x := 1) (ag := false) (m := 1) (by kernel_rfl)
@[go_sem ↓] theorem vfr_102_1 : fadV Tryz.prog 102 (.rref z l i' off) 1 F = F true (.rref z l i' (off + 1)) := fadV_rref (x := 1) (ag := false) (m := 1) (by kernel_rfl)
@[go_sem ↓] theorem vfa_102_2 : fadV Tryz.prog 102 (.ref o z i' off) 2 F = F true (.ref o z i' (off + 2)) := fadV_ref (x := 2) (ag := false) (m := 1) (by kernel_rfl)
@[go_sem ↓] theorem vfa_157_1 : fadV Tryz.prog 157 (.ref o z i' off) 1 F = F true (.ref o z i' (off + 1)) := fadV_ref (x := 1) (ag := false) (m := 1) (by kernel_rfl)
@[go_sem ↓] theorem vmi_179 : mkiV Tryz.prog 179 (.lit (.int i a)) F = F true (.lit (.iface 179 (.int i a))) := mkiV_of (k := Go.IntKind.i64) (by kernel_rfl)
@[go_sem ↓] theorem vin_179_137 : invV Tryz.prog e (.lit (.iface 179 (.int i a))) "tallymark/chain.good" us σ kv = callV Tryz.prog e 137 (.lit (.int i a) :: us) σ kv := invV_of (by kernel_rfl)
@[go_sem ↓] theorem vmi_178 : mkiV Tryz.prog 178 (.lit (.int i a)) F = F true (.lit (.iface 178 (.int i a))) := mkiV_of (k := Go.IntKind.i64) (by kernel_rfl)
@[go_sem ↓] theorem vin_178_130 : invV Tryz.prog e (.lit (.iface 178 (.int i a))) "tallymark/chain.good" us σ kv = callV Tryz.prog e 130 (.lit (.int i a) :: us) σ kv := invV_of (by kernel_rfl)
@[go_sem ↓] theorem vmi_177 : mkiV Tryz.prog 177 (.lit (.int i a)) F = F true (.lit (.iface 177 (.int i a))) := mkiV_of (k := Go.IntKind.i64) (by kernel_rfl)
@[go_sem ↓] theorem vin_177_123 : invV Tryz.prog e (.lit (.iface 177 (.int i a))) "tallymark/chain.good" us σ kv = callV Tryz.prog e 123 (.lit (.int i a) :: us) σ kv := invV_of (by kernel_rfl)
@[go_sem ↓] theorem vfa_157_0 : fadV Tryz.prog 157 (.ref o z i' off) 0 F = F true (.ref o z i' off) := fadV_ref (x := 0) (ag := false) (m := 1) (by kernel_rfl)
@[go_sem ↓] theorem vld_171 : ldV Tryz.prog 171 u σ F = rdV u σ (some 256) F := ldV_of (by kernel_rfl)
@[go_sem ↓] theorem vst_171 : stV Tryz.prog 171 u v σ ks = clK v fun c => lenK c 256 (wrV u σ c ks) := stV_of (by kernel_rfl)
@[go_sem ↓] theorem via_171 (h : 0 ≤ a ∧ a < 256) : idxV Tryz.prog 171 (.ref o 0 0 off) (.lit (.int i a)) F = F true (.ref o 1 a.toNat off) := idxV_ar (et := 64) (by kernel_rfl) h
@[go_sem ↓ high] theorem vian_171 (h : m < 256) : idxV Tryz.prog 171 (.ref o 0 0 off) (.lit (.int i (m : Int))) F = F true (.ref o 1 m off) := idxV_arn (et := 64) (by kernel_rfl) h
@[go_sem ↓] theorem vst_64 : stV Tryz.prog 64 u v σ ks = clK v fun c => lenK c 1 (wrV u σ c ks) := stV_of (by kernel_rfl)
@[go_sem ↓ high] theorem vshr_u32_u64_1 {P : Program} {t : TypeId} : binV P .shr t (.lit (.int .u32 a)) (.lit (.int .u64 1)) F = F true (.lit (.int .u32 (a / 2))) := by rw [binV_shr_u32 (by decide)]; rfl
@[go_sem ↓ high] theorem vmk_u32_1 {P : Program} {t : TypeId} : binV P .and t (.lit (.int .u32 a)) (.lit (.int .u32 1)) F = F true (.lit (.int .u32 (a % 2))) := binV_mask 1 (by decide) (by decide) (by decide)
@[go_sem ↓ high] theorem vcvh_3_64 (h : 0 ≤ a ∧ a ≤ 4294967295) : cvsV Tryz.prog 3 64 (.lit (.int i a)) σ F = F true (.lit (.int .u32 a)) := (cvsV_num (by kernel_rfl)).trans (cvtV_u32 (by kernel_rfl) (by kernel_rfl) h)
@[go_sem ↓] theorem vsy_3_64 : sbyV Tryz.prog 3 64 u σ kv = cvsV Tryz.prog 3 64 u σ fun τ u => kv τ u σ := sbyV_num (by kernel_rfl)
@[go_sem ↓] theorem val_171 : alcV Tryz.prog 171 σ kv = allOne ((List.replicate 256 (.int .u32 0)) : List Value) (newO σ (.cells (((List.replicate 256 (.int .u32 0)) : List Value).map V.lit)) fun o σ' => kv true (.ref o 0 0 0) σ') := alcV_of (by kernel_rfl)
@[go_sem ↓] theorem vcv_64_5 : cvsV Tryz.prog 64 5 (.lit (.int i a)) σ F = F true (.lit (.int .u8 (IntKind.wrap .u8 a))) := (cvsV_num (by kernel_rfl)).trans (cvtV_of (by kernel_rfl) (by kernel_rfl))
@[go_sem ↓ high] theorem vcvh_64_5 (h : 0 ≤ a ∧ a ≤ 255) : cvsV Tryz.prog 64 5 (.lit (.int i a)) σ F = F true (.lit (.int .u8 a)) := (cvsV_num (by kernel_rfl)).trans (cvtV_u8 (by kernel_rfl) (by kernel_rfl) h)
@[go_sem ↓] theorem vsy_64_5 : sbyV Tryz.prog 64 5 u σ kv = cvsV Tryz.prog 64 5 u σ fun τ u => kv τ u σ := sbyV_num (by kernel_rfl)
@[go_sem ↓] theorem vis_9 {s : ByteArray} (h : 0 ≤ a ∧ a < s.size) : ixvV Tryz.prog 9 (.lit (.string s)) (.lit (.int i a)) F = F true (.lit (.int .u8 (strAt s a.toNat))) := ixvV_str (by kernel_rfl) h
@[go_sem ↓ high] theorem vcvh_5_3 (h : -9223372036854775808 ≤ a ∧ a ≤ 9223372036854775807) : cvsV Tryz.prog 5 3 (.lit (.int i a)) σ F = F true (.lit (.int .i64 a)) := (cvsV_num (by kernel_rfl)).trans (cvtV_i64 (by kernel_rfl) (by kernel_rfl) h)
@[go_sem ↓] theorem vsy_5_3 : sbyV Tryz.prog 5 3 u σ kv = cvsV Tryz.prog 5 3 u σ fun τ u => kv τ u σ := sbyV_num (by kernel_rfl)
@[go_sem ↓ high] theorem vshr_u32_u64_8 {P : Program} {t : TypeId} : binV P .shr t (.lit (.int .u32 a)) (.lit (.int .u64 8)) F = F true (.lit (.int .u32 (a / 256))) := by rw [binV_shr_u32 (by decide)]; rfl
@[go_sem ↓] theorem vfa_157_2 : fadV Tryz.prog 157 (.ref o z i' off) 2 F = F true (.ref o z i' (off + 2)) := fadV_ref (x := 2) (ag := false) (m := 1) (by kernel_rfl)
@[go_sem ↓] theorem vld_157 : ldV Tryz.prog 157 u σ F = rdV u σ (some 3) F := ldV_of (by kernel_rfl)
@[go_sem ↓] theorem vfa_45_0 : fadV Tryz.prog 45 (.ref o z i' off) 0 F = F true (.ref o z i' off) := fadV_ref (x := 0) (ag := false) (m := 1) (by kernel_rfl)
@[go_sem ↓] theorem vfa_45_1 : fadV Tryz.prog 45 (.ref o z i' off) 1 F = F true (.ref o z i' (off + 1)) := fadV_ref (x := 1) (ag := false) (m := 1) (by kernel_rfl)
@[go_sem ↓] theorem vfa_45_2 : fadV Tryz.prog 45 (.ref o z i' off) 2 F = F true (.ref o z i' (off + 2)) := fadV_ref (x := 2) (ag := false) (m := 1) (by kernel_rfl)
@[go_sem ↓] theorem vld_4 : ldV Tryz.prog 4 u σ F = rdV u σ (none) F := ldV_of (by kernel_rfl)
@[go_sem ↓] theorem vbd_168 {ps : List (Nat × V)} : bldV Tryz.prog 168 ps F = allOne ([.int .i64 0, .int .i64 0, .bool false] : List Value) (fillK (plOf Tryz.prog 168) ps (([.int .i64 0, .int .i64 0, .bool false] : List Value).map V.lit) fun l => F true (.agg l)) := bldV_of (by kernel_rfl) (by kernel_rfl) (by kernel_rfl)
@[go_sem ↓] theorem vpl_168_0 {r : List (Nat × V)} {G : List V → Prop} : fillK (plOf Tryz.prog 168) ((0, u) :: r) us G = clK u fun c => lenK c 1 (wrK us 0 c fun l' => fillK (plOf Tryz.prog 168) r l' G) := fillK_step (by kernel_rfl)
@[go_sem ↓] theorem vpl_168_1 {r : List (Nat × V)} {G : List V → Prop} : fillK (plOf Tryz.prog 168) ((1, u) :: r) us G = clK u fun c => lenK c 1 (wrK us 1 c fun l' => fillK (plOf Tryz.prog 168) r l' G) := fillK_step (by kernel_rfl)
@[go_sem ↓] theorem vpl_168_2 {r : List (Nat × V)} {G : List V → Prop} : fillK (plOf Tryz.prog 168) ((2, u) :: r) us G = clK u fun c => lenK c 1 (wrK us 2 c fun l' => fillK (plOf Tryz.prog 168) r l' G) := fillK_step (by kernel_rfl)
@[go_sem ↓] theorem vst_168 : stV Tryz.prog 168 u v σ ks = clK v fun c => lenK c 3 (wrV u σ c ks) := stV_of (by kernel_rfl)
@[go_sem ↓] theorem val_168 : alcV Tryz.prog 168 σ kv = allOne ([.int .i64 0, .int .i64 0, .bool false] : List Value) (newO σ (.cells (([.int .i64 0, .int .i64 0, .bool false] : List Value).map V.lit)) fun o σ' => kv true (.ref o 0 0 0) σ') := alcV_of (by kernel_rfl)
@[go_sem ↓] theorem vld_154 : ldV Tryz.prog 154 u σ F = rdV u σ (some 2) F := ldV_of (by kernel_rfl)
@[go_sem ↓] theorem vfa_168_2 : fadV Tryz.prog 168 (.ref o z i' off) 2 F = F true (.ref o z i' (off + 2)) := fadV_ref (x := 2) (ag := false) (m := 1) (by kernel_rfl)
@[go_sem ↓] theorem vfa_168_1 : fadV Tryz.prog 168 (.ref o z i' off) 1 F = F true (.ref o z i' (off + 1)) := fadV_ref (x := 1) (ag := false) (m := 1) (by kernel_rfl)
@[go_sem ↓] theorem vfa_154_1 : fadV Tryz.prog 154 (.ref o z i' off) 1 F = F true (.ref o z i' (off + 1)) := fadV_ref (x := 1) (ag := false) (m := 1) (by kernel_rfl)
@[go_sem ↓] theorem vfa_168_0 : fadV Tryz.prog 168 (.ref o z i' off) 0 F = F true (.ref o z i' off) := fadV_ref (x := 0) (ag := false) (m := 1) (by kernel_rfl)
@[go_sem ↓] theorem vfa_154_0 : fadV Tryz.prog 154 (.ref o z i' off) 0 F = F true (.ref o z i' off) := fadV_ref (x := 0) (ag := false) (m := 1) (by kernel_rfl)
@[go_sem ↓] theorem vld_108 : ldV Tryz.prog 108 u σ F = rdV u σ (some 3) F := ldV_of (by kernel_rfl)
@[go_sem ↓] theorem vms_128 : mslV Tryz.prog 128 u v σ kv = mslU 2 16 [.int .u64 0, .int .i64 0] u v σ kv := mslV_of (et := 132) (by kernel_rfl) (by kernel_rfl) (by kernel_rfl)
@[go_sem ↓] theorem vmu_128 (h : 0 ≤ a ∧ a * 16 ≤ 140737488355328) : mslU 2 16 [.int .u64 0, .int .i64 0] (.lit (.int .i64 a)) (.lit (.int .i64 a)) σ kv = newO σ (.row 2 (zrow [.int .u64 0, .int .i64 0] a.toNat)) fun o σ' => kv true (.sl o 2 0 a.toNat) σ' := by
  rw [mslU_of (C := [.int .u64 0, .int .i64 0]) (z := 2) ⟨h.1, rfl, h.2, by omega, by decide⟩ rfl]
  simp [allOne, oneC]
@[go_sem ↓ high] theorem vmun_128 (h : m * 16 ≤ 140737488355328) : mslU 2 16 [.int .u64 0, .int .i64 0] (.lit (.int .i64 (m : Int))) (.lit (.int .i64 (m : Int))) σ kv = newO σ (.row 2 (zrow [.int .u64 0, .int .i64 0] m)) fun o σ' => kv true (.sl o 2 0 m) σ' := vmu_128 (by omega)
@[go_sem ↓] theorem vbd_130 {ps : List (Nat × V)} : bldV Tryz.prog 130 ps F = allOne ([.int .i64 0, .int .i64 0, .int .i64 0, .slice none 0 0, .int .i64 0] : List Value) (fillK (plOf Tryz.prog 130) ps (([.int .i64 0, .int .i64 0, .int .i64 0, .slice none 0 0, .int .i64 0] : List Value).map V.lit) fun l => F true (.agg l)) := bldV_of (by kernel_rfl) (by kernel_rfl) (by kernel_rfl)
@[go_sem ↓] theorem vpl_130_0 {r : List (Nat × V)} {G : List V → Prop} : fillK (plOf Tryz.prog 130) ((0, u) :: r) us G = clK u fun c => lenK c 3 (wrK us 0 c fun l' => fillK (plOf Tryz.prog 130) r l' G) := fillK_step (by kernel_rfl)
@[go_sem ↓] theorem vpl_130_1 {r : List (Nat × V)} {G : List V → Prop} : fillK (plOf Tryz.prog 130) ((1, u) :: r) us G = clK u fun c => lenK c 1 (wrK us 3 c fun l' => fillK (plOf Tryz.prog 130) r l' G) := fillK_step (by kernel_rfl)
@[go_sem ↓] theorem vfa_125_0 : fadV Tryz.prog 125 (.ref o z i' off) 0 F = F true (.ref o z i' off) := fadV_ref (x := 0) (ag := false) (m := 1) (by kernel_rfl)
@[go_sem ↓] theorem vld_33 : ldV Tryz.prog 33 u σ F = rdV u σ (none) F := ldV_of (by kernel_rfl)
@[go_sem ↓] theorem vfa_125_1 : fadV Tryz.prog 125 (.ref o z i' off) 1 F = F true (.ref o z i' (off + 1)) := fadV_ref (x := 1) (ag := false) (m := 1) (by kernel_rfl)
@[go_sem ↓ high] theorem vmk_u64_127 {P : Program} {t : TypeId} : binV P .and t (.lit (.int .u64 a)) (.lit (.int .u64 127)) F = F true (.lit (.int .u64 (a % 128))) := binV_mask 7 (by decide) (by decide) (by decide)
@[go_sem ↓] theorem vfa_105_2 : fadV Tryz.prog 105 (.ref o z i' off) 2 F = F true (.ref o z i' (off + 2)) := fadV_ref (x := 2) (ag := true) (m := 3) (by kernel_rfl)
@[go_sem ↓] theorem vld_43 : ldV Tryz.prog 43 u σ F = rdV u σ (some 3) F := ldV_of (by kernel_rfl)
@[go_sem ↓] theorem vfa_105_0 : fadV Tryz.prog 105 (.ref o z i' off) 0 F = F true (.ref o z i' off) := fadV_ref (x := 0) (ag := false) (m := 1) (by kernel_rfl)
@[go_sem ↓] theorem vfa_105_1 : fadV Tryz.prog 105 (.ref o z i' off) 1 F = F true (.ref o z i' (off + 1)) := fadV_ref (x := 1) (ag := false) (m := 1) (by kernel_rfl)
@[go_sem ↓] theorem vld_102 : ldV Tryz.prog 102 u σ F = rdV u σ (some 3) F := ldV_of (by kernel_rfl)
@[go_sem ↓] theorem vms_115 : mslV Tryz.prog 115 u v σ kv = mslU 2 16 [.int .i64 0, .int .i64 0] u v σ kv := mslV_of (et := 119) (by kernel_rfl) (by kernel_rfl) (by kernel_rfl)
@[go_sem ↓] theorem vmu_115 (h : 0 ≤ a ∧ a * 16 ≤ 140737488355328) : mslU 2 16 [.int .i64 0, .int .i64 0] (.lit (.int .i64 a)) (.lit (.int .i64 a)) σ kv = newO σ (.row 2 (zrow [.int .i64 0, .int .i64 0] a.toNat)) fun o σ' => kv true (.sl o 2 0 a.toNat) σ' := by
  rw [mslU_of (C := [.int .i64 0, .int .i64 0]) (z := 2) ⟨h.1, rfl, h.2, by omega, by decide⟩ rfl]
  simp [allOne, oneC]
@[go_sem ↓ high] theorem vmun_115 (h : m * 16 ≤ 140737488355328) : mslU 2 16 [.int .i64 0, .int .i64 0] (.lit (.int .i64 (m : Int))) (.lit (.int .i64 (m : Int))) σ kv = newO σ (.row 2 (zrow [.int .i64 0, .int .i64 0] m)) fun o σ' => kv true (.sl o 2 0 m) σ' := vmu_115 (by omega)
@[go_sem ↓] theorem vbd_117 {ps : List (Nat × V)} : bldV Tryz.prog 117 ps F = allOne ([.int .i64 0, .int .i64 0, .int .i64 0, .slice none 0 0, .int .i64 0, .bool false] : List Value) (fillK (plOf Tryz.prog 117) ps (([.int .i64 0, .int .i64 0, .int .i64 0, .slice none 0 0, .int .i64 0, .bool false] : List Value).map V.lit) fun l => F true (.agg l)) := bldV_of (by kernel_rfl) (by kernel_rfl) (by kernel_rfl)
@[go_sem ↓] theorem vpl_117_0 {r : List (Nat × V)} {G : List V → Prop} : fillK (plOf Tryz.prog 117) ((0, u) :: r) us G = clK u fun c => lenK c 3 (wrK us 0 c fun l' => fillK (plOf Tryz.prog 117) r l' G) := fillK_step (by kernel_rfl)
@[go_sem ↓] theorem vpl_117_1 {r : List (Nat × V)} {G : List V → Prop} : fillK (plOf Tryz.prog 117) ((1, u) :: r) us G = clK u fun c => lenK c 1 (wrK us 3 c fun l' => fillK (plOf Tryz.prog 117) r l' G) := fillK_step (by kernel_rfl)
@[go_sem ↓] theorem vpl_117_2 {r : List (Nat × V)} {G : List V → Prop} : fillK (plOf Tryz.prog 117) ((2, u) :: r) us G = clK u fun c => lenK c 1 (wrK us 4 c fun l' => fillK (plOf Tryz.prog 117) r l' G) := fillK_step (by kernel_rfl)
@[go_sem ↓ high] theorem vcth_3_93 (h : 0 ≤ a ∧ a ≤ 18446744073709551615) : cvtV Tryz.prog 3 93 (.lit (.int i a)) F = F true (.lit (.int .u64 a)) := cvtV_u64 (by kernel_rfl) (by kernel_rfl) h
@[go_sem ↓ high] theorem vcvh_3_93 (h : 0 ≤ a ∧ a ≤ 18446744073709551615) : cvsV Tryz.prog 3 93 (.lit (.int i a)) σ F = F true (.lit (.int .u64 a)) := (cvsV_num (by kernel_rfl)).trans (cvtV_u64 (by kernel_rfl) (by kernel_rfl) h)
@[go_sem ↓] theorem vsy_3_93 : sbyV Tryz.prog 3 93 u σ kv = cvsV Tryz.prog 3 93 u σ fun τ u => kv τ u σ := sbyV_num (by kernel_rfl)
@[go_sem ↓] theorem vieq_174 : binW Tryz.prog .eql 174 (.const .nilIface) (.lit .nilIface) (.lit .nilIface) F = F true (.lit (.bool true)) := binW_eq0 (by kernel_rfl)
@[go_sem ↓] theorem vjeq_174 {s : TypeId} {b : Value} : binW Tryz.prog .eql 174 (.const .nilIface) (.lit (.iface s b)) (.lit .nilIface) F = F true (.lit (.bool false)) := binW_eqn (by kernel_rfl)
@[go_sem ↓] theorem vfa_43_0 : fadV Tryz.prog 43 (.ref o z i' off) 0 F = F true (.ref o z i' off) := fadV_ref (x := 0) (ag := false) (m := 1) (by kernel_rfl)
@[go_sem ↓] theorem vfa_43_1 : fadV Tryz.prog 43 (.ref o z i' off) 1 F = F true (.ref o z i' (off + 1)) := fadV_ref (x := 1) (ag := false) (m := 1) (by kernel_rfl)
@[go_sem ↓] theorem vfa_43_2 : fadV Tryz.prog 43 (.ref o z i' off) 2 F = F true (.ref o z i' (off + 2)) := fadV_ref (x := 2) (ag := false) (m := 1) (by kernel_rfl)
@[go_sem ↓] theorem vbd_157 {ps : List (Nat × V)} : bldV Tryz.prog 157 ps F = allOne ([.int .i64 0, .int .i64 0, .int .i64 0] : List Value) (fillK (plOf Tryz.prog 157) ps (([.int .i64 0, .int .i64 0, .int .i64 0] : List Value).map V.lit) fun l => F true (.agg l)) := bldV_of (by kernel_rfl) (by kernel_rfl) (by kernel_rfl)
@[go_sem ↓] theorem vpl_157_0 {r : List (Nat × V)} {G : List V → Prop} : fillK (plOf Tryz.prog 157) ((0, u) :: r) us G = clK u fun c => lenK c 1 (wrK us 0 c fun l' => fillK (plOf Tryz.prog 157) r l' G) := fillK_step (by kernel_rfl)
@[go_sem ↓] theorem vpl_157_1 {r : List (Nat × V)} {G : List V → Prop} : fillK (plOf Tryz.prog 157) ((1, u) :: r) us G = clK u fun c => lenK c 1 (wrK us 1 c fun l' => fillK (plOf Tryz.prog 157) r l' G) := fillK_step (by kernel_rfl)
@[go_sem ↓] theorem vpl_157_2 {r : List (Nat × V)} {G : List V → Prop} : fillK (plOf Tryz.prog 157) ((2, u) :: r) us G = clK u fun c => lenK c 1 (wrK us 2 c fun l' => fillK (plOf Tryz.prog 157) r l' G) := fillK_step (by kernel_rfl)
@[go_sem ↓] theorem vst_157 : stV Tryz.prog 157 u v σ ks = clK v fun c => lenK c 3 (wrV u σ c ks) := stV_of (by kernel_rfl)
@[go_sem ↓] theorem val_157 : alcV Tryz.prog 157 σ kv = allOne ([.int .i64 0, .int .i64 0, .int .i64 0] : List Value) (newO σ (.cells (([.int .i64 0, .int .i64 0, .int .i64 0] : List Value).map V.lit)) fun o σ' => kv true (.ref o 0 0 0) σ') := alcV_of (by kernel_rfl)
@[go_sem ↓] theorem vbd_154 {ps : List (Nat × V)} : bldV Tryz.prog 154 ps F = allOne ([.int .i64 0, .int .i64 0] : List Value) (fillK (plOf Tryz.prog 154) ps (([.int .i64 0, .int .i64 0] : List Value).map V.lit) fun l => F true (.agg l)) := bldV_of (by kernel_rfl) (by kernel_rfl) (by kernel_rfl)
@[go_sem ↓] theorem vpl_154_0 {r : List (Nat × V)} {G : List V → Prop} : fillK (plOf Tryz.prog 154) ((0, u) :: r) us G = clK u fun c => lenK c 1 (wrK us 0 c fun l' => fillK (plOf Tryz.prog 154) r l' G) := fillK_step (by kernel_rfl)
@[go_sem ↓] theorem vpl_154_1 {r : List (Nat × V)} {G : List V → Prop} : fillK (plOf Tryz.prog 154) ((1, u) :: r) us G = clK u fun c => lenK c 1 (wrK us 1 c fun l' => fillK (plOf Tryz.prog 154) r l' G) := fillK_step (by kernel_rfl)
@[go_sem ↓] theorem vst_154 : stV Tryz.prog 154 u v σ ks = clK v fun c => lenK c 2 (wrV u σ c ks) := stV_of (by kernel_rfl)
@[go_sem ↓] theorem val_154 : alcV Tryz.prog 154 σ kv = allOne ([.int .i64 0, .int .i64 0] : List Value) (newO σ (.cells (([.int .i64 0, .int .i64 0] : List Value).map V.lit)) fun o σ' => kv true (.ref o 0 0 0) σ') := alcV_of (by kernel_rfl)
@[go_sem ↓] theorem vld_64 : ldV Tryz.prog 64 u σ F = rdV u σ (none) F := ldV_of (by kernel_rfl)
@[go_sem ↓] theorem vix_36 (h : 0 ≤ a ∧ a < len) : idxV Tryz.prog 36 (.sl o 1 off len) (.lit (.int i a)) F = F true (.ref o 1 (off + a.toNat) 0) := idxV_sl (et := 5) (by kernel_rfl) h
@[go_sem ↓] theorem vixr_36 (h : 0 ≤ a ∧ a < l.length) : idxV Tryz.prog 36 (.row 1 l) (.lit (.int i a)) F = F true (.rref 1 l a.toNat 0) := idxV_row (et := 5) (by kernel_rfl) (by decide) h
@[go_sem ↓ high] theorem vixrn_36 (h : m < l.length) : idxV Tryz.prog 36 (.row 1 l) (.lit (.int i (m : Int))) F = F true (.rref 1 l m 0) := idxV_rown (et := 5) (by kernel_rfl) (by decide) h
@[go_sem ↓ high] theorem vixm_36 (h : 0 ≤ a ∧ a < L.length) : idxV Tryz.prog 36 (.row 1 (L.map f)) (.lit (.int i a)) F = F true (.rref 1 (L.map f) a.toNat 0) := idxV_rowm (et := 5) (by kernel_rfl) (by decide) h
@[go_sem ↓] theorem vld_5 : ldV Tryz.prog 5 u σ F = rdV u σ (none) F := ldV_of (by kernel_rfl)
@[go_sem ↓] theorem vln_36 : bltV Tryz.prog e .len [36] [.row m l] σ kv = lenV (.row m l) fun τ v => kv τ v σ := lenB_row (by kernel_rfl)
@[go_sem ↓] theorem vlns_36 : bltV Tryz.prog e .len [36] [.sl o m off len] σ kv = lenV (.sl o m off len) fun τ v => kv τ v σ := lenB_sl (by kernel_rfl)
@[go_sem ↓] theorem vfa_114_2 : fadV Tryz.prog 114 (.ref o z i' off) 2 F = F true (.ref o z i' (off + 2)) := fadV_ref (x := 2) (ag := false) (m := 1) (by kernel_rfl)
@[go_sem ↓] theorem vfr_114_2 : fadV Tryz.prog 114 (.rref z l i' off) 2 F = F true (.rref z l i' (off + 2)) := fadV_rref (x := 2) (ag := false) (m := 1) (by kernel_rfl)
@[go_sem ↓] theorem vld_45 : ldV Tryz.prog 45 u σ F = rdV u σ (some 3) F := ldV_of (by kernel_rfl)
@[go_sem ↓] theorem vfa_130_1 : fadV Tryz.prog 130 (.ref o z i' off) 1 F = F true (.ref o z i' (off + 3)) := fadV_ref (x := 3) (ag := false) (m := 1) (by kernel_rfl)
@[go_sem ↓] theorem vfr_130_1 : fadV Tryz.prog 130 (.rref z l i' off) 1 F = F true (.rref z l i' (off + 3)) := fadV_rref (x := 3) (ag := false) (m := 1) (by kernel_rfl)
@[go_sem ↓] theorem vld_128 : ldV Tryz.prog 128 u σ F = rdV u σ (none) F := ldV_of (by kernel_rfl)
@[go_sem ↓] theorem vcv_33_3 : cvsV Tryz.prog 33 3 (.lit (.int i a)) σ F = F true (.lit (.int .i64 (IntKind.wrap .i64 a))) := (cvsV_num (by kernel_rfl)).trans (cvtV_of (by kernel_rfl) (by kernel_rfl))
@[go_sem ↓ high] theorem vcvh_33_3 (h : -9223372036854775808 ≤ a ∧ a ≤ 9223372036854775807) : cvsV Tryz.prog 33 3 (.lit (.int i a)) σ F = F true (.lit (.int .i64 a)) := (cvsV_num (by kernel_rfl)).trans (cvtV_i64 (by kernel_rfl) (by kernel_rfl) h)
@[go_sem ↓] theorem vsy_33_3 : sbyV Tryz.prog 33 3 u σ kv = cvsV Tryz.prog 33 3 u σ fun τ u => kv τ u σ := sbyV_num (by kernel_rfl)
@[go_sem ↓] theorem vbd_132 {ps : List (Nat × V)} : bldV Tryz.prog 132 ps F = allOne ([.int .u64 0, .int .i64 0] : List Value) (fillK (plOf Tryz.prog 132) ps (([.int .u64 0, .int .i64 0] : List Value).map V.lit) fun l => F true (.agg l)) := bldV_of (by kernel_rfl) (by kernel_rfl) (by kernel_rfl)
@[go_sem ↓] theorem vpl_132_0 {r : List (Nat × V)} {G : List V → Prop} : fillK (plOf Tryz.prog 132) ((0, u) :: r) us G = clK u fun c => lenK c 1 (wrK us 0 c fun l' => fillK (plOf Tryz.prog 132) r l' G) := fillK_step (by kernel_rfl)
@[go_sem ↓] theorem vpl_132_1 {r : List (Nat × V)} {G : List V → Prop} : fillK (plOf Tryz.prog 132) ((1, u) :: r) us G = clK u fun c => lenK c 1 (wrK us 1 c fun l' => fillK (plOf Tryz.prog 132) r l' G) := fillK_step (by kernel_rfl)
@[go_sem ↓ high] theorem vixn_128 (h : m < len) : idxV Tryz.prog 128 (.sl o 2 off len) (.lit (.int i (m : Int))) F = F true (.ref o 2 (off + m) 0) := idxV_sln (et := 132) (by kernel_rfl) h
@[go_sem ↓ high] theorem vixrn_128 (h : m < l.length) : idxV Tryz.prog 128 (.row 2 l) (.lit (.int i (m : Int))) F = F true (.rref 2 l m 0) := idxV_rown (et := 132) (by kernel_rfl) (by decide) h
@[go_sem ↓] theorem vst_132 : stV Tryz.prog 132 u v σ ks = clK v fun c => lenK c 2 (wrV u σ c ks) := stV_of (by kernel_rfl)
@[go_sem ↓] theorem vln_128 : bltV Tryz.prog e .len [128] [.row m l] σ kv = lenV (.row m l) fun τ v => kv τ v σ := lenB_row (by kernel_rfl)
@[go_sem ↓] theorem vlns_128 : bltV Tryz.prog e .len [128] [.sl o m off len] σ kv = lenV (.sl o m off len) fun τ v => kv τ v σ := lenB_sl (by kernel_rfl)
@[go_sem ↓] theorem vfa_130_2 : fadV Tryz.prog 130 (.ref o z i' off) 2 F = F true (.ref o z i' (off + 4)) := fadV_ref (x := 4) (ag := false) (m := 1) (by kernel_rfl)
@[go_sem ↓] theorem vfr_130_2 : fadV Tryz.prog 130 (.rref z l i' off) 2 F = F true (.rref z l i' (off + 4)) := fadV_rref (x := 4) (ag := false) (m := 1) (by kernel_rfl)
@[go_sem ↓] theorem vst_3 : stV Tryz.prog 3 u v σ ks = clK v fun c => lenK c 1 (wrV u σ c ks) := stV_of (by kernel_rfl)
@[go_sem ↓] theorem vfa_123_1 : fadV Tryz.prog 123 (.ref o z i' off) 1 F = F true (.ref o z i' (off + 5)) := fadV_ref (x := 5) (ag := false) (m := 1) (by kernel_rfl)
@[go_sem ↓] theorem vfr_123_1 : fadV Tryz.prog 123 (.rref z l i' off) 1 F = F true (.rref z l i' (off + 5)) := fadV_rref (x := 5) (ag := false) (m := 1) (by kernel_rfl)
@[go_sem ↓] theorem vld_121 : ldV Tryz.prog 121 u σ F = rdV u σ (none) F := ldV_of (by kernel_rfl)
@[go_sem ↓] theorem vld_125 : ldV Tryz.prog 125 u σ F = rdV u σ (some 2) F := ldV_of (by kernel_rfl)
@[go_sem ↓] theorem vbd_127 {ps : List (Nat × V)} : bldV Tryz.prog 127 ps F = allOne ([.int .u64 0, .int .u64 0, .pointer none] : List Value) (fillK (plOf Tryz.prog 127) ps (([.int .u64 0, .int .u64 0, .pointer none] : List Value).map V.lit) fun l => F true (.agg l)) := bldV_of (by kernel_rfl) (by kernel_rfl) (by kernel_rfl)
@[go_sem ↓] theorem vpl_127_0 {r : List (Nat × V)} {G : List V → Prop} : fillK (plOf Tryz.prog 127) ((0, u) :: r) us G = clK u fun c => lenK c 2 (wrK us 0 c fun l' => fillK (plOf Tryz.prog 127) r l' G) := fillK_step (by kernel_rfl)
@[go_sem ↓] theorem vpl_127_1 {r : List (Nat × V)} {G : List V → Prop} : fillK (plOf Tryz.prog 127) ((1, u) :: r) us G = clK u fun c => lenK c 1 (wrK us 2 c fun l' => fillK (plOf Tryz.prog 127) r l' G) := fillK_step (by kernel_rfl)
@[go_sem ↓] theorem vbs_121_1 {ps : List (Nat × V)} : bslV Tryz.prog 121 1 ps σ kv = prtK 3 0 ps fun l => lenK l 1 (newO σ (.row 3 l) fun o σ' => kv true (.sl o 3 0 1) σ') := bslV_of (et := 127) (by kernel_rfl) ⟨by kernel_rfl, by decide, by decide⟩
@[go_sem ↓] theorem vap_121_121 : apdV Tryz.prog e 121 121 u v σ kv = rowK v σ 3 fun m => apdU e 3 24 u m σ kv := apdV_of (et := 127) (ex := 127) (C := [.int .u64 0, .int .u64 0, .pointer none]) (by kernel_rfl) (by kernel_rfl) (by kernel_rfl) (by kernel_rfl) (by decide) rfl
@[go_sem ↓] theorem vst_121 : stV Tryz.prog 121 u v σ ks = clK v fun c => lenK c 1 (wrV u σ c ks) := stV_of (by kernel_rfl)
@[go_sem ↓] theorem vst_33 : stV Tryz.prog 33 u v σ ks = clK v fun c => lenK c 1 (wrV u σ c ks) := stV_of (by kernel_rfl)
@[go_sem ↓ high] theorem vivn_164 (h : m < 2) (hl : us.length = 2) : ixvV Tryz.prog 164 (.agg us) (.lit (.int i (m : Int))) F = atK us m fun x => F true x := ixvV_n (et := 163) (by kernel_rfl) (by kernel_rfl) hl h
@[go_sem ↓] theorem vbd_164 {ps : List (Nat × V)} : bldV Tryz.prog 164 ps F = allOne ([.pointer none, .pointer none] : List Value) (fillK (plOf Tryz.prog 164) ps (([.pointer none, .pointer none] : List Value).map V.lit) fun l => F true (.agg l)) := bldV_of (by kernel_rfl) (by kernel_rfl) (by kernel_rfl)
@[go_sem ↓] theorem vpl_164_0 {r : List (Nat × V)} {G : List V → Prop} : fillK (plOf Tryz.prog 164) ((0, u) :: r) us G = clK u fun c => lenK c 1 (wrK us 0 c fun l' => fillK (plOf Tryz.prog 164) r l' G) := fillK_step (by kernel_rfl)
@[go_sem ↓] theorem vpl_164_1 {r : List (Nat × V)} {G : List V → Prop} : fillK (plOf Tryz.prog 164) ((1, u) :: r) us G = clK u fun c => lenK c 1 (wrK us 1 c fun l' => fillK (plOf Tryz.prog 164) r l' G) := fillK_step (by kernel_rfl)
@[go_sem ↓] theorem val_125 : alcV Tryz.prog 125 σ kv = allOne ([.int .u64 0, .int .u64 0] : List Value) (newO σ (.cells (([.int .u64 0, .int .u64 0] : List Value).map V.lit)) fun o σ' => kv true (.ref o 0 0 0) σ') := alcV_of (by kernel_rfl)
@[go_sem ↓] theorem vld_105 : ldV Tryz.prog 105 u σ F = rdV u σ (some 5) F := ldV_of (by kernel_rfl)
@[go_sem ↓] theorem vbd_123 {ps : List (Nat × V)} : bldV Tryz.prog 123 ps F = allOne ([.int .i64 0, .int .i64 0, .int .i64 0, .int .i64 0, .int .i64 0, .slice none 0 0, .int .i64 0] : List Value) (fillK (plOf Tryz.prog 123) ps (([.int .i64 0, .int .i64 0, .int .i64 0, .int .i64 0, .int .i64 0, .slice none 0 0, .int .i64 0] : List Value).map V.lit) fun l => F true (.agg l)) := bldV_of (by kernel_rfl) (by kernel_rfl) (by kernel_rfl)
@[go_sem ↓] theorem vpl_123_0 {r : List (Nat × V)} {G : List V → Prop} : fillK (plOf Tryz.prog 123) ((0, u) :: r) us G = clK u fun c => lenK c 5 (wrK us 0 c fun l' => fillK (plOf Tryz.prog 123) r l' G) := fillK_step (by kernel_rfl)
@[go_sem ↓] theorem vpl_123_2 {r : List (Nat × V)} {G : List V → Prop} : fillK (plOf Tryz.prog 123) ((2, u) :: r) us G = clK u fun c => lenK c 1 (wrK us 6 c fun l' => fillK (plOf Tryz.prog 123) r l' G) := fillK_step (by kernel_rfl)
@[go_sem ↓] theorem vfa_117_1 : fadV Tryz.prog 117 (.ref o z i' off) 1 F = F true (.ref o z i' (off + 3)) := fadV_ref (x := 3) (ag := false) (m := 1) (by kernel_rfl)
@[go_sem ↓] theorem vfr_117_1 : fadV Tryz.prog 117 (.rref z l i' off) 1 F = F true (.rref z l i' (off + 3)) := fadV_rref (x := 3) (ag := false) (m := 1) (by kernel_rfl)
@[go_sem ↓] theorem vld_115 : ldV Tryz.prog 115 u σ F = rdV u σ (none) F := ldV_of (by kernel_rfl)
@[go_sem ↓] theorem vbd_119 {ps : List (Nat × V)} : bldV Tryz.prog 119 ps F = allOne ([.int .i64 0, .int .i64 0] : List Value) (fillK (plOf Tryz.prog 119) ps (([.int .i64 0, .int .i64 0] : List Value).map V.lit) fun l => F true (.agg l)) := bldV_of (by kernel_rfl) (by kernel_rfl) (by kernel_rfl)
@[go_sem ↓] theorem vpl_119_0 {r : List (Nat × V)} {G : List V → Prop} : fillK (plOf Tryz.prog 119) ((0, u) :: r) us G = clK u fun c => lenK c 1 (wrK us 0 c fun l' => fillK (plOf Tryz.prog 119) r l' G) := fillK_step (by kernel_rfl)
@[go_sem ↓] theorem vpl_119_1 {r : List (Nat × V)} {G : List V → Prop} : fillK (plOf Tryz.prog 119) ((1, u) :: r) us G = clK u fun c => lenK c 1 (wrK us 1 c fun l' => fillK (plOf Tryz.prog 119) r l' G) := fillK_step (by kernel_rfl)
@[go_sem ↓ high] theorem vixn_115 (h : m < len) : idxV Tryz.prog 115 (.sl o 2 off len) (.lit (.int i (m : Int))) F = F true (.ref o 2 (off + m) 0) := idxV_sln (et := 119) (by kernel_rfl) h
@[go_sem ↓ high] theorem vixrn_115 (h : m < l.length) : idxV Tryz.prog 115 (.row 2 l) (.lit (.int i (m : Int))) F = F true (.rref 2 l m 0) := idxV_rown (et := 119) (by kernel_rfl) (by decide) h
@[go_sem ↓] theorem vst_119 : stV Tryz.prog 119 u v σ ks = clK v fun c => lenK c 2 (wrV u σ c ks) := stV_of (by kernel_rfl)
@[go_sem ↓] theorem vln_115 : bltV Tryz.prog e .len [115] [.row m l] σ kv = lenV (.row m l) fun τ v => kv τ v σ := lenB_row (by kernel_rfl)
@[go_sem ↓] theorem vlns_115 : bltV Tryz.prog e .len [115] [.sl o m off len] σ kv = lenV (.sl o m off len) fun τ v => kv τ v σ := lenB_sl (by kernel_rfl)
@[go_sem ↓] theorem vfa_117_2 : fadV Tryz.prog 117 (.ref o z i' off) 2 F = F true (.ref o z i' (off + 4)) := fadV_ref (x := 4) (ag := false) (m := 1) (by kernel_rfl)
@[go_sem ↓] theorem vfr_117_2 : fadV Tryz.prog 117 (.rref z l i' off) 2 F = F true (.rref z l i' (off + 4)) := fadV_rref (x := 4) (ag := false) (m := 1) (by kernel_rfl)
@[go_sem ↓] theorem vfa_117_3 : fadV Tryz.prog 117 (.ref o z i' off) 3 F = F true (.ref o z i' (off + 5)) := fadV_ref (x := 5) (ag := false) (m := 1) (by kernel_rfl)
@[go_sem ↓] theorem vfr_117_3 : fadV Tryz.prog 117 (.rref z l i' off) 3 F = F true (.rref z l i' (off + 5)) := fadV_rref (x := 5) (ag := false) (m := 1) (by kernel_rfl)
@[go_sem ↓] theorem vst_4 : stV Tryz.prog 4 u v σ ks = clK v fun c => lenK c 1 (wrV u σ c ks) := stV_of (by kernel_rfl)
@[go_sem ↓] theorem vfa_89_1 : fadV Tryz.prog 89 (.ref o z i' off) 1 F = F true (.ref o z i' (off + 1)) := fadV_ref (x := 1) (ag := false) (m := 1) (by kernel_rfl)
@[go_sem ↓] theorem vst_40 : stV Tryz.prog 40 u v σ ks = clK v fun c => lenK c 1 (wrV u σ c ks) := stV_of (by kernel_rfl)
@[go_sem ↓] theorem vfa_89_0 : fadV Tryz.prog 89 (.ref o z i' off) 0 F = F true (.ref o z i' off) := fadV_ref (x := 0) (ag := false) (m := 1) (by kernel_rfl)
@[go_sem ↓] theorem vld_86 : ldV Tryz.prog 86 u σ F = rdV u σ (none) F := ldV_of (by kernel_rfl)
@[go_sem ↓] theorem vld_40 : ldV Tryz.prog 40 u σ F = rdV u σ (none) F := ldV_of (by kernel_rfl)
@[go_sem ↓] theorem val_45 : alcV Tryz.prog 45 σ kv = allOne ([.int .i64 0, .int .i64 0, .bool false] : List Value) (newO σ (.cells (([.int .i64 0, .int .i64 0, .bool false] : List Value).map V.lit)) fun o σ' => kv true (.ref o 0 0 0) σ') := alcV_of (by kernel_rfl)
@[go_sem ↓] theorem vst_45 : stV Tryz.prog 45 u v σ ks = clK v fun c => lenK c 3 (wrV u σ c ks) := stV_of (by kernel_rfl)
@[go_sem ↓] theorem vbd_45 {ps : List (Nat × V)} : bldV Tryz.prog 45 ps F = allOne ([.int .i64 0, .int .i64 0, .bool false] : List Value) (fillK (plOf Tryz.prog 45) ps (([.int .i64 0, .int .i64 0, .bool false] : List Value).map V.lit) fun l => F true (.agg l)) := bldV_of (by kernel_rfl) (by kernel_rfl) (by kernel_rfl)
@[go_sem ↓] theorem vpl_45_0 {r : List (Nat × V)} {G : List V → Prop} : fillK (plOf Tryz.prog 45) ((0, u) :: r) us G = clK u fun c => lenK c 1 (wrK us 0 c fun l' => fillK (plOf Tryz.prog 45) r l' G) := fillK_step (by kernel_rfl)
@[go_sem ↓] theorem vpl_45_1 {r : List (Nat × V)} {G : List V → Prop} : fillK (plOf Tryz.prog 45) ((1, u) :: r) us G = clK u fun c => lenK c 1 (wrK us 1 c fun l' => fillK (plOf Tryz.prog 45) r l' G) := fillK_step (by kernel_rfl)
@[go_sem ↓] theorem vpl_45_2 {r : List (Nat × V)} {G : List V → Prop} : fillK (plOf Tryz.prog 45) ((2, u) :: r) us G = clK u fun c => lenK c 1 (wrK us 2 c fun l' => fillK (plOf Tryz.prog 45) r l' G) := fillK_step (by kernel_rfl)
@[go_sem ↓] theorem vbd_43 {ps : List (Nat × V)} : bldV Tryz.prog 43 ps F = allOne ([.int .i64 0, .int .i64 0, .int .i64 0] : List Value) (fillK (plOf Tryz.prog 43) ps (([.int .i64 0, .int .i64 0, .int .i64 0] : List Value).map V.lit) fun l => F true (.agg l)) := bldV_of (by kernel_rfl) (by kernel_rfl) (by kernel_rfl)
@[go_sem ↓] theorem vpl_43_0 {r : List (Nat × V)} {G : List V → Prop} : fillK (plOf Tryz.prog 43) ((0, u) :: r) us G = clK u fun c => lenK c 1 (wrK us 0 c fun l' => fillK (plOf Tryz.prog 43) r l' G) := fillK_step (by kernel_rfl)
@[go_sem ↓] theorem vpl_43_1 {r : List (Nat × V)} {G : List V → Prop} : fillK (plOf Tryz.prog 43) ((1, u) :: r) us G = clK u fun c => lenK c 1 (wrK us 1 c fun l' => fillK (plOf Tryz.prog 43) r l' G) := fillK_step (by kernel_rfl)
@[go_sem ↓] theorem vpl_43_2 {r : List (Nat × V)} {G : List V → Prop} : fillK (plOf Tryz.prog 43) ((2, u) :: r) us G = clK u fun c => lenK c 1 (wrK us 2 c fun l' => fillK (plOf Tryz.prog 43) r l' G) := fillK_step (by kernel_rfl)
@[go_sem ↓] theorem vst_43 : stV Tryz.prog 43 u v σ ks = clK v fun c => lenK c 3 (wrV u σ c ks) := stV_of (by kernel_rfl)
@[go_sem ↓] theorem val_43 : alcV Tryz.prog 43 σ kv = allOne ([.int .i64 0, .int .i64 0, .int .i64 0] : List Value) (newO σ (.cells (([.int .i64 0, .int .i64 0, .int .i64 0] : List Value).map V.lit)) fun o σ' => kv true (.ref o 0 0 0) σ') := alcV_of (by kernel_rfl)
@[go_sem ↓ high] theorem vcvh_5_33 (h : 0 ≤ a ∧ a ≤ 18446744073709551615) : cvsV Tryz.prog 5 33 (.lit (.int i a)) σ F = F true (.lit (.int .u64 a)) := (cvsV_num (by kernel_rfl)).trans (cvtV_u64 (by kernel_rfl) (by kernel_rfl) h)
@[go_sem ↓] theorem vsy_5_33 : sbyV Tryz.prog 5 33 u σ kv = cvsV Tryz.prog 5 33 u σ fun τ u => kv τ u σ := sbyV_num (by kernel_rfl)
@[go_sem ↓] theorem vfa_138_1 : fadV Tryz.prog 138 (.ref o z i' off) 1 F = F true (.ref o z i' (off + 1)) := fadV_ref (x := 1) (ag := false) (m := 1) (by kernel_rfl)
@[go_sem ↓] theorem vfr_138_1 : fadV Tryz.prog 138 (.rref z l i' off) 1 F = F true (.rref z l i' (off + 1)) := fadV_rref (x := 1) (ag := false) (m := 1) (by kernel_rfl)
@[go_sem ↓] theorem vfa_138_0 : fadV Tryz.prog 138 (.ref o z i' off) 0 F = F true (.ref o z i' off) := fadV_ref (x := 0) (ag := false) (m := 1) (by kernel_rfl)
@[go_sem ↓] theorem vfr_138_0 : fadV Tryz.prog 138 (.rref z l i' off) 0 F = F true (.rref z l i' off) := fadV_rref (x := 0) (ag := false) (m := 1) (by kernel_rfl)
@[go_sem ↓] theorem vld_36 : ldV Tryz.prog 36 u σ F = rdV u σ (none) F := ldV_of (by kernel_rfl)
@[go_sem ↓ high] theorem vmk_u8_1 {P : Program} {t : TypeId} : binV P .and t (.lit (.int .u8 a)) (.lit (.int .u8 1)) F = F true (.lit (.int .u8 (a % 2))) := binV_mask 1 (by decide) (by decide) (by decide)
@[go_sem ↓] theorem vfa_114_0 : fadV Tryz.prog 114 (.ref o z i' off) 0 F = F true (.ref o z i' off) := fadV_ref (x := 0) (ag := false) (m := 1) (by kernel_rfl)
@[go_sem ↓] theorem vfr_114_0 : fadV Tryz.prog 114 (.rref z l i' off) 0 F = F true (.rref z l i' off) := fadV_rref (x := 0) (ag := false) (m := 1) (by kernel_rfl)
@[go_sem ↓] theorem vld_112 : ldV Tryz.prog 112 u σ F = rdV u σ (none) F := ldV_of (by kernel_rfl)
@[go_sem ↓] theorem vix_112 (h : 0 ≤ a ∧ a < len) : idxV Tryz.prog 112 (.sl o 1 off len) (.lit (.int i a)) F = F true (.ref o 1 (off + a.toNat) 0) := idxV_sl (et := 33) (by kernel_rfl) h
@[go_sem ↓ high] theorem vixn_112 (h : m < len) : idxV Tryz.prog 112 (.sl o 1 off len) (.lit (.int i (m : Int))) F = F true (.ref o 1 (off + m) 0) := idxV_sln (et := 33) (by kernel_rfl) h
@[go_sem ↓ high] theorem vixrn_112 (h : m < l.length) : idxV Tryz.prog 112 (.row 1 l) (.lit (.int i (m : Int))) F = F true (.rref 1 l m 0) := idxV_rown (et := 33) (by kernel_rfl) (by decide) h
@[go_sem ↓ high] theorem vixm_112 (h : 0 ≤ a ∧ a < L.length) : idxV Tryz.prog 112 (.row 1 (L.map f)) (.lit (.int i a)) F = F true (.rref 1 (L.map f) a.toNat 0) := idxV_rowm (et := 33) (by kernel_rfl) (by decide) h
@[go_sem ↓] theorem vfa_114_1 : fadV Tryz.prog 114 (.ref o z i' off) 1 F = F true (.ref o z i' (off + 1)) := fadV_ref (x := 1) (ag := false) (m := 1) (by kernel_rfl)
@[go_sem ↓] theorem vfr_114_1 : fadV Tryz.prog 114 (.rref z l i' off) 1 F = F true (.rref z l i' (off + 1)) := fadV_rref (x := 1) (ag := false) (m := 1) (by kernel_rfl)
@[go_sem ↓] theorem vms_112 : mslV Tryz.prog 112 u v σ kv = mslU 1 8 [.int .u64 0] u v σ kv := mslV_of (et := 33) (by kernel_rfl) (by kernel_rfl) (by kernel_rfl)
@[go_sem ↓] theorem vbd_114 {ps : List (Nat × V)} : bldV Tryz.prog 114 ps F = allOne ([.slice none 0 0, .int .i64 0, .int .i64 0] : List Value) (fillK (plOf Tryz.prog 114) ps (([.slice none 0 0, .int .i64 0, .int .i64 0] : List Value).map V.lit) fun l => F true (.agg l)) := bldV_of (by kernel_rfl) (by kernel_rfl) (by kernel_rfl)
@[go_sem ↓] theorem vpl_114_0 {r : List (Nat × V)} {G : List V → Prop} : fillK (plOf Tryz.prog 114) ((0, u) :: r) us G = clK u fun c => lenK c 1 (wrK us 0 c fun l' => fillK (plOf Tryz.prog 114) r l' G) := fillK_step (by kernel_rfl)
@[go_sem ↓] theorem vpl_114_1 {r : List (Nat × V)} {G : List V → Prop} : fillK (plOf Tryz.prog 114) ((1, u) :: r) us G = clK u fun c => lenK c 1 (wrK us 1 c fun l' => fillK (plOf Tryz.prog 114) r l' G) := fillK_step (by kernel_rfl)
@[go_sem ↓] theorem vpl_114_2 {r : List (Nat × V)} {G : List V → Prop} : fillK (plOf Tryz.prog 114) ((2, u) :: r) us G = clK u fun c => lenK c 1 (wrK us 2 c fun l' => fillK (plOf Tryz.prog 114) r l' G) := fillK_step (by kernel_rfl)
@[go_sem ↓] theorem vbs_36_0 {ps : List (Nat × V)} : bslV Tryz.prog 36 0 ps σ kv = prtK 1 0 ps fun l => lenK l 0 (newO σ (.row 1 l) fun o σ' => kv true (.sl o 1 0 0) σ') := bslV_of (et := 5) (by kernel_rfl) ⟨by kernel_rfl, by decide, by decide⟩
@[go_sem ↓] theorem vap_36_36 : apdV Tryz.prog e 36 36 u v σ kv = rowK v σ 1 fun m => apdU e 1 1 u m σ kv := apdV_of (et := 5) (ex := 5) (C := [.int .u8 0]) (by kernel_rfl) (by kernel_rfl) (by kernel_rfl) (by kernel_rfl) (by decide) rfl
@[go_sem ↓] theorem vseq_36 : binV Tryz.prog .eql 36 (.row 1 l) (.lit (.slice none 0 0)) F = nilB .eql l.isEmpty F := binV_seq ⟨by kernel_rfl, by decide⟩
@[go_sem ↓ high] theorem vshr_u64_u64_7 {P : Program} {t : TypeId} : binV P .shr t (.lit (.int .u64 a)) (.lit (.int .u64 7)) F = F true (.lit (.int .u64 (a / 128))) := by rw [binV_shr_u64 (by decide)]; rfl
@[go_sem ↓ high] theorem vixrn_54 (h : m < l.length) : idxV Tryz.prog 54 (.row 3 l) (.lit (.int i (m : Int))) F = F true (.rref 3 l m 0) := idxV_rown (et := 45) (by kernel_rfl) (by decide) h
@[go_sem ↓] theorem vln_54 : bltV Tryz.prog e .len [54] [.row m l] σ kv = lenV (.row m l) fun τ v => kv τ v σ := lenB_row (by kernel_rfl)
@[go_sem ↓ high] theorem vcvh_33_5 (h : 0 ≤ a ∧ a ≤ 255) : cvsV Tryz.prog 33 5 (.lit (.int i a)) σ F = F true (.lit (.int .u8 a)) := (cvsV_num (by kernel_rfl)).trans (cvtV_u8 (by kernel_rfl) (by kernel_rfl) h)
@[go_sem ↓] theorem vsy_33_5 : sbyV Tryz.prog 33 5 u σ kv = cvsV Tryz.prog 33 5 u σ fun τ u => kv τ u σ := sbyV_num (by kernel_rfl)
@[go_sem ↓ high] theorem vshr_u64_u64_8 {P : Program} {t : TypeId} : binV P .shr t (.lit (.int .u64 a)) (.lit (.int .u64 8)) F = F true (.lit (.int .u64 (a / 256))) := by rw [binV_shr_u64 (by decide)]; rfl
@[go_sem ↓ high] theorem vshr_u64_u64_16 {P : Program} {t : TypeId} : binV P .shr t (.lit (.int .u64 a)) (.lit (.int .u64 16)) F = F true (.lit (.int .u64 (a / 65536))) := by rw [binV_shr_u64 (by decide)]; rfl
@[go_sem ↓ high] theorem vshr_u64_u64_32 {P : Program} {t : TypeId} : binV P .shr t (.lit (.int .u64 a)) (.lit (.int .u64 32)) F = F true (.lit (.int .u64 (a / 4294967296))) := by rw [binV_shr_u64 (by decide)]; rfl
@[go_sem ↓] theorem vfr_130_0 : fadV Tryz.prog 130 (.rref z l i' off) 0 F = F true (.rref z l i' off) := fadV_rref (x := 0) (ag := true) (m := 3) (by kernel_rfl)
@[go_sem ↓] theorem vst_108 : stV Tryz.prog 108 u v σ ks = clK v fun c => lenK c 3 (wrV u σ c ks) := stV_of (by kernel_rfl)
@[go_sem ↓] theorem val_108 : alcV Tryz.prog 108 σ kv = allOne ([.int .i64 0, .int .i64 0, .int .i64 0] : List Value) (newO σ (.cells (([.int .i64 0, .int .i64 0, .int .i64 0] : List Value).map V.lit)) fun o σ' => kv true (.ref o 0 0 0) σ') := alcV_of (by kernel_rfl)
@[go_sem ↓] theorem vfr_123_0 : fadV Tryz.prog 123 (.rref z l i' off) 0 F = F true (.rref z l i' off) := fadV_rref (x := 0) (ag := true) (m := 5) (by kernel_rfl)
@[go_sem ↓] theorem vst_105 : stV Tryz.prog 105 u v σ ks = clK v fun c => lenK c 5 (wrV u σ c ks) := stV_of (by kernel_rfl)
@[go_sem ↓] theorem val_105 : alcV Tryz.prog 105 σ kv = allOne ([.int .i64 0, .int .i64 0, .int .i64 0, .int .i64 0, .int .i64 0] : List Value) (newO σ (.cells (([.int .i64 0, .int .i64 0, .int .i64 0, .int .i64 0, .int .i64 0] : List Value).map V.lit)) fun o σ' => kv true (.ref o 0 0 0) σ') := alcV_of (by kernel_rfl)
@[go_sem ↓] theorem vfr_117_0 : fadV Tryz.prog 117 (.rref z l i' off) 0 F = F true (.rref z l i' off) := fadV_rref (x := 0) (ag := true) (m := 3) (by kernel_rfl)
@[go_sem ↓] theorem vst_102 : stV Tryz.prog 102 u v σ ks = clK v fun c => lenK c 3 (wrV u σ c ks) := stV_of (by kernel_rfl)
@[go_sem ↓] theorem val_102 : alcV Tryz.prog 102 σ kv = allOne ([.int .i64 0, .int .i64 0, .int .i64 0] : List Value) (newO σ (.cells (([.int .i64 0, .int .i64 0, .int .i64 0] : List Value).map V.lit)) fun o σ' => kv true (.ref o 0 0 0) σ') := alcV_of (by kernel_rfl)
@[go_sem ↓] theorem vfa_78_1 : fadV Tryz.prog 78 (.ref o z i' off) 1 F = F true (.ref o z i' (off + 1)) := fadV_ref (x := 1) (ag := true) (m := 3) (by kernel_rfl)
@[go_sem ↓] theorem vfr_78_1 : fadV Tryz.prog 78 (.rref z l i' off) 1 F = F true (.rref z l i' (off + 1)) := fadV_rref (x := 1) (ag := true) (m := 3) (by kernel_rfl)
@[go_sem ↓] theorem vbs_34_3 {ps : List (Nat × V)} : bslV Tryz.prog 34 3 ps σ kv = prtK 1 0 ps fun l => lenK l 3 (newO σ (.row 1 l) fun o σ' => kv true (.sl o 1 0 3) σ') := bslV_of (et := 3) (by kernel_rfl) ⟨by kernel_rfl, by decide, by decide⟩
@[go_sem ↓] theorem vfa_70_1 : fadV Tryz.prog 70 (.ref o z i' off) 1 F = F true (.ref o z i' (off + 1)) := fadV_ref (x := 1) (ag := false) (m := 1) (by kernel_rfl)
@[go_sem ↓] theorem vfa_70_0 : fadV Tryz.prog 70 (.ref o z i' off) 0 F = F true (.ref o z i' off) := fadV_ref (x := 0) (ag := false) (m := 1) (by kernel_rfl)
@[go_sem ↓] theorem vfr_70_0 : fadV Tryz.prog 70 (.rref z l i' off) 0 F = F true (.rref z l i' off) := fadV_rref (x := 0) (ag := false) (m := 1) (by kernel_rfl)
@[go_sem ↓] theorem vst_5 : stV Tryz.prog 5 u v σ ks = clK v fun c => lenK c 1 (wrV u σ c ks) := stV_of (by kernel_rfl)
@[go_sem ↓] theorem vbs_36_1 {ps : List (Nat × V)} : bslV Tryz.prog 36 1 ps σ kv = prtK 1 0 ps fun l => lenK l 1 (newO σ (.row 1 l) fun o σ' => kv true (.sl o 1 0 1) σ') := bslV_of (et := 5) (by kernel_rfl) ⟨by kernel_rfl, by decide, by decide⟩
@[go_sem ↓] theorem vst_36 : stV Tryz.prog 36 u v σ ks = clK v fun c => lenK c 1 (wrV u σ c ks) := stV_of (by kernel_rfl)
@[go_sem ↓] theorem vfa_52_6 : fadV Tryz.prog 52 (.ref o z i' off) 6 F = F true (.ref o z i' (off + 10)) := fadV_ref (x := 10) (ag := false) (m := 1) (by kernel_rfl)
@[go_sem ↓] theorem vld_50 : ldV Tryz.prog 50 u σ F = rdV u σ (none) F := ldV_of (by kernel_rfl)
@[go_sem ↓] theorem vrrne_50 {z i off : Nat} : binV Tryz.prog .neq 50 (.rref z l i off) (.lit (.pointer none)) F = F true (.lit (.bool true)) := binV_rrne (by kernel_rfl)
@[go_sem ↓] theorem vfa_52_5 : fadV Tryz.prog 52 (.ref o z i' off) 5 F = F true (.ref o z i' (off + 9)) := fadV_ref (x := 9) (ag := false) (m := 1) (by kernel_rfl)
@[go_sem ↓] theorem vld_49 : ldV Tryz.prog 49 u σ F = rdV u σ (none) F := ldV_of (by kernel_rfl)
@[go_sem ↓] theorem vrrne_49 {z i off : Nat} : binV Tryz.prog .neq 49 (.rref z l i off) (.lit (.pointer none)) F = F true (.lit (.bool true)) := binV_rrne (by kernel_rfl)
@[go_sem ↓] theorem vfa_52_4 : fadV Tryz.prog 52 (.ref o z i' off) 4 F = F true (.ref o z i' (off + 8)) := fadV_ref (x := 8) (ag := false) (m := 1) (by kernel_rfl)
@[go_sem ↓] theorem vld_48 : ldV Tryz.prog 48 u σ F = rdV u σ (none) F := ldV_of (by kernel_rfl)
@[go_sem ↓] theorem vrrne_48 {z i off : Nat} : binV Tryz.prog .neq 48 (.rref z l i off) (.lit (.pointer none)) F = F true (.lit (.bool true)) := binV_rrne (by kernel_rfl)
@[go_sem ↓] theorem vfa_52_3 : fadV Tryz.prog 52 (.ref o z i' off) 3 F = F true (.ref o z i' (off + 7)) := fadV_ref (x := 7) (ag := false) (m := 1) (by kernel_rfl)
@[go_sem ↓] theorem vld_47 : ldV Tryz.prog 47 u σ F = rdV u σ (none) F := ldV_of (by kernel_rfl)
@[go_sem ↓] theorem vrrne_47 {z i off : Nat} : binV Tryz.prog .neq 47 (.rref z l i off) (.lit (.pointer none)) F = F true (.lit (.bool true)) := binV_rrne (by kernel_rfl)
@[go_sem ↓] theorem vfa_52_1 : fadV Tryz.prog 52 (.ref o z i' off) 1 F = F true (.ref o z i' (off + 1)) := fadV_ref (x := 1) (ag := true) (m := 3) (by kernel_rfl)
@[go_sem ↓] theorem vfa_52_2 : fadV Tryz.prog 52 (.ref o z i' off) 2 F = F true (.ref o z i' (off + 4)) := fadV_ref (x := 4) (ag := true) (m := 3) (by kernel_rfl)
@[go_sem ↓] theorem vfa_52_0 : fadV Tryz.prog 52 (.ref o z i' off) 0 F = F true (.ref o z i' off) := fadV_ref (x := 0) (ag := false) (m := 1) (by kernel_rfl)
@[go_sem ↓] theorem vld_138 : ldV Tryz.prog 138 u σ F = rdV u σ (some 2) F := ldV_of (by kernel_rfl)
@[go_sem ↓] theorem val_138 : alcV Tryz.prog 138 σ kv = allOne ([.slice none 0 0, .int .i64 0] : List Value) (newO σ (.cells (([.slice none 0 0, .int .i64 0] : List Value).map V.lit)) fun o σ' => kv true (.ref o 0 0 0) σ') := alcV_of (by kernel_rfl)
@[go_sem ↓] theorem vst_138 : stV Tryz.prog 138 u v σ ks = clK v fun c => lenK c 2 (wrV u σ c ks) := stV_of (by kernel_rfl)
@[go_sem ↓] theorem vld_52 : ldV Tryz.prog 52 u σ F = rdV u σ (some 11) F := ldV_of (by kernel_rfl)
@[go_sem ↓] theorem vst_52 : stV Tryz.prog 52 u v σ ks = clK v fun c => lenK c 11 (wrV u σ c ks) := stV_of (by kernel_rfl)
@[go_sem ↓] theorem vbd_108 {ps : List (Nat × V)} : bldV Tryz.prog 108 ps F = allOne ([.int .i64 0, .int .i64 0, .int .i64 0] : List Value) (fillK (plOf Tryz.prog 108) ps (([.int .i64 0, .int .i64 0, .int .i64 0] : List Value).map V.lit) fun l => F true (.agg l)) := bldV_of (by kernel_rfl) (by kernel_rfl) (by kernel_rfl)
@[go_sem ↓] theorem vpl_108_0 {r : List (Nat × V)} {G : List V → Prop} : fillK (plOf Tryz.prog 108) ((0, u) :: r) us G = clK u fun c => lenK c 1 (wrK us 0 c fun l' => fillK (plOf Tryz.prog 108) r l' G) := fillK_step (by kernel_rfl)
@[go_sem ↓] theorem vpl_108_1 {r : List (Nat × V)} {G : List V → Prop} : fillK (plOf Tryz.prog 108) ((1, u) :: r) us G = clK u fun c => lenK c 1 (wrK us 1 c fun l' => fillK (plOf Tryz.prog 108) r l' G) := fillK_step (by kernel_rfl)
@[go_sem ↓] theorem vpl_108_2 {r : List (Nat × V)} {G : List V → Prop} : fillK (plOf Tryz.prog 108) ((2, u) :: r) us G = clK u fun c => lenK c 1 (wrK us 2 c fun l' => fillK (plOf Tryz.prog 108) r l' G) := fillK_step (by kernel_rfl)
@[go_sem ↓] theorem vst_50 : stV Tryz.prog 50 u v σ ks = clK v fun c => lenK c 1 (wrV u σ c ks) := stV_of (by kernel_rfl)
@[go_sem ↓] theorem vbd_105 {ps : List (Nat × V)} : bldV Tryz.prog 105 ps F = allOne ([.int .i64 0, .int .i64 0, .int .i64 0, .int .i64 0, .int .i64 0] : List Value) (fillK (plOf Tryz.prog 105) ps (([.int .i64 0, .int .i64 0, .int .i64 0, .int .i64 0, .int .i64 0] : List Value).map V.lit) fun l => F true (.agg l)) := bldV_of (by kernel_rfl) (by kernel_rfl) (by kernel_rfl)
@[go_sem ↓] theorem vpl_105_0 {r : List (Nat × V)} {G : List V → Prop} : fillK (plOf Tryz.prog 105) ((0, u) :: r) us G = clK u fun c => lenK c 1 (wrK us 0 c fun l' => fillK (plOf Tryz.prog 105) r l' G) := fillK_step (by kernel_rfl)
@[go_sem ↓] theorem vpl_105_1 {r : List (Nat × V)} {G : List V → Prop} : fillK (plOf Tryz.prog 105) ((1, u) :: r) us G = clK u fun c => lenK c 1 (wrK us 1 c fun l' => fillK (plOf Tryz.prog 105) r l' G) := fillK_step (by kernel_rfl)
@[go_sem ↓] theorem vpl_105_2 {r : List (Nat × V)} {G : List V → Prop} : fillK (plOf Tryz.prog 105) ((2, u) :: r) us G = clK u fun c => lenK c 3 (wrK us 2 c fun l' => fillK (plOf Tryz.prog 105) r l' G) := fillK_step (by kernel_rfl)
@[go_sem ↓] theorem vst_49 : stV Tryz.prog 49 u v σ ks = clK v fun c => lenK c 1 (wrV u σ c ks) := stV_of (by kernel_rfl)
@[go_sem ↓] theorem vbd_102 {ps : List (Nat × V)} : bldV Tryz.prog 102 ps F = allOne ([.int .i64 0, .int .i64 0, .int .i64 0] : List Value) (fillK (plOf Tryz.prog 102) ps (([.int .i64 0, .int .i64 0, .int .i64 0] : List Value).map V.lit) fun l => F true (.agg l)) := bldV_of (by kernel_rfl) (by kernel_rfl) (by kernel_rfl)
@[go_sem ↓] theorem vpl_102_0 {r : List (Nat × V)} {G : List V → Prop} : fillK (plOf Tryz.prog 102) ((0, u) :: r) us G = clK u fun c => lenK c 1 (wrK us 0 c fun l' => fillK (plOf Tryz.prog 102) r l' G) := fillK_step (by kernel_rfl)
@[go_sem ↓] theorem vpl_102_1 {r : List (Nat × V)} {G : List V → Prop} : fillK (plOf Tryz.prog 102) ((1, u) :: r) us G = clK u fun c => lenK c 1 (wrK us 1 c fun l' => fillK (plOf Tryz.prog 102) r l' G) := fillK_step (by kernel_rfl)
@[go_sem ↓] theorem vpl_102_2 {r : List (Nat × V)} {G : List V → Prop} : fillK (plOf Tryz.prog 102) ((2, u) :: r) us G = clK u fun c => lenK c 1 (wrK us 2 c fun l' => fillK (plOf Tryz.prog 102) r l' G) := fillK_step (by kernel_rfl)
@[go_sem ↓] theorem vst_48 : stV Tryz.prog 48 u v σ ks = clK v fun c => lenK c 1 (wrV u σ c ks) := stV_of (by kernel_rfl)
@[go_sem ↓] theorem vst_47 : stV Tryz.prog 47 u v σ ks = clK v fun c => lenK c 1 (wrV u σ c ks) := stV_of (by kernel_rfl)
@[go_sem ↓] theorem vbd_52 {ps : List (Nat × V)} : bldV Tryz.prog 52 ps F = allOne ([.int .i64 0, .int .i64 0, .int .i64 0, .int .i64 0, .int .i64 0, .int .i64 0, .bool false, .pointer none, .pointer none, .pointer none, .pointer none] : List Value) (fillK (plOf Tryz.prog 52) ps (([.int .i64 0, .int .i64 0, .int .i64 0, .int .i64 0, .int .i64 0, .int .i64 0, .bool false, .pointer none, .pointer none, .pointer none, .pointer none] : List Value).map V.lit) fun l => F true (.agg l)) := bldV_of (by kernel_rfl) (by kernel_rfl) (by kernel_rfl)
@[go_sem ↓] theorem vpl_52_0 {r : List (Nat × V)} {G : List V → Prop} : fillK (plOf Tryz.prog 52) ((0, u) :: r) us G = clK u fun c => lenK c 1 (wrK us 0 c fun l' => fillK (plOf Tryz.prog 52) r l' G) := fillK_step (by kernel_rfl)
@[go_sem ↓] theorem val_52 : alcV Tryz.prog 52 σ kv = allOne ([.int .i64 0, .int .i64 0, .int .i64 0, .int .i64 0, .int .i64 0, .int .i64 0, .bool false, .pointer none, .pointer none, .pointer none, .pointer none] : List Value) (newO σ (.cells (([.int .i64 0, .int .i64 0, .int .i64 0, .int .i64 0, .int .i64 0, .int .i64 0, .bool false, .pointer none, .pointer none, .pointer none, .pointer none] : List Value).map V.lit)) fun o σ' => kv true (.ref o 0 0 0) σ') := alcV_of (by kernel_rfl)
@[go_sem ↓ high] theorem vshl_u64_u64_1 {P : Program} {t : TypeId} : binV P .shl t (.lit (.int .u64 a)) (.lit (.int .u64 1)) F = F true (.lit (.int .u64 (IntKind.wrap .u64 (a * 2)))) := by rw [binV_shl_u64 (by decide)]; rfl
@[go_sem ↓] theorem vbd_138 {ps : List (Nat × V)} : bldV Tryz.prog 138 ps F = allOne ([.slice none 0 0, .int .i64 0] : List Value) (fillK (plOf Tryz.prog 138) ps (([.slice none 0 0, .int .i64 0] : List Value).map V.lit) fun l => F true (.agg l)) := bldV_of (by kernel_rfl) (by kernel_rfl) (by kernel_rfl)
@[go_sem ↓] theorem vpl_138_0 {r : List (Nat × V)} {G : List V → Prop} : fillK (plOf Tryz.prog 138) ((0, u) :: r) us G = clK u fun c => lenK c 1 (wrK us 0 c fun l' => fillK (plOf Tryz.prog 138) r l' G) := fillK_step (by kernel_rfl)
@[go_sem ↓ high] theorem vslm_36 : slcV Tryz.prog 36 (.row 1 (L.map f)) lo hi none F = bdoK hi L.length L.length fun h => bdoK lo 0 h fun x => F true (.row 1 (((L.take h).drop x).map f)) := slcV_rowm (et := 5) (by kernel_rfl)
@[go_sem ↓] theorem vfa_78_0 : fadV Tryz.prog 78 (.ref o z i' off) 0 F = F true (.ref o z i' off) := fadV_ref (x := 0) (ag := false) (m := 1) (by kernel_rfl)
@[go_sem ↓] theorem vfr_78_0 : fadV Tryz.prog 78 (.rref z l i' off) 0 F = F true (.rref z l i' off) := fadV_rref (x := 0) (ag := false) (m := 1) (by kernel_rfl)
@[go_sem ↓] theorem vld_76 : ldV Tryz.prog 76 u σ F = rdV u σ (none) F := ldV_of (by kernel_rfl)
@[go_sem ↓] theorem val_70 : alcV Tryz.prog 70 σ kv = allOne ([.slice none 0 0, .int .i64 0] : List Value) (newO σ (.cells (([.slice none 0 0, .int .i64 0] : List Value).map V.lit)) fun o σ' => kv true (.ref o 0 0 0) σ') := alcV_of (by kernel_rfl)
@[go_sem ↓] theorem vbd_78 {ps : List (Nat × V)} : bldV Tryz.prog 78 ps F = allOne ([.pointer none, .int .i64 0, .int .i64 0, .int .i64 0] : List Value) (fillK (plOf Tryz.prog 78) ps (([.pointer none, .int .i64 0, .int .i64 0, .int .i64 0] : List Value).map V.lit) fun l => F true (.agg l)) := bldV_of (by kernel_rfl) (by kernel_rfl) (by kernel_rfl)
@[go_sem ↓] theorem vpl_78_0 {r : List (Nat × V)} {G : List V → Prop} : fillK (plOf Tryz.prog 78) ((0, u) :: r) us G = clK u fun c => lenK c 1 (wrK us 0 c fun l' => fillK (plOf Tryz.prog 78) r l' G) := fillK_step (by kernel_rfl)
@[go_sem ↓] theorem vpl_78_1 {r : List (Nat × V)} {G : List V → Prop} : fillK (plOf Tryz.prog 78) ((1, u) :: r) us G = clK u fun c => lenK c 3 (wrK us 1 c fun l' => fillK (plOf Tryz.prog 78) r l' G) := fillK_step (by kernel_rfl)
@[go_sem ↓] theorem vcp_36_36 : cpyV Tryz.prog 36 36 u v σ kv = rowK v σ 1 fun m => cpyU 1 u m σ kv := cpyV_of (et := 5) (ex := 5) (by kernel_rfl) (by kernel_rfl)
@[go_sem ↓] theorem vms_36 : mslV Tryz.prog 36 u v σ kv = mslU 1 1 [.int .u8 0] u v σ kv := mslV_of (et := 5) (by kernel_rfl) (by kernel_rfl) (by kernel_rfl)
@[go_sem ↓] theorem vmu_36 (h : 0 ≤ a ∧ a * 1 ≤ 140737488355328) : mslU 1 1 [.int .u8 0] (.lit (.int .i64 a)) (.lit (.int .i64 a)) σ kv = newO σ (.row 1 (zrow [.int .u8 0] a.toNat)) fun o σ' => kv true (.sl o 1 0 a.toNat) σ' := by
  rw [mslU_of (C := [.int .u8 0]) (z := 1) ⟨h.1, rfl, h.2, by omega, by decide⟩ rfl]
  simp [allOne, oneC]
@[go_sem ↓ high] theorem vmun_36 (h : m * 1 ≤ 140737488355328) : mslU 1 1 [.int .u8 0] (.lit (.int .i64 (m : Int))) (.lit (.int .i64 (m : Int))) σ kv = newO σ (.row 1 (zrow [.int .u8 0] m)) fun o σ' => kv true (.sl o 1 0 m) σ' := vmu_36 (by omega)
@[go_sem ↓] theorem vfa_132_1 : fadV Tryz.prog 132 (.ref o z i' off) 1 F = F true (.ref o z i' (off + 1)) := fadV_ref (x := 1) (ag := false) (m := 1) (by kernel_rfl)
@[go_sem ↓ high] theorem vcth_3_33 (h : 0 ≤ a ∧ a ≤ 18446744073709551615) : cvtV Tryz.prog 3 33 (.lit (.int i a)) F = F true (.lit (.int .u64 a)) := cvtV_u64 (by kernel_rfl) (by kernel_rfl) h
@[go_sem ↓ high] theorem vcvh_3_33 (h : 0 ≤ a ∧ a ≤ 18446744073709551615) : cvsV Tryz.prog 3 33 (.lit (.int i a)) σ F = F true (.lit (.int .u64 a)) := (cvsV_num (by kernel_rfl)).trans (cvtV_u64 (by kernel_rfl) (by kernel_rfl) h)
@[go_sem ↓] theorem vsy_3_33 : sbyV Tryz.prog 3 33 u σ kv = cvsV Tryz.prog 3 33 u σ fun τ u => kv τ u σ := sbyV_num (by kernel_rfl)
@[go_sem ↓] theorem vfa_132_0 : fadV Tryz.prog 132 (.ref o z i' off) 0 F = F true (.ref o z i' off) := fadV_ref (x := 0) (ag := false) (m := 1) (by kernel_rfl)
@[go_sem ↓] theorem vld_132 : ldV Tryz.prog 132 u σ F = rdV u σ (some 2) F := ldV_of (by kernel_rfl)
@[go_sem ↓] theorem val_132 : alcV Tryz.prog 132 σ kv = allOne ([.int .u64 0, .int .i64 0] : List Value) (newO σ (.cells (([.int .u64 0, .int .i64 0] : List Value).map V.lit)) fun o σ' => kv true (.ref o 0 0 0) σ') := alcV_of (by kernel_rfl)
@[go_sem ↓] theorem vfa_127_1 : fadV Tryz.prog 127 (.ref o z i' off) 1 F = F true (.ref o z i' (off + 2)) := fadV_ref (x := 2) (ag := false) (m := 1) (by kernel_rfl)
@[go_sem ↓] theorem vfa_127_0 : fadV Tryz.prog 127 (.ref o z i' off) 0 F = F true (.ref o z i' off) := fadV_ref (x := 0) (ag := true) (m := 2) (by kernel_rfl)
@[go_sem ↓ high] theorem vixrn_121 (h : m < l.length) : idxV Tryz.prog 121 (.row 3 l) (.lit (.int i (m : Int))) F = F true (.rref 3 l m 0) := idxV_rown (et := 127) (by kernel_rfl) (by decide) h
@[go_sem ↓] theorem vld_127 : ldV Tryz.prog 127 u σ F = rdV u σ (some 3) F := ldV_of (by kernel_rfl)
@[go_sem ↓] theorem val_127 : alcV Tryz.prog 127 σ kv = allOne ([.int .u64 0, .int .u64 0, .pointer none] : List Value) (newO σ (.cells (([.int .u64 0, .int .u64 0, .pointer none] : List Value).map V.lit)) fun o σ' => kv true (.ref o 0 0 0) σ') := alcV_of (by kernel_rfl)
@[go_sem ↓] theorem vst_127 : stV Tryz.prog 127 u v σ ks = clK v fun c => lenK c 3 (wrV u σ c ks) := stV_of (by kernel_rfl)
@[go_sem ↓] theorem vln_121 : bltV Tryz.prog e .len [121] [.row m l] σ kv = lenV (.row m l) fun τ v => kv τ v σ := lenB_row (by kernel_rfl)
@[go_sem ↓] theorem vfr_123_2 : fadV Tryz.prog 123 (.rref z l i' off) 2 F = F true (.rref z l i' (off + 6)) := fadV_rref (x := 6) (ag := false) (m := 1) (by kernel_rfl)
@[go_sem ↓] theorem vfa_119_1 : fadV Tryz.prog 119 (.ref o z i' off) 1 F = F true (.ref o z i' (off + 1)) := fadV_ref (x := 1) (ag := false) (m := 1) (by kernel_rfl)
@[go_sem ↓] theorem vfa_119_0 : fadV Tryz.prog 119 (.ref o z i' off) 0 F = F true (.ref o z i' off) := fadV_ref (x := 0) (ag := false) (m := 1) (by kernel_rfl)
@[go_sem ↓] theorem vld_119 : ldV Tryz.prog 119 u σ F = rdV u σ (some 2) F := ldV_of (by kernel_rfl)
@[go_sem ↓] theorem val_119 : alcV Tryz.prog 119 σ kv = allOne ([.int .i64 0, .int .i64 0] : List Value) (newO σ (.cells (([.int .i64 0, .int .i64 0] : List Value).map V.lit)) fun o σ' => kv true (.ref o 0 0 0) σ') := alcV_of (by kernel_rfl)
@[go_sem ↓] theorem vbs_54_1 {ps : List (Nat × V)} : bslV Tryz.prog 54 1 ps σ kv = prtK 3 0 ps fun l => lenK l 1 (newO σ (.row 3 l) fun o σ' => kv true (.sl o 3 0 1) σ') := bslV_of (et := 45) (by kernel_rfl) ⟨by kernel_rfl, by decide, by decide⟩
@[go_sem ↓] theorem vbs_34_2 {ps : List (Nat × V)} : bslV Tryz.prog 34 2 ps σ kv = prtK 1 0 ps fun l => lenK l 2 (newO σ (.row 1 l) fun o σ' => kv true (.sl o 1 0 2) σ') := bslV_of (et := 3) (by kernel_rfl) ⟨by kernel_rfl, by decide, by decide⟩
@[go_sem ↓] theorem vap_34_34 : apdV Tryz.prog e 34 34 u v σ kv = rowK v σ 1 fun m => apdU e 1 8 u m σ kv := apdV_of (et := 3) (ex := 3) (C := [.int .i64 0]) (by kernel_rfl) (by kernel_rfl) (by kernel_rfl) (by kernel_rfl) (by decide) rfl
@[go_sem ↓] theorem vbs_34_4 {ps : List (Nat × V)} : bslV Tryz.prog 34 4 ps σ kv = prtK 1 0 ps fun l => lenK l 4 (newO σ (.row 1 l) fun o σ' => kv true (.sl o 1 0 4) σ') := bslV_of (et := 3) (by kernel_rfl) ⟨by kernel_rfl, by decide, by decide⟩
@[go_sem ↓] theorem vbs_34_1 {ps : List (Nat × V)} : bslV Tryz.prog 34 1 ps σ kv = prtK 1 0 ps fun l => lenK l 1 (newO σ (.row 1 l) fun o σ' => kv true (.sl o 1 0 1) σ') := bslV_of (et := 3) (by kernel_rfl) ⟨by kernel_rfl, by decide, by decide⟩
@[go_sem ↓ high] theorem vmk_u64_1 {P : Program} {t : TypeId} : binV P .and t (.lit (.int .u64 a)) (.lit (.int .u64 1)) F = F true (.lit (.int .u64 (a % 2))) := binV_mask 1 (by decide) (by decide) (by decide)
@[go_sem ↓ high] theorem vcvh_5_64 (h : 0 ≤ a ∧ a ≤ 4294967295) : cvsV Tryz.prog 5 64 (.lit (.int i a)) σ F = F true (.lit (.int .u32 a)) := (cvsV_num (by kernel_rfl)).trans (cvtV_u32 (by kernel_rfl) (by kernel_rfl) h)
@[go_sem ↓] theorem vsy_5_64 : sbyV Tryz.prog 5 64 u σ kv = cvsV Tryz.prog 5 64 u σ fun τ u => kv τ u σ := sbyV_num (by kernel_rfl)
@[go_sem ↓] theorem vbd_89 {ps : List (Nat × V)} : bldV Tryz.prog 89 ps F = allOne ([.pointer none, .int .i64 0] : List Value) (fillK (plOf Tryz.prog 89) ps (([.pointer none, .int .i64 0] : List Value).map V.lit) fun l => F true (.agg l)) := bldV_of (by kernel_rfl) (by kernel_rfl) (by kernel_rfl)
@[go_sem ↓] theorem vpl_89_0 {r : List (Nat × V)} {G : List V → Prop} : fillK (plOf Tryz.prog 89) ((0, u) :: r) us G = clK u fun c => lenK c 1 (wrK us 0 c fun l' => fillK (plOf Tryz.prog 89) r l' G) := fillK_step (by kernel_rfl)
@[go_sem ↓ high] theorem vixrn_34 (h : m < l.length) : idxV Tryz.prog 34 (.row 1 l) (.lit (.int i (m : Int))) F = F true (.rref 1 l m 0) := idxV_rown (et := 3) (by kernel_rfl) (by decide) h
@[go_sem ↓] theorem vln_34 : bltV Tryz.prog e .len [34] [.row m l] σ kv = lenV (.row m l) fun τ v => kv τ v σ := lenB_row (by kernel_rfl)
@[go_sem ↓] theorem vbd_70 {ps : List (Nat × V)} : bldV Tryz.prog 70 ps F = allOne ([.slice none 0 0, .int .i64 0] : List Value) (fillK (plOf Tryz.prog 70) ps (([.slice none 0 0, .int .i64 0] : List Value).map V.lit) fun l => F true (.agg l)) := bldV_of (by kernel_rfl) (by kernel_rfl) (by kernel_rfl)
@[go_sem ↓] theorem vbs_36_4 {ps : List (Nat × V)} : bslV Tryz.prog 36 4 ps σ kv = prtK 1 0 ps fun l => lenK l 4 (newO σ (.row 1 l) fun o σ' => kv true (.sl o 1 0 4) σ') := bslV_of (et := 5) (by kernel_rfl) ⟨by kernel_rfl, by decide, by decide⟩
@[go_sem ↓] theorem vpl_52_1 {r : List (Nat × V)} {G : List V → Prop} : fillK (plOf Tryz.prog 52) ((1, u) :: r) us G = clK u fun c => lenK c 3 (wrK us 1 c fun l' => fillK (plOf Tryz.prog 52) r l' G) := fillK_step (by kernel_rfl)
@[go_sem ↓] theorem vpl_52_2 {r : List (Nat × V)} {G : List V → Prop} : fillK (plOf Tryz.prog 52) ((2, u) :: r) us G = clK u fun c => lenK c 3 (wrK us 4 c fun l' => fillK (plOf Tryz.prog 52) r l' G) := fillK_step (by kernel_rfl)
@[go_sem ↓] theorem vld_168 : ldV Tryz.prog 168 u σ F = rdV u σ (some 3) F := ldV_of (by kernel_rfl)
end
end Go.Proofs.YteookgjmohokiaaGreat
