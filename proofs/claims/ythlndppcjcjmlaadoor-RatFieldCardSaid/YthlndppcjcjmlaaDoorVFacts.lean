import Derived.Test.YthlndppcjcjmlaaDoorVl
import Derived.Test.YthlndppcjcjmlaaDoorProg
import Derived.KernelRfl
/-! Facts on the program's types and plans of its regions, printed by a program of the prover's own. -/
namespace Go.Proofs.YthlndppcjcjmlaaDoor
open Go.Eng Go.Vx
set_option linter.unusedVariables false
set_option linter.unusedSimpArgs false
set_option maxRecDepth 100000
section
variable {u v : V} {σ : St} {F : FV} {kv : KV} {ks : KS} {e : Bool} {i : IntKind} {a : Int} {o z i' off len m : Nat} {l : List (List PV)} {us : List V} {β : Type} {L : List β} {f : β → List PV} {lo hi : Option V}
def pl2 : Plans := fun id => match id with
  | _ => []
def pl3 : Plans := fun id => match id with
  | 12 => [(0, (5, 0)), (1, (5, 0)), (2, (5, 0)), (3, (0, 0)), (4, (0, 0)), (5, (5, 0)), (6, (5, 0)), (7, (0, 0)), (8, (2, 0)), (9, (2, 0)), (10, (0, 0)), (11, (5, 0)), (12, (5, 0)), (13, (0, 0)), (15, (0, 0)), (14, (1, 0)), (16, (2, 0)), (17, (0, 0)), (18, (5, 0)), (19, (5, 0))]
  | 18 => [(0, (5, 0)), (1, (5, 0)), (2, (5, 0)), (3, (0, 0)), (4, (0, 0)), (5, (5, 0)), (6, (5, 0)), (7, (0, 0)), (8, (0, 0)), (9, (2, 0)), (10, (5, 0)), (11, (5, 0)), (12, (0, 0)), (13, (0, 0)), (14, (0, 0)), (15, (1, 0)), (16, (1, 0)), (17, (1, 0)), (18, (2, 0)), (19, (2, 0)), (20, (2, 0)), (21, (5, 0)), (22, (5, 0))]
  | _ => []
@[go_sem ↓] theorem pl3_12 : pl3 12 = [(0, (5, 0)), (1, (5, 0)), (2, (5, 0)), (3, (0, 0)), (4, (0, 0)), (5, (5, 0)), (6, (5, 0)), (7, (0, 0)), (8, (2, 0)), (9, (2, 0)), (10, (0, 0)), (11, (5, 0)), (12, (5, 0)), (13, (0, 0)), (15, (0, 0)), (14, (1, 0)), (16, (2, 0)), (17, (0, 0)), (18, (5, 0)), (19, (5, 0))] := (rfl)
@[go_sem ↓] theorem pl3_18 : pl3 18 = [(0, (5, 0)), (1, (5, 0)), (2, (5, 0)), (3, (0, 0)), (4, (0, 0)), (5, (5, 0)), (6, (5, 0)), (7, (0, 0)), (8, (0, 0)), (9, (2, 0)), (10, (5, 0)), (11, (5, 0)), (12, (0, 0)), (13, (0, 0)), (14, (0, 0)), (15, (1, 0)), (16, (1, 0)), (17, (1, 0)), (18, (2, 0)), (19, (2, 0)), (20, (2, 0)), (21, (5, 0)), (22, (5, 0))] := (rfl)
def pl4 : Plans := fun id => match id with
  | 7 => [(0, (5, 0)), (1, (0, 0)), (2, (0, 0)), (4, (0, 0)), (6, (0, 0)), (3, (1, 0)), (5, (1, 0)), (7, (2, 0)), (8, (5, 0)), (9, (5, 0)), (10, (0, 0)), (11, (0, 0)), (12, (0, 0)), (14, (0, 0)), (16, (0, 0)), (17, (0, 0)), (19, (0, 0)), (20, (0, 0)), (13, (1, 0)), (15, (1, 0)), (18, (1, 0)), (21, (1, 0)), (22, (1, 0)), (23, (2, 0)), (24, (0, 0)), (25, (5, 0)), (26, (5, 0)), (27, (0, 0)), (28, (0, 0)), (30, (0, 0)), (31, (0, 0)), (34, (0, 0)), (35, (0, 0)), (29, (1, 0)), (32, (1, 0)), (33, (1, 0)), (36, (2, 0)), (37, (0, 0)), (38, (5, 0))]
  | 9 => [(0, (0, 0)), (1, (0, 0)), (3, (0, 0)), (8, (4, 0)), (2, (1, 0)), (4, (2, 0)), (5, (5, 0)), (6, (5, 0)), (7, (5, 0)), (8, (3, 0)), (9, (2, 0)), (10, (5, 0))]
  | 15 => [(0, (5, 0)), (1, (5, 0)), (2, (5, 0)), (3, (0, 0)), (4, (0, 0)), (5, (0, 0)), (6, (2, 0)), (7, (5, 0)), (8, (5, 0)), (9, (0, 0)), (10, (0, 0)), (11, (5, 0)), (12, (5, 0)), (13, (0, 0)), (14, (2, 0)), (15, (0, 0)), (16, (5, 0)), (17, (5, 0)), (18, (0, 0)), (19, (0, 0)), (20, (5, 0)), (21, (5, 0)), (22, (0, 0)), (23, (0, 0)), (24, (5, 0)), (25, (5, 0)), (26, (0, 0)), (27, (0, 0)), (28, (0, 0)), (30, (0, 0)), (29, (1, 0)), (31, (2, 0)), (32, (5, 0)), (33, (5, 0))]
  | _ => []
@[go_sem ↓] theorem pl4_7 : pl4 7 = [(0, (5, 0)), (1, (0, 0)), (2, (0, 0)), (4, (0, 0)), (6, (0, 0)), (3, (1, 0)), (5, (1, 0)), (7, (2, 0)), (8, (5, 0)), (9, (5, 0)), (10, (0, 0)), (11, (0, 0)), (12, (0, 0)), (14, (0, 0)), (16, (0, 0)), (17, (0, 0)), (19, (0, 0)), (20, (0, 0)), (13, (1, 0)), (15, (1, 0)), (18, (1, 0)), (21, (1, 0)), (22, (1, 0)), (23, (2, 0)), (24, (0, 0)), (25, (5, 0)), (26, (5, 0)), (27, (0, 0)), (28, (0, 0)), (30, (0, 0)), (31, (0, 0)), (34, (0, 0)), (35, (0, 0)), (29, (1, 0)), (32, (1, 0)), (33, (1, 0)), (36, (2, 0)), (37, (0, 0)), (38, (5, 0))] := (rfl)
@[go_sem ↓] theorem pl4_9 : pl4 9 = [(0, (0, 0)), (1, (0, 0)), (3, (0, 0)), (8, (4, 0)), (2, (1, 0)), (4, (2, 0)), (5, (5, 0)), (6, (5, 0)), (7, (5, 0)), (8, (3, 0)), (9, (2, 0)), (10, (5, 0))] := (rfl)
@[go_sem ↓] theorem pl4_15 : pl4 15 = [(0, (5, 0)), (1, (5, 0)), (2, (5, 0)), (3, (0, 0)), (4, (0, 0)), (5, (0, 0)), (6, (2, 0)), (7, (5, 0)), (8, (5, 0)), (9, (0, 0)), (10, (0, 0)), (11, (5, 0)), (12, (5, 0)), (13, (0, 0)), (14, (2, 0)), (15, (0, 0)), (16, (5, 0)), (17, (5, 0)), (18, (0, 0)), (19, (0, 0)), (20, (5, 0)), (21, (5, 0)), (22, (0, 0)), (23, (0, 0)), (24, (5, 0)), (25, (5, 0)), (26, (0, 0)), (27, (0, 0)), (28, (0, 0)), (30, (0, 0)), (29, (1, 0)), (31, (2, 0)), (32, (5, 0)), (33, (5, 0))] := (rfl)
def pl5 : Plans := fun id => match id with
  | _ => []
def pl6 : Plans := fun id => match id with
  | 1 => [(0, (5, 0)), (3, (5, 0)), (1, (0, 0)), (4, (0, 0)), (2, (1, 0)), (5, (2, 0)), (6, (5, 0)), (7, (5, 0))]
  | 5 => [(0, (5, 0)), (2, (5, 0)), (5, (5, 0)), (1, (0, 0)), (12, (4, 0)), (3, (1, 0)), (4, (2, 0)), (6, (2, 0)), (7, (2, 0)), (8, (2, 0)), (9, (5, 0)), (10, (5, 0)), (11, (5, 0)), (12, (3, 0)), (13, (2, 0)), (14, (5, 0))]
  | 6 => [(1, (5, 0)), (3, (5, 0)), (5, (5, 0)), (0, (0, 0)), (2, (0, 0)), (4, (1, 0)), (6, (1, 0)), (7, (2, 0)), (8, (2, 0))]
  | _ => []
@[go_sem ↓] theorem pl6_1 : pl6 1 = [(0, (5, 0)), (3, (5, 0)), (1, (0, 0)), (4, (0, 0)), (2, (1, 0)), (5, (2, 0)), (6, (5, 0)), (7, (5, 0))] := (rfl)
@[go_sem ↓] theorem pl6_5 : pl6 5 = [(0, (5, 0)), (2, (5, 0)), (5, (5, 0)), (1, (0, 0)), (12, (4, 0)), (3, (1, 0)), (4, (2, 0)), (6, (2, 0)), (7, (2, 0)), (8, (2, 0)), (9, (5, 0)), (10, (5, 0)), (11, (5, 0)), (12, (3, 0)), (13, (2, 0)), (14, (5, 0))] := (rfl)
@[go_sem ↓] theorem pl6_6 : pl6 6 = [(1, (5, 0)), (3, (5, 0)), (5, (5, 0)), (0, (0, 0)), (2, (0, 0)), (4, (1, 0)), (6, (1, 0)), (7, (2, 0)), (8, (2, 0))] := (rfl)
def pl7 : Plans := fun id => match id with
  | 7 => [(0, (5, 0)), (1, (0, 0)), (8, (0, 0)), (10, (0, 0)), (2, (1, 0)), (3, (5, 0)), (4, (0, 0)), (5, (0, 0)), (6, (0, 0)), (7, (5, 0)), (9, (1, 0)), (11, (2, 0)), (12, (2, 0)), (13, (5, 0))]
  | _ => []
@[go_sem ↓] theorem pl7_7 : pl7 7 = [(0, (5, 0)), (1, (0, 0)), (8, (0, 0)), (10, (0, 0)), (2, (1, 0)), (3, (5, 0)), (4, (0, 0)), (5, (0, 0)), (6, (0, 0)), (7, (5, 0)), (9, (1, 0)), (11, (2, 0)), (12, (2, 0)), (13, (5, 0))] := (rfl)
def pl8 : Plans := fun id => match id with
  | 4 => [(1, (0, 0)), (0, (1, 0)), (2, (2, 0)), (3, (2, 0)), (4, (5, 0))]
  | _ => []
@[go_sem ↓] theorem pl8_4 : pl8 4 = [(1, (0, 0)), (0, (1, 0)), (2, (2, 0)), (3, (2, 0)), (4, (5, 0))] := (rfl)
def pl9 : Plans := fun id => match id with
  | 3 => [(0, (5, 0)), (1, (0, 0)), (4, (0, 0)), (2, (1, 0)), (3, (5, 0)), (5, (2, 0)), (6, (2, 0)), (7, (5, 0)), (8, (5, 0))]
  | _ => []
@[go_sem ↓] theorem pl9_3 : pl9 3 = [(0, (5, 0)), (1, (0, 0)), (4, (0, 0)), (2, (1, 0)), (3, (5, 0)), (5, (2, 0)), (6, (2, 0)), (7, (5, 0)), (8, (5, 0))] := (rfl)
def pl10 : Plans := fun id => match id with
  | 3 => [(0, (5, 0)), (1, (5, 0)), (3, (5, 0)), (5, (5, 0)), (6, (5, 0)), (4, (0, 0)), (2, (4, 0)), (7, (2, 0)), (2, (3, 0)), (8, (2, 0)), (9, (2, 0)), (10, (2, 0)), (11, (5, 0))]
  | _ => []
@[go_sem ↓] theorem pl10_3 : pl10 3 = [(0, (5, 0)), (1, (5, 0)), (3, (5, 0)), (5, (5, 0)), (6, (5, 0)), (4, (0, 0)), (2, (4, 0)), (7, (2, 0)), (2, (3, 0)), (8, (2, 0)), (9, (2, 0)), (10, (2, 0)), (11, (5, 0))] := (rfl)
def pl11 : Plans := fun id => match id with
  | _ => []
def pl12 : Plans := fun id => match id with
  | _ => []
def pl13 : Plans := fun id => match id with
  | _ => []
def pl14 : Plans := fun id => match id with
  | 7 => [(0, (5, 0)), (2, (5, 0)), (5, (5, 0)), (7, (5, 0)), (1, (0, 0)), (3, (5, 0)), (4, (0, 0)), (10, (5, 0)), (6, (0, 0)), (8, (5, 0)), (9, (0, 0)), (11, (5, 0))]
  | _ => []
@[go_sem ↓] theorem pl14_7 : pl14 7 = [(0, (5, 0)), (2, (5, 0)), (5, (5, 0)), (7, (5, 0)), (1, (0, 0)), (3, (5, 0)), (4, (0, 0)), (10, (5, 0)), (6, (0, 0)), (8, (5, 0)), (9, (0, 0)), (11, (5, 0))] := (rfl)
def pl15 : Plans := fun id => match id with
  | 1 => [(0, (5, 0)), (1, (0, 0)), (2, (1, 0)), (3, (1, 0)), (4, (2, 0)), (5, (2, 0))]
  | _ => []
@[go_sem ↓] theorem pl15_1 : pl15 1 = [(0, (5, 0)), (1, (0, 0)), (2, (1, 0)), (3, (1, 0)), (4, (2, 0)), (5, (2, 0))] := (rfl)
def pl16 : Plans := fun id => match id with
  | _ => []
def pl17 : Plans := fun id => match id with
  | 1 => [(0, (5, 0)), (2, (5, 0)), (5, (5, 0)), (7, (5, 0)), (1, (0, 0)), (3, (0, 0)), (6, (0, 0)), (8, (0, 0)), (4, (1, 0)), (9, (2, 0)), (10, (1, 0)), (11, (2, 0))]
  | _ => []
@[go_sem ↓] theorem pl17_1 : pl17 1 = [(0, (5, 0)), (2, (5, 0)), (5, (5, 0)), (7, (5, 0)), (1, (0, 0)), (3, (0, 0)), (6, (0, 0)), (8, (0, 0)), (4, (1, 0)), (9, (2, 0)), (10, (1, 0)), (11, (2, 0))] := (rfl)
def pl18 : Plans := fun id => match id with
  | 1 => [(0, (0, 0)), (2, (0, 0)), (1, (1, 0)), (3, (2, 0)), (4, (5, 0)), (5, (5, 0))]
  | _ => []
@[go_sem ↓] theorem pl18_1 : pl18 1 = [(0, (0, 0)), (2, (0, 0)), (1, (1, 0)), (3, (2, 0)), (4, (5, 0)), (5, (5, 0))] := (rfl)
def pl19 : Plans := fun id => match id with
  | 1 => [(0, (5, 0)), (2, (5, 0)), (1, (0, 0)), (3, (0, 0)), (5, (0, 0)), (7, (0, 0)), (4, (1, 0)), (6, (1, 0)), (8, (2, 0)), (9, (2, 0)), (10, (2, 0)), (11, (2, 0))]
  | _ => []
@[go_sem ↓] theorem pl19_1 : pl19 1 = [(0, (5, 0)), (2, (5, 0)), (1, (0, 0)), (3, (0, 0)), (5, (0, 0)), (7, (0, 0)), (4, (1, 0)), (6, (1, 0)), (8, (2, 0)), (9, (2, 0)), (10, (2, 0)), (11, (2, 0))] := (rfl)
def pl20 : Plans := fun id => match id with
  | _ => []
def pl21 : Plans := fun id => match id with
  | 1 => [(0, (0, 0)), (1, (0, 0)), (2, (2, 0)), (3, (5, 0)), (4, (5, 0)), (5, (0, 0)), (7, (0, 0)), (6, (1, 0)), (8, (2, 0)), (9, (0, 0)), (10, (5, 0)), (11, (5, 0))]
  | _ => []
@[go_sem ↓] theorem pl21_1 : pl21 1 = [(0, (0, 0)), (1, (0, 0)), (2, (2, 0)), (3, (5, 0)), (4, (5, 0)), (5, (0, 0)), (7, (0, 0)), (6, (1, 0)), (8, (2, 0)), (9, (0, 0)), (10, (5, 0)), (11, (5, 0))] := (rfl)
def pl22 : Plans := fun id => match id with
  | 1 => [(0, (5, 0)), (5, (5, 0)), (1, (0, 0)), (2, (0, 0)), (6, (0, 0)), (7, (0, 0)), (3, (1, 0)), (4, (1, 0)), (8, (1, 0)), (9, (2, 0)), (10, (2, 0)), (11, (5, 0))]
  | _ => []
@[go_sem ↓] theorem pl22_1 : pl22 1 = [(0, (5, 0)), (5, (5, 0)), (1, (0, 0)), (2, (0, 0)), (6, (0, 0)), (7, (0, 0)), (3, (1, 0)), (4, (1, 0)), (8, (1, 0)), (9, (2, 0)), (10, (2, 0)), (11, (5, 0))] := (rfl)
def pl23 : Plans := fun id => match id with
  | 1 => [(1, (5, 0)), (4, (5, 0)), (0, (0, 0)), (2, (0, 0)), (5, (0, 0)), (3, (1, 0)), (6, (1, 0)), (7, (2, 0)), (8, (2, 0))]
  | _ => []
@[go_sem ↓] theorem pl23_1 : pl23 1 = [(1, (5, 0)), (4, (5, 0)), (0, (0, 0)), (2, (0, 0)), (5, (0, 0)), (3, (1, 0)), (6, (1, 0)), (7, (2, 0)), (8, (2, 0))] := (rfl)
def pl24 : Plans := fun id => match id with
  | 1 => [(0, (5, 0)), (5, (5, 0)), (1, (0, 0)), (2, (0, 0)), (6, (0, 0)), (7, (0, 0)), (11, (0, 0)), (13, (0, 0)), (3, (1, 0)), (4, (1, 0)), (8, (1, 0)), (9, (1, 0)), (10, (1, 0)), (12, (1, 0)), (14, (2, 0)), (15, (2, 0)), (16, (2, 0)), (17, (2, 0))]
  | _ => []
@[go_sem ↓] theorem pl24_1 : pl24 1 = [(0, (5, 0)), (5, (5, 0)), (1, (0, 0)), (2, (0, 0)), (6, (0, 0)), (7, (0, 0)), (11, (0, 0)), (13, (0, 0)), (3, (1, 0)), (4, (1, 0)), (8, (1, 0)), (9, (1, 0)), (10, (1, 0)), (12, (1, 0)), (14, (2, 0)), (15, (2, 0)), (16, (2, 0)), (17, (2, 0))] := (rfl)
def pl25 : Plans := fun id => match id with
  | 1 => [(0, (5, 0)), (5, (5, 0)), (1, (0, 0)), (2, (0, 0)), (6, (0, 0)), (7, (0, 0)), (3, (1, 0)), (4, (1, 0)), (8, (1, 0)), (9, (2, 0)), (10, (2, 0)), (11, (5, 0)), (12, (5, 0)), (13, (2, 0)), (14, (5, 0))]
  | _ => []
@[go_sem ↓] theorem pl25_1 : pl25 1 = [(0, (5, 0)), (5, (5, 0)), (1, (0, 0)), (2, (0, 0)), (6, (0, 0)), (7, (0, 0)), (3, (1, 0)), (4, (1, 0)), (8, (1, 0)), (9, (2, 0)), (10, (2, 0)), (11, (5, 0)), (12, (5, 0)), (13, (2, 0)), (14, (5, 0))] := (rfl)
def pl26 : Plans := fun id => match id with
  | _ => []
def pl27 : Plans := fun id => match id with
  | _ => []
def pl28 : Plans := fun id => match id with
  | _ => []
def pl29 : Plans := fun id => match id with
  | _ => []
def pl30 : Plans := fun id => match id with
  | 3 => [(0, (0, 0)), (2, (0, 0)), (5, (0, 0)), (8, (0, 0)), (1, (1, 0)), (3, (1, 0)), (4, (5, 0)), (6, (1, 0)), (7, (1, 0)), (9, (2, 0)), (10, (2, 0)), (11, (2, 0)), (12, (5, 0))]
  | _ => []
@[go_sem ↓] theorem pl30_3 : pl30 3 = [(0, (0, 0)), (2, (0, 0)), (5, (0, 0)), (8, (0, 0)), (1, (1, 0)), (3, (1, 0)), (4, (5, 0)), (6, (1, 0)), (7, (1, 0)), (9, (2, 0)), (10, (2, 0)), (11, (2, 0)), (12, (5, 0))] := (rfl)
def pl31 : Plans := fun id => match id with
  | 1 => [(1, (5, 0)), (2, (5, 0)), (0, (0, 0)), (3, (0, 0)), (4, (1, 0)), (5, (0, 0)), (6, (5, 0)), (7, (1, 0)), (8, (2, 0))]
  | _ => []
@[go_sem ↓] theorem pl31_1 : pl31 1 = [(1, (5, 0)), (2, (5, 0)), (0, (0, 0)), (3, (0, 0)), (4, (1, 0)), (5, (0, 0)), (6, (5, 0)), (7, (1, 0)), (8, (2, 0))] := (rfl)
def pl32 : Plans := fun id => match id with
  | _ => []
def pl33 : Plans := fun id => match id with
  | _ => []
def pl34 : Plans := fun id => match id with
  | _ => []
def pl35 : Plans := fun id => match id with
  | _ => []
def pl36 : Plans := fun id => match id with
  | 1 => [(0, (0, 0)), (2, (0, 0)), (4, (4, 0)), (1, (1, 0)), (3, (2, 0)), (4, (3, 0)), (5, (2, 0))]
  | 2 => [(0, (0, 0)), (2, (0, 0)), (8, (4, 0)), (9, (4, 0)), (1, (1, 0)), (3, (2, 0)), (4, (5, 0)), (5, (5, 0)), (6, (5, 0)), (7, (5, 0)), (8, (3, 0)), (9, (3, 0)), (10, (2, 0)), (11, (2, 0)), (12, (5, 0))]
  | 4 => [(0, (0, 0)), (1, (4, 0)), (7, (4, 0)), (1, (3, 0)), (2, (1, 0)), (3, (2, 0)), (4, (5, 0)), (5, (5, 0)), (6, (5, 0)), (7, (3, 0)), (8, (2, 0)), (9, (5, 0))]
  | 5 => [(0, (0, 0)), (2, (0, 0)), (4, (0, 0)), (1, (1, 0)), (3, (1, 0)), (5, (1, 0)), (6, (2, 0))]
  | _ => []
@[go_sem ↓] theorem pl36_1 : pl36 1 = [(0, (0, 0)), (2, (0, 0)), (4, (4, 0)), (1, (1, 0)), (3, (2, 0)), (4, (3, 0)), (5, (2, 0))] := (rfl)
@[go_sem ↓] theorem pl36_2 : pl36 2 = [(0, (0, 0)), (2, (0, 0)), (8, (4, 0)), (9, (4, 0)), (1, (1, 0)), (3, (2, 0)), (4, (5, 0)), (5, (5, 0)), (6, (5, 0)), (7, (5, 0)), (8, (3, 0)), (9, (3, 0)), (10, (2, 0)), (11, (2, 0)), (12, (5, 0))] := (rfl)
@[go_sem ↓] theorem pl36_4 : pl36 4 = [(0, (0, 0)), (1, (4, 0)), (7, (4, 0)), (1, (3, 0)), (2, (1, 0)), (3, (2, 0)), (4, (5, 0)), (5, (5, 0)), (6, (5, 0)), (7, (3, 0)), (8, (2, 0)), (9, (5, 0))] := (rfl)
@[go_sem ↓] theorem pl36_5 : pl36 5 = [(0, (0, 0)), (2, (0, 0)), (4, (0, 0)), (1, (1, 0)), (3, (1, 0)), (5, (1, 0)), (6, (2, 0))] := (rfl)
def pl37 : Plans := fun id => match id with
  | _ => []
def pl38 : Plans := fun id => match id with
  | _ => []
def pl39 : Plans := fun id => match id with
  | _ => []
def pl40 : Plans := fun id => match id with
  | _ => []
def pl41 : Plans := fun id => match id with
  | _ => []
def pl42 : Plans := fun id => match id with
  | 5 => [(0, (5, 0)), (1, (5, 0)), (2, (5, 0)), (4, (5, 0)), (5, (5, 0)), (6, (5, 0)), (3, (0, 0)), (7, (5, 0)), (8, (5, 0)), (9, (2, 0))]
  | _ => []
@[go_sem ↓] theorem pl42_5 : pl42 5 = [(0, (5, 0)), (1, (5, 0)), (2, (5, 0)), (4, (5, 0)), (5, (5, 0)), (6, (5, 0)), (3, (0, 0)), (7, (5, 0)), (8, (5, 0)), (9, (2, 0))] := (rfl)
def pl43 : Plans := fun id => match id with
  | _ => []
def pl44 : Plans := fun id => match id with
  | _ => []
def pl45 : Plans := fun id => match id with
  | _ => []
def pl46 : Plans := fun id => match id with
  | 1 => [(0, (5, 0)), (2, (5, 0)), (5, (5, 0)), (7, (5, 0)), (11, (5, 0)), (13, (5, 0)), (16, (5, 0)), (18, (5, 0)), (1, (0, 0)), (3, (0, 0)), (6, (0, 0)), (8, (0, 0)), (12, (0, 0)), (14, (0, 0)), (17, (0, 0)), (19, (0, 0)), (4, (1, 0)), (9, (1, 0)), (10, (1, 0)), (15, (1, 0)), (20, (2, 0)), (21, (2, 0)), (22, (1, 0)), (23, (2, 0))]
  | _ => []
@[go_sem ↓] theorem pl46_1 : pl46 1 = [(0, (5, 0)), (2, (5, 0)), (5, (5, 0)), (7, (5, 0)), (11, (5, 0)), (13, (5, 0)), (16, (5, 0)), (18, (5, 0)), (1, (0, 0)), (3, (0, 0)), (6, (0, 0)), (8, (0, 0)), (12, (0, 0)), (14, (0, 0)), (17, (0, 0)), (19, (0, 0)), (4, (1, 0)), (9, (1, 0)), (10, (1, 0)), (15, (1, 0)), (20, (2, 0)), (21, (2, 0)), (22, (1, 0)), (23, (2, 0))] := (rfl)
def pl47 : Plans := fun id => match id with
  | 11 => [(0, (5, 0)), (1, (5, 0)), (2, (5, 0)), (3, (5, 0)), (5, (5, 0)), (6, (5, 0)), (7, (5, 0)), (4, (0, 0)), (8, (0, 0)), (9, (5, 0)), (10, (5, 0)), (11, (5, 0))]
  | _ => []
@[go_sem ↓] theorem pl47_11 : pl47 11 = [(0, (5, 0)), (1, (5, 0)), (2, (5, 0)), (3, (5, 0)), (5, (5, 0)), (6, (5, 0)), (7, (5, 0)), (4, (0, 0)), (8, (0, 0)), (9, (5, 0)), (10, (5, 0)), (11, (5, 0))] := (rfl)
def pl48 : Plans := fun id => match id with
  | _ => []
def pl49 : Plans := fun id => match id with
  | 1 => [(0, (5, 0)), (2, (5, 0)), (5, (5, 0)), (7, (5, 0)), (1, (0, 0)), (3, (0, 0)), (4, (5, 0)), (6, (0, 0)), (8, (0, 0)), (9, (1, 0)), (10, (2, 0)), (11, (2, 0))]
  | _ => []
@[go_sem ↓] theorem pl49_1 : pl49 1 = [(0, (5, 0)), (2, (5, 0)), (5, (5, 0)), (7, (5, 0)), (1, (0, 0)), (3, (0, 0)), (4, (5, 0)), (6, (0, 0)), (8, (0, 0)), (9, (1, 0)), (10, (2, 0)), (11, (2, 0))] := (rfl)
def pl50 : Plans := fun id => match id with
  | _ => []
def pl51 : Plans := fun id => match id with
  | _ => []
def pl52 : Plans := fun id => match id with
  | _ => []
def pl53 : Plans := fun id => match id with
  | _ => []
def pl54 : Plans := fun id => match id with
  | 2 => [(0, (5, 0)), (2, (5, 0)), (4, (5, 0)), (1, (0, 0)), (3, (0, 0)), (5, (0, 0)), (6, (1, 0)), (7, (2, 0)), (8, (2, 0))]
  | _ => []
@[go_sem ↓] theorem pl54_2 : pl54 2 = [(0, (5, 0)), (2, (5, 0)), (4, (5, 0)), (1, (0, 0)), (3, (0, 0)), (5, (0, 0)), (6, (1, 0)), (7, (2, 0)), (8, (2, 0))] := (rfl)
def pl55 : Plans := fun id => match id with
  | _ => []
def pl56 : Plans := fun id => match id with
  | _ => []
def pl57 : Plans := fun id => match id with
  | _ => []
def pl58 : Plans := fun id => match id with
  | 3 => [(0, (0, 0)), (1, (8, 2)), (3, (2, 0))]
  | _ => []
@[go_sem ↓] theorem pl58_3 : pl58 3 = [(0, (0, 0)), (1, (8, 2)), (3, (2, 0))] := (rfl)
def pl59 : Plans := fun id => match id with
  | 6 => [(0, (5, 0)), (2, (5, 0)), (1, (0, 0)), (3, (0, 0)), (4, (5, 0)), (5, (0, 0)), (6, (2, 0)), (7, (5, 0)), (8, (5, 0)), (9, (5, 0)), (10, (5, 0)), (11, (5, 0))]
  | _ => []
@[go_sem ↓] theorem pl59_6 : pl59 6 = [(0, (5, 0)), (2, (5, 0)), (1, (0, 0)), (3, (0, 0)), (4, (5, 0)), (5, (0, 0)), (6, (2, 0)), (7, (5, 0)), (8, (5, 0)), (9, (5, 0)), (10, (5, 0)), (11, (5, 0))] := (rfl)
def pl60 : Plans := fun id => match id with
  | _ => []
def pl61 : Plans := fun id => match id with
  | _ => []
def pl62 : Plans := fun id => match id with
  | _ => []
def pl63 : Plans := fun id => match id with
  | _ => []
def pl65 : Plans := fun id => match id with
  | _ => []
def pl66 : Plans := fun id => match id with
  | _ => []
def pl67 : Plans := fun id => match id with
  | _ => []
def pl68 : Plans := fun id => match id with
  | _ => []
def pl69 : Plans := fun id => match id with
  | _ => []
def pl70 : Plans := fun id => match id with
  | _ => []
def pl71 : Plans := fun id => match id with
  | 8 => [(0, (5, 0)), (1, (5, 0)), (2, (5, 0)), (4, (5, 0)), (5, (5, 0)), (6, (5, 0)), (3, (0, 0)), (7, (0, 0)), (8, (5, 0))]
  | 10 => [(0, (5, 0)), (1, (5, 0)), (2, (5, 0)), (4, (5, 0)), (5, (5, 0)), (6, (5, 0)), (3, (0, 0)), (7, (0, 0)), (8, (5, 0))]
  | _ => []
@[go_sem ↓] theorem pl71_8 : pl71 8 = [(0, (5, 0)), (1, (5, 0)), (2, (5, 0)), (4, (5, 0)), (5, (5, 0)), (6, (5, 0)), (3, (0, 0)), (7, (0, 0)), (8, (5, 0))] := (rfl)
@[go_sem ↓] theorem pl71_10 : pl71 10 = [(0, (5, 0)), (1, (5, 0)), (2, (5, 0)), (4, (5, 0)), (5, (5, 0)), (6, (5, 0)), (3, (0, 0)), (7, (0, 0)), (8, (5, 0))] := (rfl)
def pl72 : Plans := fun id => match id with
  | _ => []
def pl73 : Plans := fun id => match id with
  | _ => []
def pl74 : Plans := fun id => match id with
  | 10 => [(0, (5, 0)), (2, (5, 0)), (3, (5, 0)), (4, (5, 0)), (6, (5, 0)), (1, (2, 0)), (5, (2, 0)), (7, (2, 0)), (8, (2, 0)), (9, (2, 0)), (10, (5, 0))]
  | _ => []
@[go_sem ↓] theorem pl74_10 : pl74 10 = [(0, (5, 0)), (2, (5, 0)), (3, (5, 0)), (4, (5, 0)), (6, (5, 0)), (1, (2, 0)), (5, (2, 0)), (7, (2, 0)), (8, (2, 0)), (9, (2, 0)), (10, (5, 0))] := (rfl)
def pl76 : Plans := fun id => match id with
  | 6 => [(0, (5, 0)), (1, (5, 0)), (2, (5, 0)), (3, (5, 0)), (4, (5, 0)), (5, (5, 0)), (6, (5, 0)), (7, (5, 0))]
  | _ => []
@[go_sem ↓] theorem pl76_6 : pl76 6 = [(0, (5, 0)), (1, (5, 0)), (2, (5, 0)), (3, (5, 0)), (4, (5, 0)), (5, (5, 0)), (6, (5, 0)), (7, (5, 0))] := (rfl)
def pl77 : Plans := fun id => match id with
  | _ => []
def pl78 : Plans := fun id => match id with
  | _ => []
def pl79 : Plans := fun id => match id with
  | _ => []
def pl80 : Plans := fun id => match id with
  | 3 => [(0, (5, 0)), (1, (5, 0)), (2, (5, 0)), (5, (5, 0)), (6, (5, 0)), (7, (5, 0)), (11, (5, 0)), (3, (0, 0)), (8, (0, 0)), (9, (0, 0)), (4, (1, 0)), (10, (5, 0)), (12, (5, 0))]
  | _ => []
def pl81 : Plans := fun id => match id with
  | _ => []
def pl82 : Plans := fun id => match id with
  | _ => []
def pl83 : Plans := fun id => match id with
  | 1 => [(0, (5, 0)), (1, (5, 0)), (2, (5, 0)), (5, (5, 0)), (6, (5, 0)), (7, (5, 0)), (3, (0, 0)), (8, (0, 0)), (9, (0, 0)), (4, (1, 0)), (10, (2, 0)), (11, (5, 0))]
  | _ => []
def pl84 : Plans := fun id => match id with
  | _ => []
def pl85 : Plans := fun id => match id with
  | _ => []
def pl86 : Plans := fun id => match id with
  | 3 => [(0, (5, 0)), (1, (5, 0)), (2, (5, 0)), (4, (5, 0)), (5, (5, 0)), (6, (5, 0)), (7, (5, 0)), (3, (0, 0)), (8, (0, 0)), (9, (5, 0))]
  | 4 => [(0, (5, 0)), (1, (5, 0)), (2, (5, 0)), (4, (5, 0)), (5, (5, 0)), (6, (5, 0)), (7, (5, 0)), (9, (5, 0)), (10, (5, 0)), (11, (5, 0)), (12, (5, 0)), (3, (0, 0)), (8, (0, 0)), (13, (0, 0)), (14, (2, 0)), (15, (5, 0)), (16, (5, 0)), (17, (5, 0)), (18, (5, 0))]
  | _ => []
@[go_sem ↓] theorem pl86_3 : pl86 3 = [(0, (5, 0)), (1, (5, 0)), (2, (5, 0)), (4, (5, 0)), (5, (5, 0)), (6, (5, 0)), (7, (5, 0)), (3, (0, 0)), (8, (0, 0)), (9, (5, 0))] := (rfl)
@[go_sem ↓] theorem pl86_4 : pl86 4 = [(0, (5, 0)), (1, (5, 0)), (2, (5, 0)), (4, (5, 0)), (5, (5, 0)), (6, (5, 0)), (7, (5, 0)), (9, (5, 0)), (10, (5, 0)), (11, (5, 0)), (12, (5, 0)), (3, (0, 0)), (8, (0, 0)), (13, (0, 0)), (14, (2, 0)), (15, (5, 0)), (16, (5, 0)), (17, (5, 0)), (18, (5, 0))] := (rfl)
def pl87 : Plans := fun id => match id with
  | 10 => [(0, (5, 0)), (1, (5, 0)), (2, (5, 0)), (4, (5, 0)), (5, (5, 0)), (6, (5, 0)), (7, (5, 0)), (9, (5, 0)), (10, (5, 0)), (3, (0, 0)), (8, (0, 0)), (11, (5, 0)), (12, (5, 0)), (13, (5, 0)), (14, (2, 0))]
  | _ => []
@[go_sem ↓] theorem pl87_10 : pl87 10 = [(0, (5, 0)), (1, (5, 0)), (2, (5, 0)), (4, (5, 0)), (5, (5, 0)), (6, (5, 0)), (7, (5, 0)), (9, (5, 0)), (10, (5, 0)), (3, (0, 0)), (8, (0, 0)), (11, (5, 0)), (12, (5, 0)), (13, (5, 0)), (14, (2, 0))] := (rfl)
def pl88 : Plans := fun id => match id with
  | _ => []
def pl89 : Plans := fun id => match id with
  | _ => []
def pl90 : Plans := fun id => match id with
  | 7 => [(0, (5, 0)), (1, (5, 0)), (2, (5, 0)), (3, (5, 0)), (4, (5, 0)), (5, (5, 0)), (6, (5, 0)), (7, (5, 0)), (8, (5, 0)), (9, (5, 0)), (10, (5, 0)), (11, (5, 0)), (12, (2, 0)), (13, (5, 0)), (14, (2, 0))]
  | 8 => [(0, (5, 0)), (1, (5, 0)), (2, (5, 0)), (3, (5, 0)), (4, (5, 0)), (5, (5, 0)), (6, (5, 0)), (7, (5, 0)), (8, (5, 0)), (9, (5, 0)), (10, (5, 0)), (11, (5, 0)), (12, (2, 0)), (13, (5, 0)), (14, (2, 0))]
  | 9 => [(0, (5, 0)), (1, (5, 0)), (2, (5, 0)), (3, (5, 0)), (4, (5, 0)), (5, (5, 0)), (6, (5, 0)), (7, (5, 0)), (8, (5, 0)), (9, (5, 0)), (10, (5, 0)), (11, (5, 0)), (12, (2, 0)), (13, (5, 0)), (14, (2, 0))]
  | 10 => [(0, (5, 0)), (1, (5, 0)), (2, (5, 0)), (3, (5, 0)), (4, (5, 0)), (5, (5, 0)), (6, (5, 0)), (7, (5, 0)), (8, (5, 0)), (9, (5, 0)), (10, (5, 0)), (11, (5, 0)), (12, (2, 0)), (13, (5, 0)), (14, (2, 0))]
  | 17 => [(0, (5, 0)), (1, (5, 0)), (2, (5, 0)), (3, (5, 0)), (4, (5, 0)), (5, (5, 0)), (6, (5, 0)), (7, (5, 0)), (8, (5, 0)), (9, (5, 0)), (10, (5, 0)), (11, (5, 0)), (12, (2, 0)), (13, (5, 0)), (14, (2, 0))]
  | 18 => [(0, (5, 0)), (1, (5, 0)), (2, (5, 0)), (3, (5, 0)), (4, (5, 0)), (5, (5, 0)), (6, (5, 0)), (7, (5, 0)), (8, (5, 0)), (9, (5, 0)), (10, (5, 0)), (11, (5, 0)), (12, (2, 0)), (13, (5, 0)), (14, (2, 0))]
  | 23 => [(0, (5, 0)), (1, (5, 0)), (2, (5, 0)), (3, (5, 0)), (4, (5, 0)), (5, (5, 0)), (6, (5, 0)), (7, (5, 0)), (8, (5, 0)), (9, (5, 0)), (10, (5, 0)), (11, (5, 0)), (12, (2, 0)), (13, (5, 0)), (14, (2, 0))]
  | _ => []
@[go_sem ↓] theorem pl90_7 : pl90 7 = [(0, (5, 0)), (1, (5, 0)), (2, (5, 0)), (3, (5, 0)), (4, (5, 0)), (5, (5, 0)), (6, (5, 0)), (7, (5, 0)), (8, (5, 0)), (9, (5, 0)), (10, (5, 0)), (11, (5, 0)), (12, (2, 0)), (13, (5, 0)), (14, (2, 0))] := (rfl)
@[go_sem ↓] theorem pl90_8 : pl90 8 = [(0, (5, 0)), (1, (5, 0)), (2, (5, 0)), (3, (5, 0)), (4, (5, 0)), (5, (5, 0)), (6, (5, 0)), (7, (5, 0)), (8, (5, 0)), (9, (5, 0)), (10, (5, 0)), (11, (5, 0)), (12, (2, 0)), (13, (5, 0)), (14, (2, 0))] := (rfl)
@[go_sem ↓] theorem pl90_9 : pl90 9 = [(0, (5, 0)), (1, (5, 0)), (2, (5, 0)), (3, (5, 0)), (4, (5, 0)), (5, (5, 0)), (6, (5, 0)), (7, (5, 0)), (8, (5, 0)), (9, (5, 0)), (10, (5, 0)), (11, (5, 0)), (12, (2, 0)), (13, (5, 0)), (14, (2, 0))] := (rfl)
@[go_sem ↓] theorem pl90_10 : pl90 10 = [(0, (5, 0)), (1, (5, 0)), (2, (5, 0)), (3, (5, 0)), (4, (5, 0)), (5, (5, 0)), (6, (5, 0)), (7, (5, 0)), (8, (5, 0)), (9, (5, 0)), (10, (5, 0)), (11, (5, 0)), (12, (2, 0)), (13, (5, 0)), (14, (2, 0))] := (rfl)
@[go_sem ↓] theorem pl90_17 : pl90 17 = [(0, (5, 0)), (1, (5, 0)), (2, (5, 0)), (3, (5, 0)), (4, (5, 0)), (5, (5, 0)), (6, (5, 0)), (7, (5, 0)), (8, (5, 0)), (9, (5, 0)), (10, (5, 0)), (11, (5, 0)), (12, (2, 0)), (13, (5, 0)), (14, (2, 0))] := (rfl)
@[go_sem ↓] theorem pl90_18 : pl90 18 = [(0, (5, 0)), (1, (5, 0)), (2, (5, 0)), (3, (5, 0)), (4, (5, 0)), (5, (5, 0)), (6, (5, 0)), (7, (5, 0)), (8, (5, 0)), (9, (5, 0)), (10, (5, 0)), (11, (5, 0)), (12, (2, 0)), (13, (5, 0)), (14, (2, 0))] := (rfl)
@[go_sem ↓] theorem pl90_23 : pl90 23 = [(0, (5, 0)), (1, (5, 0)), (2, (5, 0)), (3, (5, 0)), (4, (5, 0)), (5, (5, 0)), (6, (5, 0)), (7, (5, 0)), (8, (5, 0)), (9, (5, 0)), (10, (5, 0)), (11, (5, 0)), (12, (2, 0)), (13, (5, 0)), (14, (2, 0))] := (rfl)
def pl91 : Plans := fun id => match id with
  | _ => []
def pl92 : Plans := fun id => match id with
  | _ => []
def pl93 : Plans := fun id => match id with
  | _ => []
def pl94 : Plans := fun id => match id with
  | _ => []
def pl95 : Plans := fun id => match id with
  | 0 => [(0, (5, 0)), (1, (5, 0)), (2, (5, 0)), (6, (5, 0)), (9, (5, 0)), (10, (5, 0)), (11, (5, 0)), (3, (0, 0)), (12, (0, 0)), (13, (0, 0)), (4, (1, 0)), (5, (5, 0)), (7, (5, 0)), (8, (1, 0)), (14, (5, 0)), (15, (5, 0))]
  | _ => []
def pl96 : Plans := fun id => match id with
  | _ => []
def pl97 : Plans := fun id => match id with
  | _ => []
def pl98 : Plans := fun id => match id with
  | _ => []
def pl99 : Plans := fun id => match id with
  | _ => []
def pl100 : Plans := fun id => match id with
  | _ => []
def pl103 : Plans := fun id => match id with
  | _ => []
def pl104 : Plans := fun id => match id with
  | _ => []
def pl128 : Plans := fun id => match id with
  | _ => []
@[go_sem ↓ high] theorem vcvh_5_3 (h : -9223372036854775808 ≤ a ∧ a ≤ 9223372036854775807) : cvsV Tryd.prog 5 3 (.lit (.int i a)) σ F = F true (.lit (.int .i64 a)) := (cvsV_num (by kernel_rfl)).trans (cvtV_i64 (by kernel_rfl) (by kernel_rfl) h)
@[go_sem ↓] theorem vsy_5_3 : sbyV Tryd.prog 5 3 u σ kv = cvsV Tryd.prog 5 3 u σ fun τ u => kv τ u σ := sbyV_num (by kernel_rfl)
@[go_sem ↓ high] theorem vshr_i64_u64_18 {P : Program} {t : TypeId} : binV P .shr t (.lit (.int .i64 a)) (.lit (.int .u64 18)) F = F true (.lit (.int .i64 (a / 262144))) := by rw [binV_shr_i64 (by decide)]; rfl
@[go_sem ↓ high] theorem vcvh_48_3 (h : -9223372036854775808 ≤ a ∧ a ≤ 9223372036854775807) : cvsV Tryd.prog 48 3 (.lit (.int i a)) σ F = F true (.lit (.int .i64 a)) := (cvsV_num (by kernel_rfl)).trans (cvtV_i64 (by kernel_rfl) (by kernel_rfl) h)
@[go_sem ↓] theorem vsy_48_3 : sbyV Tryd.prog 48 3 u σ kv = cvsV Tryd.prog 48 3 u σ fun τ u => kv τ u σ := sbyV_num (by kernel_rfl)
@[go_sem ↓] theorem vix_22 (h : 0 ≤ a ∧ a < len) : idxV Tryd.prog 22 (.sl o 1 off len) (.lit (.int i a)) F = F true (.ref o 1 (off + a.toNat) 0) := idxV_sl (et := 48) (by kernel_rfl) h
@[go_sem ↓ high] theorem vixn_22 (h : m < len) : idxV Tryd.prog 22 (.sl o 1 off len) (.lit (.int i (m : Int))) F = F true (.ref o 1 (off + m) 0) := idxV_sln (et := 48) (by kernel_rfl) h
@[go_sem ↓ high] theorem vixrn_22 (h : m < l.length) : idxV Tryd.prog 22 (.row 1 l) (.lit (.int i (m : Int))) F = F true (.rref 1 l m 0) := idxV_rown (et := 48) (by kernel_rfl) (by decide) h
@[go_sem ↓ high] theorem vixm_22 (h : 0 ≤ a ∧ a < L.length) : idxV Tryd.prog 22 (.row 1 (L.map f)) (.lit (.int i a)) F = F true (.rref 1 (L.map f) a.toNat 0) := idxV_rowm (et := 48) (by kernel_rfl) (by decide) h
@[go_sem ↓] theorem vld_48 : ldV Tryd.prog 48 u σ F = rdV u σ (none) F := ldV_of (by kernel_rfl)
@[go_sem ↓] theorem vst_48 : stV Tryd.prog 48 u v σ ks = clK v fun c => lenK c 1 (wrV u σ c ks) := stV_of (by kernel_rfl)
@[go_sem ↓] theorem vln_22 : bltV Tryd.prog e .len [22] [.row m l] σ kv = lenV (.row m l) fun τ v => kv τ v σ := lenB_row (by kernel_rfl)
@[go_sem ↓] theorem vlns_22 : bltV Tryd.prog e .len [22] [.sl o m off len] σ kv = lenV (.sl o m off len) fun τ v => kv τ v σ := lenB_sl (by kernel_rfl)
@[go_sem ↓] theorem vlns_106 : bltV Tryd.prog e .len [106] [.sl o m off len] σ kv = lenV (.sl o m off len) fun τ v => kv τ v σ := lenB_sl (by kernel_rfl)
@[go_sem ↓] theorem vlnt_9 {s : List UInt8} : bltV Tryd.prog e .len [9] [.lit (.string (bs s))] σ kv = kv true (.lit (.int .i64 (s.length : Int))) σ := lenB_str (by kernel_rfl)
@[go_sem ↓] theorem vslt_9 {s : List UInt8} : slcV Tryd.prog 9 (.lit (.string (bs s))) lo hi none F = bdoK hi s.length s.length fun h => bdoK lo 0 h fun x => F true (.lit (.string (bs ((s.take h).drop x)))) := slcV_str (by kernel_rfl)
@[go_sem ↓ high] theorem vshr_u64_u64_32 {P : Program} {t : TypeId} : binV P .shr t (.lit (.int .u64 a)) (.lit (.int .u64 32)) F = F true (.lit (.int .u64 (a / 4294967296))) := by rw [binV_shr_u64 (by decide)]; rfl
@[go_sem ↓ high] theorem vcvh_48_121 (h : 0 ≤ a ∧ a ≤ 4294967295) : cvsV Tryd.prog 48 121 (.lit (.int i a)) σ F = F true (.lit (.int .u32 a)) := (cvsV_num (by kernel_rfl)).trans (cvtV_u32 (by kernel_rfl) (by kernel_rfl) h)
@[go_sem ↓] theorem vsy_48_121 : sbyV Tryd.prog 48 121 u σ kv = cvsV Tryd.prog 48 121 u σ fun τ u => kv τ u σ := sbyV_num (by kernel_rfl)
@[go_sem ↓] theorem vsy_106_9 : sbyV Tryd.prog 106 9 u σ kv = cvsV Tryd.prog 106 9 u σ fun τ u => kv τ u σ := sbyV_byt (by kernel_rfl)
@[go_sem ↓] theorem vcs_106_9 : cvsV Tryd.prog 106 9 u σ F = rowK u σ 1 fun l => bytK l fun b => F true (.lit (.string (bs b))) := cvsV_byt (by kernel_rfl) (by kernel_rfl)
@[go_sem ↓] theorem vst_5 : stV Tryd.prog 5 u v σ ks = clK v fun c => lenK c 1 (wrV u σ c ks) := stV_of (by kernel_rfl)
@[go_sem ↓] theorem visb_9 {s : List UInt8} (h : 0 ≤ a ∧ a < s.length) : ixvV Tryd.prog 9 (.lit (.string (bs s))) (.lit (.int i a)) F = F true (.lit (.int .u8 ((s.getD a.toNat 0).toNat : Int))) := ixvV_bs (by kernel_rfl) h
@[go_sem ↓] theorem vis_9 {s : ByteArray} (h : 0 ≤ a ∧ a < s.size) : ixvV Tryd.prog 9 (.lit (.string s)) (.lit (.int i a)) F = F true (.lit (.int .u8 (strAt s a.toNat))) := ixvV_str (by kernel_rfl) h
@[go_sem ↓] theorem vcv_3_48 : cvsV Tryd.prog 3 48 (.lit (.int i a)) σ F = F true (.lit (.int .u64 (IntKind.wrap .u64 a))) := (cvsV_num (by kernel_rfl)).trans (cvtV_of (by kernel_rfl) (by kernel_rfl))
@[go_sem ↓ high] theorem vcvh_3_48 (h : 0 ≤ a ∧ a ≤ 18446744073709551615) : cvsV Tryd.prog 3 48 (.lit (.int i a)) σ F = F true (.lit (.int .u64 a)) := (cvsV_num (by kernel_rfl)).trans (cvtV_u64 (by kernel_rfl) (by kernel_rfl) h)
@[go_sem ↓] theorem vsy_3_48 : sbyV Tryd.prog 3 48 u σ kv = cvsV Tryd.prog 3 48 u σ fun τ u => kv τ u σ := sbyV_num (by kernel_rfl)
@[go_sem ↓ high] theorem vcvh_3_83 (h : 0 ≤ a ∧ a ≤ 18446744073709551615) : cvsV Tryd.prog 3 83 (.lit (.int i a)) σ F = F true (.lit (.int .u64 a)) := (cvsV_num (by kernel_rfl)).trans (cvtV_u64 (by kernel_rfl) (by kernel_rfl) h)
@[go_sem ↓] theorem vsy_3_83 : sbyV Tryd.prog 3 83 u σ kv = cvsV Tryd.prog 3 83 u σ fun τ u => kv τ u σ := sbyV_num (by kernel_rfl)
@[go_sem ↓ high] theorem vcvh_121_5 (h : 0 ≤ a ∧ a ≤ 255) : cvsV Tryd.prog 121 5 (.lit (.int i a)) σ F = F true (.lit (.int .u8 a)) := (cvsV_num (by kernel_rfl)).trans (cvtV_u8 (by kernel_rfl) (by kernel_rfl) h)
@[go_sem ↓] theorem vsy_121_5 : sbyV Tryd.prog 121 5 u σ kv = cvsV Tryd.prog 121 5 u σ fun τ u => kv τ u σ := sbyV_num (by kernel_rfl)
@[go_sem ↓] theorem vix_106 (h : 0 ≤ a ∧ a < len) : idxV Tryd.prog 106 (.sl o 1 off len) (.lit (.int i a)) F = F true (.ref o 1 (off + a.toNat) 0) := idxV_sl (et := 5) (by kernel_rfl) h
@[go_sem ↓] theorem vst_27 : stV Tryd.prog 27 u v σ ks = clK v fun c => lenK c 1 (wrV u σ c ks) := stV_of (by kernel_rfl)
@[go_sem ↓] theorem vfa_27_0 : fadV Tryd.prog 27 (.ref o z i' off) 0 F = F true (.ref o z i' off) := fadV_ref (x := 0) (ag := false) (m := 1) (by kernel_rfl)
@[go_sem ↓] theorem vld_22 : ldV Tryd.prog 22 u σ F = rdV u σ (none) F := ldV_of (by kernel_rfl)
@[go_sem ↓] theorem vsl_22 : slcV Tryd.prog 22 (.sl o 1 off len) lo hi none F = bdoK hi len len fun h => bdoK lo 0 h fun l => F true (.sl o 1 (off + l) (h - l)) := slcV_sl (et := 48) (by kernel_rfl)
@[go_sem ↓ high] theorem vslm_22 : slcV Tryd.prog 22 (.row 1 (L.map f)) lo hi none F = bdoK hi L.length L.length fun h => bdoK lo 0 h fun x => F true (.row 1 (((L.take h).drop x).map f)) := slcV_rowm (et := 48) (by kernel_rfl)
@[go_sem ↓] theorem vbd_27 {ps : List (Nat × V)} : bldV Tryd.prog 27 ps F = allOne ([.slice none 0 0] : List Value) (fillK (plOf Tryd.prog 27) ps (([.slice none 0 0] : List Value).map V.lit) fun l => F true (.agg l)) := bldV_of (by kernel_rfl) (by kernel_rfl) (by kernel_rfl)
@[go_sem ↓] theorem val_27 : alcV Tryd.prog 27 σ kv = allOne ([.slice none 0 0] : List Value) (newO σ (.cells (([.slice none 0 0] : List Value).map V.lit)) fun o σ' => kv true (.ref o 0 0 0) σ') := alcV_of (by kernel_rfl)
@[go_sem ↓] theorem vbs_33_1 {ps : List (Nat × V)} : bslV Tryd.prog 33 1 ps σ kv = prtK 1 0 ps fun l => lenK l 1 (newO σ (.row 1 l) fun o σ' => kv true (.sl o 1 0 1) σ') := bslV_of (et := 3) (by kernel_rfl) ⟨by kernel_rfl, by decide, by decide⟩
@[go_sem ↓] theorem vap_33_33 : apdV Tryd.prog e 33 33 u v σ kv = rowK v σ 1 fun m => apdU e 1 8 u m σ kv := apdV_of (et := 3) (ex := 3) (C := [.int .i64 0]) (by kernel_rfl) (by kernel_rfl) (by kernel_rfl) (by kernel_rfl) (by decide) rfl
@[go_sem ↓] theorem vix_33 (h : 0 ≤ a ∧ a < len) : idxV Tryd.prog 33 (.sl o 1 off len) (.lit (.int i a)) F = F true (.ref o 1 (off + a.toNat) 0) := idxV_sl (et := 3) (by kernel_rfl) h
@[go_sem ↓ high] theorem vixn_33 (h : m < len) : idxV Tryd.prog 33 (.sl o 1 off len) (.lit (.int i (m : Int))) F = F true (.ref o 1 (off + m) 0) := idxV_sln (et := 3) (by kernel_rfl) h
@[go_sem ↓ high] theorem vixrn_33 (h : m < l.length) : idxV Tryd.prog 33 (.row 1 l) (.lit (.int i (m : Int))) F = F true (.rref 1 l m 0) := idxV_rown (et := 3) (by kernel_rfl) (by decide) h
@[go_sem ↓ high] theorem vixm_33 (h : 0 ≤ a ∧ a < L.length) : idxV Tryd.prog 33 (.row 1 (L.map f)) (.lit (.int i a)) F = F true (.rref 1 (L.map f) a.toNat 0) := idxV_rowm (et := 3) (by kernel_rfl) (by decide) h
@[go_sem ↓] theorem vld_3 : ldV Tryd.prog 3 u σ F = rdV u σ (none) F := ldV_of (by kernel_rfl)
@[go_sem ↓] theorem vln_33 : bltV Tryd.prog e .len [33] [.row m l] σ kv = lenV (.row m l) fun τ v => kv τ v σ := lenB_row (by kernel_rfl)
@[go_sem ↓] theorem val_117 : alcV Tryd.prog 117 σ kv = allOne ([.int .u8 0, .int .u8 0, .int .u8 0, .int .u8 0, .int .u8 0, .int .u8 0, .int .u8 0, .int .u8 0, .int .u8 0, .int .u8 0, .int .u8 0, .int .u8 0, .int .u8 0, .int .u8 0, .int .u8 0, .int .u8 0, .int .u8 0, .int .u8 0, .int .u8 0, .int .u8 0, .int .u8 0, .int .u8 0, .int .u8 0, .int .u8 0] : List Value) (newO σ (.cells (([.int .u8 0, .int .u8 0, .int .u8 0, .int .u8 0, .int .u8 0, .int .u8 0, .int .u8 0, .int .u8 0, .int .u8 0, .int .u8 0, .int .u8 0, .int .u8 0, .int .u8 0, .int .u8 0, .int .u8 0, .int .u8 0, .int .u8 0, .int .u8 0, .int .u8 0, .int .u8 0, .int .u8 0, .int .u8 0, .int .u8 0, .int .u8 0] : List Value).map V.lit)) fun o σ' => kv true (.ref o 0 0 0) σ') := alcV_of (by kernel_rfl)
@[go_sem ↓ high] theorem vmk_u64_4294967295 {P : Program} {t : TypeId} : binV P .and t (.lit (.int .u64 a)) (.lit (.int .u64 4294967295)) F = F true (.lit (.int .u64 (a % 4294967296))) := binV_mask 32 (by decide) (by decide) (by decide)
@[go_sem ↓] theorem vms_22 : mslV Tryd.prog 22 u v σ kv = mslU 1 8 [.int .u64 0] u v σ kv := mslV_of (et := 48) (by kernel_rfl) (by kernel_rfl) (by kernel_rfl)
@[go_sem ↓] theorem vmu_22 (h : 0 ≤ a ∧ a * 8 ≤ 140737488355328) : mslU 1 8 [.int .u64 0] (.lit (.int .i64 a)) (.lit (.int .i64 a)) σ kv = newO σ (.row 1 (zrow [.int .u64 0] a.toNat)) fun o σ' => kv true (.sl o 1 0 a.toNat) σ' := by
  rw [mslU_of (C := [.int .u64 0]) (z := 1) ⟨h.1, rfl, h.2, by omega, by decide⟩ rfl]
  simp [allOne, oneC]
@[go_sem ↓ high] theorem vmun_22 (h : m * 8 ≤ 140737488355328) : mslU 1 8 [.int .u64 0] (.lit (.int .i64 (m : Int))) (.lit (.int .i64 (m : Int))) σ kv = newO σ (.row 1 (zrow [.int .u64 0] m)) fun o σ' => kv true (.sl o 1 0 m) σ' := vmu_22 (by omega)
@[go_sem ↓ high] theorem vcvh_48_5 (h : 0 ≤ a ∧ a ≤ 255) : cvsV Tryd.prog 48 5 (.lit (.int i a)) σ F = F true (.lit (.int .u8 a)) := (cvsV_num (by kernel_rfl)).trans (cvtV_u8 (by kernel_rfl) (by kernel_rfl) h)
@[go_sem ↓] theorem vsy_48_5 : sbyV Tryd.prog 48 5 u σ kv = cvsV Tryd.prog 48 5 u σ fun τ u => kv τ u σ := sbyV_num (by kernel_rfl)
@[go_sem ↓ high] theorem vshr_u64_u64_8 {P : Program} {t : TypeId} : binV P .shr t (.lit (.int .u64 a)) (.lit (.int .u64 8)) F = F true (.lit (.int .u64 (a / 256))) := by rw [binV_shr_u64 (by decide)]; rfl
@[go_sem ↓ high] theorem vshr_u64_u64_16 {P : Program} {t : TypeId} : binV P .shr t (.lit (.int .u64 a)) (.lit (.int .u64 16)) F = F true (.lit (.int .u64 (a / 65536))) := by rw [binV_shr_u64 (by decide)]; rfl
@[go_sem ↓] theorem vfa_35_0 : fadV Tryd.prog 35 (.ref o z i' off) 0 F = F true (.ref o z i' off) := fadV_ref (x := 0) (ag := false) (m := 1) (by kernel_rfl)
@[go_sem ↓] theorem vld_33 : ldV Tryd.prog 33 u σ F = rdV u σ (none) F := ldV_of (by kernel_rfl)
@[go_sem ↓] theorem vfa_35_1 : fadV Tryd.prog 35 (.ref o z i' off) 1 F = F true (.ref o z i' (off + 1)) := fadV_ref (x := 1) (ag := false) (m := 1) (by kernel_rfl)
@[go_sem ↓ high] theorem vcvh_3_5 (h : 0 ≤ a ∧ a ≤ 255) : cvsV Tryd.prog 3 5 (.lit (.int i a)) σ F = F true (.lit (.int .u8 a)) := (cvsV_num (by kernel_rfl)).trans (cvtV_u8 (by kernel_rfl) (by kernel_rfl) h)
@[go_sem ↓] theorem vsy_3_5 : sbyV Tryd.prog 3 5 u σ kv = cvsV Tryd.prog 3 5 u σ fun τ u => kv τ u σ := sbyV_num (by kernel_rfl)
@[go_sem ↓] theorem vbs_106_1 {ps : List (Nat × V)} : bslV Tryd.prog 106 1 ps σ kv = prtK 1 0 ps fun l => lenK l 1 (newO σ (.row 1 l) fun o σ' => kv true (.sl o 1 0 1) σ') := bslV_of (et := 5) (by kernel_rfl) ⟨by kernel_rfl, by decide, by decide⟩
@[go_sem ↓] theorem vst_3 : stV Tryd.prog 3 u v σ ks = clK v fun c => lenK c 1 (wrV u σ c ks) := stV_of (by kernel_rfl)
@[go_sem ↓] theorem vms_33 : mslV Tryd.prog 33 u v σ kv = mslU 1 8 [.int .i64 0] u v σ kv := mslV_of (et := 3) (by kernel_rfl) (by kernel_rfl) (by kernel_rfl)
@[go_sem ↓] theorem vmu_33 (h : 0 ≤ a ∧ a * 8 ≤ 140737488355328) : mslU 1 8 [.int .i64 0] (.lit (.int .i64 a)) (.lit (.int .i64 a)) σ kv = newO σ (.row 1 (zrow [.int .i64 0] a.toNat)) fun o σ' => kv true (.sl o 1 0 a.toNat) σ' := by
  rw [mslU_of (C := [.int .i64 0]) (z := 1) ⟨h.1, rfl, h.2, by omega, by decide⟩ rfl]
  simp [allOne, oneC]
@[go_sem ↓ high] theorem vmun_33 (h : m * 8 ≤ 140737488355328) : mslU 1 8 [.int .i64 0] (.lit (.int .i64 (m : Int))) (.lit (.int .i64 (m : Int))) σ kv = newO σ (.row 1 (zrow [.int .i64 0] m)) fun o σ' => kv true (.sl o 1 0 m) σ' := vmu_33 (by omega)
@[go_sem ↓ high] theorem vslm_33 : slcV Tryd.prog 33 (.row 1 (L.map f)) lo hi none F = bdoK hi L.length L.length fun h => bdoK lo 0 h fun x => F true (.row 1 (((L.take h).drop x).map f)) := slcV_rowm (et := 3) (by kernel_rfl)
@[go_sem ↓ high] theorem vcvh_83_3 (h : -9223372036854775808 ≤ a ∧ a ≤ 9223372036854775807) : cvsV Tryd.prog 83 3 (.lit (.int i a)) σ F = F true (.lit (.int .i64 a)) := (cvsV_num (by kernel_rfl)).trans (cvtV_i64 (by kernel_rfl) (by kernel_rfl) h)
@[go_sem ↓] theorem vsy_83_3 : sbyV Tryd.prog 83 3 u σ kv = cvsV Tryd.prog 83 3 u σ fun τ u => kv τ u σ := sbyV_num (by kernel_rfl)
@[go_sem ↓] theorem vld_27 : ldV Tryd.prog 27 u σ F = rdV u σ (some 1) F := ldV_of (by kernel_rfl)
@[go_sem ↓] theorem vbs_22_1 {ps : List (Nat × V)} : bslV Tryd.prog 22 1 ps σ kv = prtK 1 0 ps fun l => lenK l 1 (newO σ (.row 1 l) fun o σ' => kv true (.sl o 1 0 1) σ') := bslV_of (et := 48) (by kernel_rfl) ⟨by kernel_rfl, by decide, by decide⟩
@[go_sem ↓] theorem vfa_29_1 : fadV Tryd.prog 29 (.ref o z i' off) 1 F = F true (.ref o z i' (off + 1)) := fadV_ref (x := 1) (ag := false) (m := 1) (by kernel_rfl)
@[go_sem ↓] theorem vld_4 : ldV Tryd.prog 4 u σ F = rdV u σ (none) F := ldV_of (by kernel_rfl)
@[go_sem ↓] theorem vst_29 : stV Tryd.prog 29 u v σ ks = clK v fun c => lenK c 2 (wrV u σ c ks) := stV_of (by kernel_rfl)
@[go_sem ↓] theorem vfa_29_0 : fadV Tryd.prog 29 (.ref o z i' off) 0 F = F true (.ref o z i' off) := fadV_ref (x := 0) (ag := true) (m := 1) (by kernel_rfl)
@[go_sem ↓] theorem vbeq_4 {x y : Bool} : binV Tryd.prog .eql 4 (.lit (.bool x)) (.lit (.bool y)) F = F true (.lit (.bool (x == y))) := binV_beq (by kernel_rfl)
@[go_sem ↓] theorem val_29 : alcV Tryd.prog 29 σ kv = allOne ([.slice none 0 0, .bool false] : List Value) (newO σ (.cells (([.slice none 0 0, .bool false] : List Value).map V.lit)) fun o σ' => kv true (.ref o 0 0 0) σ') := alcV_of (by kernel_rfl)
@[go_sem ↓] theorem vld_31 : ldV Tryd.prog 31 u σ F = rdV u σ (some 3) F := ldV_of (by kernel_rfl)
@[go_sem ↓] theorem vbne_4 {x y : Bool} : binV Tryd.prog .neq 4 (.lit (.bool x)) (.lit (.bool y)) F = F true (.lit (.bool (!(x == y)))) := binV_bne (by kernel_rfl)
@[go_sem ↓] theorem vfa_37_0 : fadV Tryd.prog 37 (.ref o z i' off) 0 F = F true (.ref o z i' off) := fadV_ref (x := 0) (ag := true) (m := 2) (by kernel_rfl)
@[go_sem ↓] theorem vld_35 : ldV Tryd.prog 35 u σ F = rdV u σ (some 2) F := ldV_of (by kernel_rfl)
@[go_sem ↓] theorem vfa_37_1 : fadV Tryd.prog 37 (.ref o z i' off) 1 F = F true (.ref o z i' (off + 2)) := fadV_ref (x := 2) (ag := false) (m := 1) (by kernel_rfl)
@[go_sem ↓] theorem vbd_35 {ps : List (Nat × V)} : bldV Tryd.prog 35 ps F = allOne ([.slice none 0 0, .slice none 0 0] : List Value) (fillK (plOf Tryd.prog 35) ps (([.slice none 0 0, .slice none 0 0] : List Value).map V.lit) fun l => F true (.agg l)) := bldV_of (by kernel_rfl) (by kernel_rfl) (by kernel_rfl)
@[go_sem ↓] theorem vpl_35_0 {r : List (Nat × V)} {G : List V → Prop} : fillK (plOf Tryd.prog 35) ((0, u) :: r) us G = clK u fun c => lenK c 1 (wrK us 0 c fun l' => fillK (plOf Tryd.prog 35) r l' G) := fillK_step (by kernel_rfl)
@[go_sem ↓] theorem vpl_35_1 {r : List (Nat × V)} {G : List V → Prop} : fillK (plOf Tryd.prog 35) ((1, u) :: r) us G = clK u fun c => lenK c 1 (wrK us 1 c fun l' => fillK (plOf Tryd.prog 35) r l' G) := fillK_step (by kernel_rfl)
@[go_sem ↓] theorem vst_35 : stV Tryd.prog 35 u v σ ks = clK v fun c => lenK c 2 (wrV u σ c ks) := stV_of (by kernel_rfl)
@[go_sem ↓] theorem val_35 : alcV Tryd.prog 35 σ kv = allOne ([.slice none 0 0, .slice none 0 0] : List Value) (newO σ (.cells (([.slice none 0 0, .slice none 0 0] : List Value).map V.lit)) fun o σ' => kv true (.ref o 0 0 0) σ') := alcV_of (by kernel_rfl)
@[go_sem ↓] theorem vbs_22_0 {ps : List (Nat × V)} : bslV Tryd.prog 22 0 ps σ kv = prtK 1 0 ps fun l => lenK l 0 (newO σ (.row 1 l) fun o σ' => kv true (.sl o 1 0 0) σ') := bslV_of (et := 48) (by kernel_rfl) ⟨by kernel_rfl, by decide, by decide⟩
@[go_sem ↓] theorem vap_22_22 : apdV Tryd.prog e 22 22 u v σ kv = rowK v σ 1 fun m => apdU e 1 8 u m σ kv := apdV_of (et := 48) (ex := 48) (C := [.int .u64 0]) (by kernel_rfl) (by kernel_rfl) (by kernel_rfl) (by kernel_rfl) (by decide) rfl
@[go_sem ↓] theorem vseq_22 : binV Tryd.prog .eql 22 (.row 1 l) (.lit (.slice none 0 0)) F = nilB .eql l.isEmpty F := binV_seq ⟨by kernel_rfl, by decide⟩
@[go_sem ↓] theorem vpl_27_0 {r : List (Nat × V)} {G : List V → Prop} : fillK (plOf Tryd.prog 27) ((0, u) :: r) us G = clK u fun c => lenK c 1 (wrK us 0 c fun l' => fillK (plOf Tryd.prog 27) r l' G) := fillK_step (by kernel_rfl)
@[go_sem ↓] theorem vfd_27_0 : fldV Tryd.prog 27 (.agg us) 0 F = atK us 0 fun v => F true v := fldV_at (m := 1) (by kernel_rfl)
@[go_sem ↓] theorem vfa_31_1 : fadV Tryd.prog 31 (.ref o z i' off) 1 F = F true (.ref o z i' (off + 2)) := fadV_ref (x := 2) (ag := true) (m := 1) (by kernel_rfl)
@[go_sem ↓] theorem vld_29 : ldV Tryd.prog 29 u σ F = rdV u σ (some 2) F := ldV_of (by kernel_rfl)
@[go_sem ↓] theorem vbd_31 {ps : List (Nat × V)} : bldV Tryd.prog 31 ps F = allOne ([.slice none 0 0, .bool false, .slice none 0 0] : List Value) (fillK (plOf Tryd.prog 31) ps (([.slice none 0 0, .bool false, .slice none 0 0] : List Value).map V.lit) fun l => F true (.agg l)) := bldV_of (by kernel_rfl) (by kernel_rfl) (by kernel_rfl)
@[go_sem ↓] theorem vpl_31_0 {r : List (Nat × V)} {G : List V → Prop} : fillK (plOf Tryd.prog 31) ((0, u) :: r) us G = clK u fun c => lenK c 2 (wrK us 0 c fun l' => fillK (plOf Tryd.prog 31) r l' G) := fillK_step (by kernel_rfl)
@[go_sem ↓] theorem vpl_31_1 {r : List (Nat × V)} {G : List V → Prop} : fillK (plOf Tryd.prog 31) ((1, u) :: r) us G = clK u fun c => lenK c 1 (wrK us 2 c fun l' => fillK (plOf Tryd.prog 31) r l' G) := fillK_step (by kernel_rfl)
@[go_sem ↓] theorem vst_31 : stV Tryd.prog 31 u v σ ks = clK v fun c => lenK c 3 (wrV u σ c ks) := stV_of (by kernel_rfl)
@[go_sem ↓] theorem val_31 : alcV Tryd.prog 31 σ kv = allOne ([.slice none 0 0, .bool false, .slice none 0 0] : List Value) (newO σ (.cells (([.slice none 0 0, .bool false, .slice none 0 0] : List Value).map V.lit)) fun o σ' => kv true (.ref o 0 0 0) σ') := alcV_of (by kernel_rfl)
@[go_sem ↓ high] theorem vshr_i64_u64_1 {P : Program} {t : TypeId} : binV P .shr t (.lit (.int .i64 a)) (.lit (.int .u64 1)) F = F true (.lit (.int .i64 (a / 2))) := by rw [binV_shr_i64 (by decide)]; rfl
@[go_sem ↓ high] theorem vmk_i64_1 {P : Program} {t : TypeId} : binV P .and t (.lit (.int .i64 a)) (.lit (.int .i64 1)) F = F true (.lit (.int .i64 (a % 2))) := binV_mask 1 (by decide) (by decide) (by decide)
@[go_sem ↓] theorem vbd_37 {ps : List (Nat × V)} : bldV Tryd.prog 37 ps F = allOne ([.slice none 0 0, .slice none 0 0, .slice none 0 0] : List Value) (fillK (plOf Tryd.prog 37) ps (([.slice none 0 0, .slice none 0 0, .slice none 0 0] : List Value).map V.lit) fun l => F true (.agg l)) := bldV_of (by kernel_rfl) (by kernel_rfl) (by kernel_rfl)
@[go_sem ↓] theorem vpl_37_0 {r : List (Nat × V)} {G : List V → Prop} : fillK (plOf Tryd.prog 37) ((0, u) :: r) us G = clK u fun c => lenK c 2 (wrK us 0 c fun l' => fillK (plOf Tryd.prog 37) r l' G) := fillK_step (by kernel_rfl)
@[go_sem ↓] theorem vpl_37_1 {r : List (Nat × V)} {G : List V → Prop} : fillK (plOf Tryd.prog 37) ((1, u) :: r) us G = clK u fun c => lenK c 1 (wrK us 2 c fun l' => fillK (plOf Tryd.prog 37) r l' G) := fillK_step (by kernel_rfl)
@[go_sem ↓] theorem vst_37 : stV Tryd.prog 37 u v σ ks = clK v fun c => lenK c 3 (wrV u σ c ks) := stV_of (by kernel_rfl)
@[go_sem ↓] theorem val_37 : alcV Tryd.prog 37 σ kv = allOne ([.slice none 0 0, .slice none 0 0, .slice none 0 0] : List Value) (newO σ (.cells (([.slice none 0 0, .slice none 0 0, .slice none 0 0] : List Value).map V.lit)) fun o σ' => kv true (.ref o 0 0 0) σ') := alcV_of (by kernel_rfl)
@[go_sem ↓] theorem vbd_29 {ps : List (Nat × V)} : bldV Tryd.prog 29 ps F = allOne ([.slice none 0 0, .bool false] : List Value) (fillK (plOf Tryd.prog 29) ps (([.slice none 0 0, .bool false] : List Value).map V.lit) fun l => F true (.agg l)) := bldV_of (by kernel_rfl) (by kernel_rfl) (by kernel_rfl)
@[go_sem ↓] theorem vpl_29_0 {r : List (Nat × V)} {G : List V → Prop} : fillK (plOf Tryd.prog 29) ((0, u) :: r) us G = clK u fun c => lenK c 1 (wrK us 0 c fun l' => fillK (plOf Tryd.prog 29) r l' G) := fillK_step (by kernel_rfl)
@[go_sem ↓] theorem vpl_29_1 {r : List (Nat × V)} {G : List V → Prop} : fillK (plOf Tryd.prog 29) ((1, u) :: r) us G = clK u fun c => lenK c 1 (wrK us 1 c fun l' => fillK (plOf Tryd.prog 29) r l' G) := fillK_step (by kernel_rfl)
@[go_sem ↓] theorem vfa_31_0 : fadV Tryd.prog 31 (.ref o z i' off) 0 F = F true (.ref o z i' off) := fadV_ref (x := 0) (ag := true) (m := 2) (by kernel_rfl)
@[go_sem ↓] theorem vld_37 : ldV Tryd.prog 37 u σ F = rdV u σ (some 3) F := ldV_of (by kernel_rfl)
@[go_sem ↓] theorem vfa_24_2 : fadV Tryd.prog 24 (.ref o z i' off) 2 F = F true (.ref o z i' (off + 2)) := fadV_ref (x := 2) (ag := false) (m := 1) (by kernel_rfl)
@[go_sem ↓] theorem vfa_24_0 : fadV Tryd.prog 24 (.ref o z i' off) 0 F = F true (.ref o z i' off) := fadV_ref (x := 0) (ag := false) (m := 1) (by kernel_rfl)
@[go_sem ↓] theorem vfa_24_1 : fadV Tryd.prog 24 (.ref o z i' off) 1 F = F true (.ref o z i' (off + 1)) := fadV_ref (x := 1) (ag := false) (m := 1) (by kernel_rfl)
@[go_sem ↓] theorem vld_24 : ldV Tryd.prog 24 u σ F = rdV u σ (some 3) F := ldV_of (by kernel_rfl)
end
end Go.Proofs.YthlndppcjcjmlaaDoor
