import Derived.Test.YthlndppcjcjmlaaGreatDoorVl
import Derived.Test.YthlndppcjcjmlaaGreatDoorProg
import Derived.KernelRfl
/-! Facts on the program's types and plans of its regions, printed by a program of the prover's own. -/
namespace Go.Proofs.YthlndppcjcjmlaaGreatDoor
open Go.Eng Go.Vx
set_option linter.unusedVariables false
set_option linter.unusedSimpArgs false
set_option maxRecDepth 100000
section
variable {u v : V} {σ : St} {F : FV} {kv : KV} {ks : KS} {e : Bool} {i : IntKind} {a : Int} {o z i' off len m : Nat} {l : List (List PV)} {us : List V} {β : Type} {L : List β} {f : β → List PV} {lo hi : Option V}
def pl2 : Plans := fun id => match id with
  | _ => []
def pl3 : Plans := fun id => match id with
  | 6 => [(0, (0, 0)), (1, (0, 0)), (3, (0, 0)), (4, (0, 0)), (2, (1, 0)), (5, (2, 0)), (6, (2, 0)), (7, (5, 0)), (8, (5, 0)), (9, (0, 0)), (10, (0, 0)), (12, (0, 0)), (13, (0, 0)), (11, (1, 0)), (14, (1, 0)), (15, (2, 0)), (16, (2, 0)), (17, (0, 0)), (18, (5, 0)), (19, (5, 0)), (20, (0, 0)), (21, (0, 0)), (23, (0, 0)), (24, (0, 0)), (22, (1, 0)), (25, (2, 0)), (26, (2, 0)), (27, (0, 0)), (28, (5, 0)), (29, (5, 0)), (30, (0, 0)), (31, (0, 0)), (33, (0, 0)), (34, (0, 0)), (32, (1, 0)), (35, (2, 0)), (36, (0, 0)), (37, (5, 0))]
  | 10 => [(0, (5, 0)), (1, (5, 0)), (2, (5, 0)), (3, (0, 0)), (4, (0, 0)), (6, (0, 0)), (5, (1, 0)), (7, (2, 0)), (8, (0, 0)), (9, (5, 0)), (10, (5, 0))]
  | _ => []
def pl4 : Plans := fun id => match id with
  | 6 => [(0, (0, 0)), (1, (0, 0)), (2, (4, 0)), (6, (4, 0)), (2, (3, 0)), (3, (1, 0)), (4, (1, 0)), (5, (2, 0)), (6, (3, 0)), (7, (2, 0))]
  | 7 => [(0, (0, 0)), (2, (0, 0)), (9, (4, 0)), (1, (1, 0)), (3, (2, 0)), (4, (2, 0)), (5, (2, 0)), (6, (5, 0)), (7, (5, 0)), (8, (5, 0)), (9, (3, 0)), (10, (2, 0)), (11, (5, 0))]
  | 8 => [(0, (0, 0)), (3, (0, 0)), (6, (4, 0)), (1, (1, 0)), (2, (1, 0)), (4, (2, 0)), (5, (2, 0)), (6, (3, 0)), (7, (2, 0))]
  | 9 => [(0, (0, 0)), (1, (0, 0)), (2, (2, 0)), (3, (5, 0)), (4, (0, 0)), (5, (0, 0)), (6, (5, 0)), (7, (5, 0)), (8, (0, 0)), (9, (0, 0)), (10, (2, 0)), (11, (0, 0)), (12, (5, 0)), (13, (5, 0)), (14, (0, 0)), (15, (1, 0)), (16, (2, 0)), (17, (0, 0)), (18, (5, 0)), (19, (5, 0)), (20, (0, 0)), (21, (1, 0)), (22, (2, 0)), (23, (0, 0)), (24, (5, 0)), (25, (5, 0)), (26, (0, 0)), (28, (0, 0)), (27, (1, 0)), (29, (1, 0)), (30, (2, 0)), (31, (0, 0)), (32, (0, 0)), (33, (5, 0)), (34, (5, 0)), (35, (0, 0)), (36, (0, 0)), (37, (5, 0)), (38, (5, 0)), (39, (0, 0)), (40, (0, 0)), (41, (2, 0)), (42, (5, 0)), (43, (5, 0)), (44, (0, 0)), (45, (2, 0)), (46, (0, 0)), (47, (5, 0)), (48, (5, 0))]
  | _ => []
def pl5 : Plans := fun id => match id with
  | _ => []
def pl6 : Plans := fun id => match id with
  | 6 => [(0, (0, 0)), (1, (0, 0)), (2, (2, 0)), (3, (5, 0)), (4, (0, 0)), (5, (0, 0)), (6, (1, 0)), (7, (2, 0)), (8, (5, 0)), (9, (5, 0)), (10, (0, 0)), (12, (0, 0)), (11, (1, 0)), (13, (2, 0)), (14, (0, 0)), (15, (5, 0)), (16, (5, 0)), (17, (0, 0)), (20, (0, 0)), (18, (1, 0)), (19, (1, 0)), (21, (2, 0)), (22, (2, 0)), (23, (0, 0)), (24, (5, 0)), (25, (5, 0)), (26, (0, 0)), (27, (0, 0)), (28, (5, 0)), (29, (5, 0)), (30, (0, 0)), (31, (0, 0)), (32, (2, 0)), (33, (0, 0)), (34, (5, 0)), (35, (5, 0)), (36, (0, 0)), (37, (0, 0)), (39, (0, 0)), (40, (0, 0)), (38, (1, 0)), (41, (1, 0)), (42, (2, 0)), (43, (0, 0)), (44, (5, 0)), (45, (5, 0))]
  | _ => []
@[go_sem ↓] theorem pl6_6 : pl6 6 = [(0, (0, 0)), (1, (0, 0)), (2, (2, 0)), (3, (5, 0)), (4, (0, 0)), (5, (0, 0)), (6, (1, 0)), (7, (2, 0)), (8, (5, 0)), (9, (5, 0)), (10, (0, 0)), (12, (0, 0)), (11, (1, 0)), (13, (2, 0)), (14, (0, 0)), (15, (5, 0)), (16, (5, 0)), (17, (0, 0)), (20, (0, 0)), (18, (1, 0)), (19, (1, 0)), (21, (2, 0)), (22, (2, 0)), (23, (0, 0)), (24, (5, 0)), (25, (5, 0)), (26, (0, 0)), (27, (0, 0)), (28, (5, 0)), (29, (5, 0)), (30, (0, 0)), (31, (0, 0)), (32, (2, 0)), (33, (0, 0)), (34, (5, 0)), (35, (5, 0)), (36, (0, 0)), (37, (0, 0)), (39, (0, 0)), (40, (0, 0)), (38, (1, 0)), (41, (1, 0)), (42, (2, 0)), (43, (0, 0)), (44, (5, 0)), (45, (5, 0))] := (rfl)
def pl7 : Plans := fun id => match id with
  | _ => []
def pl8 : Plans := fun id => match id with
  | 1 => [(0, (5, 0)), (3, (5, 0)), (1, (0, 0)), (4, (0, 0)), (2, (1, 0)), (5, (2, 0)), (6, (5, 0)), (7, (5, 0))]
  | 5 => [(0, (5, 0)), (2, (5, 0)), (5, (5, 0)), (1, (0, 0)), (12, (4, 0)), (3, (1, 0)), (4, (2, 0)), (6, (2, 0)), (7, (2, 0)), (8, (2, 0)), (9, (5, 0)), (10, (5, 0)), (11, (5, 0)), (12, (3, 0)), (13, (2, 0)), (14, (5, 0))]
  | 6 => [(1, (5, 0)), (3, (5, 0)), (5, (5, 0)), (0, (0, 0)), (2, (0, 0)), (4, (1, 0)), (6, (1, 0)), (7, (2, 0)), (8, (2, 0))]
  | _ => []
def pl9 : Plans := fun id => match id with
  | 1 => [(0, (5, 0)), (5, (5, 0)), (1, (0, 0)), (2, (0, 0)), (6, (0, 0)), (7, (0, 0)), (3, (1, 0)), (4, (1, 0)), (8, (1, 0)), (9, (2, 0)), (10, (2, 0)), (11, (5, 0)), (12, (5, 0)), (13, (2, 0)), (14, (5, 0))]
  | _ => []
def pl10 : Plans := fun id => match id with
  | 1 => [(0, (0, 0)), (2, (0, 0)), (1, (1, 0)), (3, (2, 0)), (4, (5, 0)), (5, (5, 0))]
  | _ => []
def pl11 : Plans := fun id => match id with
  | 1 => [(0, (5, 0)), (5, (5, 0)), (1, (0, 0)), (2, (0, 0)), (6, (0, 0)), (7, (0, 0)), (11, (0, 0)), (13, (0, 0)), (3, (1, 0)), (4, (1, 0)), (8, (1, 0)), (9, (1, 0)), (10, (1, 0)), (12, (1, 0)), (14, (2, 0)), (15, (2, 0)), (16, (2, 0)), (17, (2, 0))]
  | _ => []
def pl12 : Plans := fun id => match id with
  | 1 => [(0, (5, 0)), (2, (5, 0)), (5, (5, 0)), (7, (5, 0)), (11, (5, 0)), (13, (5, 0)), (1, (0, 0)), (3, (0, 0)), (6, (0, 0)), (8, (0, 0)), (12, (0, 0)), (14, (0, 0)), (4, (1, 0)), (9, (1, 0)), (10, (1, 0)), (15, (2, 0)), (16, (1, 0)), (17, (2, 0))]
  | _ => []
def pl13 : Plans := fun id => match id with
  | 1 => [(1, (5, 0)), (4, (5, 0)), (0, (0, 0)), (2, (0, 0)), (5, (0, 0)), (3, (1, 0)), (6, (1, 0)), (7, (2, 0)), (8, (2, 0))]
  | _ => []
def pl14 : Plans := fun id => match id with
  | 1 => [(0, (5, 0)), (3, (5, 0)), (1, (0, 0)), (4, (0, 0)), (2, (1, 0)), (5, (1, 0)), (6, (2, 0))]
  | _ => []
def pl15 : Plans := fun id => match id with
  | 1 => [(0, (5, 0)), (2, (5, 0)), (1, (0, 0)), (3, (0, 0)), (5, (0, 0)), (7, (0, 0)), (4, (1, 0)), (6, (1, 0)), (8, (2, 0)), (9, (2, 0)), (10, (2, 0)), (11, (2, 0))]
  | _ => []
def pl16 : Plans := fun id => match id with
  | 1 => [(0, (5, 0)), (2, (5, 0)), (5, (5, 0)), (7, (5, 0)), (1, (0, 0)), (3, (0, 0)), (6, (0, 0)), (8, (0, 0)), (4, (1, 0)), (9, (2, 0)), (10, (1, 0)), (11, (2, 0))]
  | _ => []
def pl17 : Plans := fun id => match id with
  | 1 => [(0, (5, 0)), (5, (5, 0)), (1, (0, 0)), (2, (0, 0)), (6, (0, 0)), (7, (0, 0)), (3, (1, 0)), (4, (1, 0)), (8, (1, 0)), (9, (2, 0)), (10, (2, 0)), (11, (5, 0))]
  | _ => []
def pl18 : Plans := fun id => match id with
  | 1 => [(0, (5, 0)), (2, (5, 0)), (5, (5, 0)), (7, (5, 0)), (1, (0, 0)), (3, (0, 0)), (6, (0, 0)), (8, (0, 0)), (4, (1, 0)), (9, (2, 0)), (10, (2, 0)), (11, (5, 0))]
  | _ => []
def pl19 : Plans := fun id => match id with
  | 3 => [(0, (5, 0)), (1, (0, 0)), (4, (0, 0)), (2, (1, 0)), (3, (5, 0)), (5, (2, 0)), (6, (2, 0)), (7, (5, 0)), (8, (5, 0))]
  | _ => []
def pl20 : Plans := fun id => match id with
  | 10 => [(0, (0, 0)), (1, (0, 0)), (7, (4, 0)), (2, (1, 0)), (3, (2, 0)), (4, (5, 0)), (5, (5, 0)), (6, (5, 0)), (7, (3, 0)), (8, (2, 0)), (9, (5, 0))]
  | _ => []
def pl21 : Plans := fun id => match id with
  | 1 => [(0, (5, 0)), (1, (0, 0)), (2, (0, 0)), (9, (4, 0)), (10, (4, 0)), (3, (1, 0)), (4, (2, 0)), (5, (5, 0)), (6, (5, 0)), (7, (5, 0)), (8, (5, 0)), (9, (3, 0)), (10, (3, 0)), (11, (2, 0)), (12, (2, 0)), (13, (5, 0))]
  | _ => []
def pl22 : Plans := fun id => match id with
  | 1 => [(0, (0, 0)), (1, (0, 0)), (7, (4, 0)), (2, (1, 0)), (3, (2, 0)), (4, (5, 0)), (5, (5, 0)), (6, (5, 0)), (7, (3, 0)), (8, (2, 0)), (9, (5, 0))]
  | _ => []
def pl23 : Plans := fun id => match id with
  | _ => []
def pl24 : Plans := fun id => match id with
  | 3 => [(0, (0, 0)), (2, (0, 0)), (5, (0, 0)), (8, (0, 0)), (1, (1, 0)), (3, (1, 0)), (4, (5, 0)), (6, (1, 0)), (7, (1, 0)), (9, (2, 0)), (10, (2, 0)), (11, (2, 0)), (12, (5, 0))]
  | _ => []
def pl25 : Plans := fun id => match id with
  | _ => []
def pl26 : Plans := fun id => match id with
  | 1 => [(1, (5, 0)), (2, (5, 0)), (0, (0, 0)), (3, (0, 0)), (4, (1, 0)), (5, (0, 0)), (6, (5, 0)), (7, (1, 0)), (8, (2, 0))]
  | _ => []
@[go_sem ↓] theorem pl26_1 : pl26 1 = [(1, (5, 0)), (2, (5, 0)), (0, (0, 0)), (3, (0, 0)), (4, (1, 0)), (5, (0, 0)), (6, (5, 0)), (7, (1, 0)), (8, (2, 0))] := (rfl)
def pl27 : Plans := fun id => match id with
  | 1 => [(0, (5, 0)), (1, (0, 0)), (2, (1, 0)), (3, (1, 0)), (4, (2, 0)), (5, (2, 0))]
  | _ => []
def pl28 : Plans := fun id => match id with
  | 3 => [(0, (0, 0)), (1, (8, 2)), (3, (2, 0))]
  | _ => []
def pl29 : Plans := fun id => match id with
  | _ => []
def pl30 : Plans := fun id => match id with
  | _ => []
def pl31 : Plans := fun id => match id with
  | _ => []
def pl32 : Plans := fun id => match id with
  | _ => []
def pl33 : Plans := fun id => match id with
  | _ => []
def pl34 : Plans := fun id => match id with
  | 9 => [(4, (5, 0)), (0, (0, 0)), (1, (4, 0)), (5, (4, 0)), (1, (3, 0)), (2, (1, 0)), (3, (2, 0)), (5, (3, 0)), (6, (2, 0)), (7, (2, 0)), (8, (2, 0))]
  | _ => []
@[go_sem ↓] theorem pl34_9 : pl34 9 = [(4, (5, 0)), (0, (0, 0)), (1, (4, 0)), (5, (4, 0)), (1, (3, 0)), (2, (1, 0)), (3, (2, 0)), (5, (3, 0)), (6, (2, 0)), (7, (2, 0)), (8, (2, 0))] := (rfl)
def pl35 : Plans := fun id => match id with
  | _ => []
def pl36 : Plans := fun id => match id with
  | _ => []
def pl37 : Plans := fun id => match id with
  | 2 => [(0, (5, 0)), (2, (5, 0)), (5, (5, 0)), (7, (5, 0)), (1, (0, 0)), (6, (0, 0)), (3, (1, 0)), (4, (1, 0)), (8, (2, 0)), (9, (2, 0)), (10, (2, 0))]
  | _ => []
@[go_sem ↓] theorem pl37_2 : pl37 2 = [(0, (5, 0)), (2, (5, 0)), (5, (5, 0)), (7, (5, 0)), (1, (0, 0)), (6, (0, 0)), (3, (1, 0)), (4, (1, 0)), (8, (2, 0)), (9, (2, 0)), (10, (2, 0))] := (rfl)
def pl38 : Plans := fun id => match id with
  | _ => []
def pl39 : Plans := fun id => match id with
  | _ => []
def pl40 : Plans := fun id => match id with
  | 1 => [(0, (0, 0)), (2, (0, 0)), (1, (1, 0)), (3, (2, 0)), (4, (5, 0)), (5, (5, 0))]
  | _ => []
@[go_sem ↓] theorem pl40_1 : pl40 1 = [(0, (0, 0)), (2, (0, 0)), (1, (1, 0)), (3, (2, 0)), (4, (5, 0)), (5, (5, 0))] := (rfl)
def pl41 : Plans := fun id => match id with
  | _ => []
def pl42 : Plans := fun id => match id with
  | _ => []
def pl43 : Plans := fun id => match id with
  | _ => []
def pl44 : Plans := fun id => match id with
  | _ => []
def pl45 : Plans := fun id => match id with
  | _ => []
def pl46 : Plans := fun id => match id with
  | _ => []
def pl47 : Plans := fun id => match id with
  | 1 => [(0, (5, 0)), (2, (5, 0)), (5, (5, 0)), (7, (5, 0)), (1, (0, 0)), (3, (0, 0)), (6, (0, 0)), (8, (0, 0)), (4, (1, 0)), (9, (2, 0)), (10, (2, 0)), (11, (5, 0))]
  | _ => []
@[go_sem ↓] theorem pl47_1 : pl47 1 = [(0, (5, 0)), (2, (5, 0)), (5, (5, 0)), (7, (5, 0)), (1, (0, 0)), (3, (0, 0)), (6, (0, 0)), (8, (0, 0)), (4, (1, 0)), (9, (2, 0)), (10, (2, 0)), (11, (5, 0))] := (rfl)
def pl48 : Plans := fun id => match id with
  | _ => []
def pl49 : Plans := fun id => match id with
  | _ => []
def pl50 : Plans := fun id => match id with
  | _ => []
def pl51 : Plans := fun id => match id with
  | _ => []
def pl52 : Plans := fun id => match id with
  | _ => []
def pl53 : Plans := fun id => match id with
  | _ => []
def pl54 : Plans := fun id => match id with
  | 1 => [(0, (5, 0)), (2, (5, 0)), (5, (5, 0)), (7, (5, 0)), (1, (0, 0)), (3, (0, 0)), (4, (5, 0)), (6, (0, 0)), (8, (0, 0)), (9, (1, 0)), (10, (2, 0)), (11, (2, 0))]
  | _ => []
def pl55 : Plans := fun id => match id with
  | _ => []
def pl56 : Plans := fun id => match id with
  | _ => []
def pl57 : Plans := fun id => match id with
  | 1 => [(0, (0, 0)), (2, (0, 0)), (4, (4, 0)), (1, (1, 0)), (3, (2, 0)), (4, (3, 0)), (5, (2, 0))]
  | 2 => [(0, (0, 0)), (2, (0, 0)), (8, (4, 0)), (9, (4, 0)), (1, (1, 0)), (3, (2, 0)), (4, (5, 0)), (5, (5, 0)), (6, (5, 0)), (7, (5, 0)), (8, (3, 0)), (9, (3, 0)), (10, (2, 0)), (11, (2, 0)), (12, (5, 0))]
  | 4 => [(0, (0, 0)), (1, (4, 0)), (7, (4, 0)), (1, (3, 0)), (2, (1, 0)), (3, (2, 0)), (4, (5, 0)), (5, (5, 0)), (6, (5, 0)), (7, (3, 0)), (8, (2, 0)), (9, (5, 0))]
  | 5 => [(0, (0, 0)), (2, (0, 0)), (4, (0, 0)), (1, (1, 0)), (3, (1, 0)), (5, (1, 0)), (6, (2, 0))]
  | _ => []
def pl58 : Plans := fun id => match id with
  | 2 => [(0, (5, 0)), (2, (5, 0)), (4, (5, 0)), (1, (0, 0)), (3, (0, 0)), (5, (0, 0)), (6, (1, 0)), (7, (2, 0)), (8, (2, 0))]
  | _ => []
def pl59 : Plans := fun id => match id with
  | _ => []
def pl60 : Plans := fun id => match id with
  | 1 => [(0, (5, 0)), (2, (5, 0)), (5, (5, 0)), (7, (5, 0)), (1, (0, 0)), (3, (0, 0)), (6, (0, 0)), (8, (0, 0)), (4, (1, 0)), (9, (2, 0)), (10, (1, 0)), (11, (2, 0))]
  | _ => []
def pl61 : Plans := fun id => match id with
  | _ => []
def pl62 : Plans := fun id => match id with
  | 11 => [(0, (5, 0)), (1, (5, 0)), (2, (5, 0)), (3, (5, 0)), (5, (5, 0)), (6, (5, 0)), (7, (5, 0)), (4, (0, 0)), (8, (0, 0)), (9, (5, 0)), (10, (5, 0)), (11, (5, 0))]
  | _ => []
@[go_sem ↓] theorem pl62_11 : pl62 11 = [(0, (5, 0)), (1, (5, 0)), (2, (5, 0)), (3, (5, 0)), (5, (5, 0)), (6, (5, 0)), (7, (5, 0)), (4, (0, 0)), (8, (0, 0)), (9, (5, 0)), (10, (5, 0)), (11, (5, 0))] := (rfl)
def pl63 : Plans := fun id => match id with
  | _ => []
def pl64 : Plans := fun id => match id with
  | _ => []
def pl65 : Plans := fun id => match id with
  | 1 => [(0, (5, 0)), (2, (5, 0)), (5, (5, 0)), (7, (5, 0)), (11, (5, 0)), (13, (5, 0)), (16, (5, 0)), (18, (5, 0)), (1, (0, 0)), (3, (0, 0)), (6, (0, 0)), (8, (0, 0)), (12, (0, 0)), (14, (0, 0)), (17, (0, 0)), (19, (0, 0)), (4, (1, 0)), (9, (1, 0)), (10, (1, 0)), (15, (1, 0)), (20, (2, 0)), (21, (2, 0)), (22, (1, 0)), (23, (2, 0))]
  | _ => []
def pl66 : Plans := fun id => match id with
  | _ => []
def pl67 : Plans := fun id => match id with
  | 5 => [(0, (0, 0)), (1, (1, 0)), (2, (1, 0)), (3, (2, 0)), (4, (2, 0))]
  | 7 => [(0, (5, 0)), (2, (5, 0)), (1, (0, 0)), (3, (0, 0)), (4, (5, 0)), (5, (0, 0)), (7, (0, 0)), (6, (1, 0)), (8, (2, 0)), (9, (2, 0)), (10, (2, 0)), (11, (5, 0))]
  | _ => []
@[go_sem ↓] theorem pl67_5 : pl67 5 = [(0, (0, 0)), (1, (1, 0)), (2, (1, 0)), (3, (2, 0)), (4, (2, 0))] := (rfl)
@[go_sem ↓] theorem pl67_7 : pl67 7 = [(0, (5, 0)), (2, (5, 0)), (1, (0, 0)), (3, (0, 0)), (4, (5, 0)), (5, (0, 0)), (7, (0, 0)), (6, (1, 0)), (8, (2, 0)), (9, (2, 0)), (10, (2, 0)), (11, (5, 0))] := (rfl)
def pl68 : Plans := fun id => match id with
  | _ => []
def pl69 : Plans := fun id => match id with
  | _ => []
def pl70 : Plans := fun id => match id with
  | _ => []
def pl71 : Plans := fun id => match id with
  | 6 => [(0, (5, 0)), (2, (5, 0)), (1, (0, 0)), (3, (0, 0)), (4, (5, 0)), (5, (0, 0)), (6, (2, 0)), (7, (5, 0)), (8, (5, 0)), (9, (5, 0)), (10, (5, 0)), (11, (5, 0))]
  | _ => []
@[go_sem ↓] theorem pl71_6 : pl71 6 = [(0, (5, 0)), (2, (5, 0)), (1, (0, 0)), (3, (0, 0)), (4, (5, 0)), (5, (0, 0)), (6, (2, 0)), (7, (5, 0)), (8, (5, 0)), (9, (5, 0)), (10, (5, 0)), (11, (5, 0))] := (rfl)
def pl72 : Plans := fun id => match id with
  | _ => []
def pl73 : Plans := fun id => match id with
  | _ => []
def pl74 : Plans := fun id => match id with
  | _ => []
def pl75 : Plans := fun id => match id with
  | _ => []
def pl76 : Plans := fun id => match id with
  | 4 => [(0, (5, 0)), (1, (5, 0)), (2, (5, 0)), (4, (5, 0)), (5, (5, 0)), (3, (2, 0)), (6, (2, 0)), (7, (5, 0))]
  | _ => []
def pl77 : Plans := fun id => match id with
  | _ => []
def pl78 : Plans := fun id => match id with
  | _ => []
def pl79 : Plans := fun id => match id with
  | 8 => [(0, (5, 0)), (1, (5, 0)), (2, (5, 0)), (4, (5, 0)), (5, (5, 0)), (6, (5, 0)), (3, (0, 0)), (7, (0, 0)), (8, (5, 0))]
  | 10 => [(0, (5, 0)), (1, (5, 0)), (2, (5, 0)), (4, (5, 0)), (5, (5, 0)), (6, (5, 0)), (3, (0, 0)), (7, (0, 0)), (8, (5, 0))]
  | _ => []
@[go_sem ↓] theorem pl79_8 : pl79 8 = [(0, (5, 0)), (1, (5, 0)), (2, (5, 0)), (4, (5, 0)), (5, (5, 0)), (6, (5, 0)), (3, (0, 0)), (7, (0, 0)), (8, (5, 0))] := (rfl)
@[go_sem ↓] theorem pl79_10 : pl79 10 = [(0, (5, 0)), (1, (5, 0)), (2, (5, 0)), (4, (5, 0)), (5, (5, 0)), (6, (5, 0)), (3, (0, 0)), (7, (0, 0)), (8, (5, 0))] := (rfl)
def pl80 : Plans := fun id => match id with
  | _ => []
def pl81 : Plans := fun id => match id with
  | 7 => [(0, (5, 0)), (2, (5, 0)), (5, (5, 0)), (7, (5, 0)), (1, (0, 0)), (3, (5, 0)), (4, (0, 0)), (10, (5, 0)), (6, (0, 0)), (8, (5, 0)), (9, (0, 0)), (11, (5, 0))]
  | _ => []
@[go_sem ↓] theorem pl81_7 : pl81 7 = [(0, (5, 0)), (2, (5, 0)), (5, (5, 0)), (7, (5, 0)), (1, (0, 0)), (3, (5, 0)), (4, (0, 0)), (10, (5, 0)), (6, (0, 0)), (8, (5, 0)), (9, (0, 0)), (11, (5, 0))] := (rfl)
def pl82 : Plans := fun id => match id with
  | _ => []
def pl83 : Plans := fun id => match id with
  | _ => []
def pl84 : Plans := fun id => match id with
  | _ => []
def pl85 : Plans := fun id => match id with
  | _ => []
def pl86 : Plans := fun id => match id with
  | _ => []
def pl88 : Plans := fun id => match id with
  | _ => []
def pl89 : Plans := fun id => match id with
  | 3 => [(0, (5, 0)), (1, (5, 0)), (2, (5, 0)), (3, (5, 0)), (4, (5, 0)), (5, (5, 0)), (9, (5, 0)), (6, (0, 0)), (7, (5, 0)), (8, (5, 0)), (10, (5, 0)), (11, (5, 0))]
  | _ => []
def pl90 : Plans := fun id => match id with
  | 10 => [(0, (5, 0)), (2, (5, 0)), (3, (5, 0)), (4, (5, 0)), (6, (5, 0)), (1, (2, 0)), (5, (2, 0)), (7, (2, 0)), (8, (2, 0)), (9, (2, 0)), (10, (5, 0))]
  | _ => []
@[go_sem ↓] theorem pl90_10 : pl90 10 = [(0, (5, 0)), (2, (5, 0)), (3, (5, 0)), (4, (5, 0)), (6, (5, 0)), (1, (2, 0)), (5, (2, 0)), (7, (2, 0)), (8, (2, 0)), (9, (2, 0)), (10, (5, 0))] := (rfl)
def pl91 : Plans := fun id => match id with
  | 6 => [(0, (5, 0)), (1, (5, 0)), (2, (5, 0)), (3, (5, 0)), (4, (5, 0)), (5, (5, 0)), (6, (5, 0)), (7, (5, 0))]
  | _ => []
@[go_sem ↓] theorem pl91_6 : pl91 6 = [(0, (5, 0)), (1, (5, 0)), (2, (5, 0)), (3, (5, 0)), (4, (5, 0)), (5, (5, 0)), (6, (5, 0)), (7, (5, 0))] := (rfl)
def pl92 : Plans := fun id => match id with
  | _ => []
def pl93 : Plans := fun id => match id with
  | _ => []
def pl94 : Plans := fun id => match id with
  | _ => []
def pl95 : Plans := fun id => match id with
  | 3 => [(0, (5, 0)), (1, (5, 0)), (2, (5, 0)), (5, (5, 0)), (6, (5, 0)), (7, (5, 0)), (11, (5, 0)), (3, (0, 0)), (8, (0, 0)), (9, (0, 0)), (4, (1, 0)), (10, (5, 0)), (12, (5, 0))]
  | _ => []
def pl96 : Plans := fun id => match id with
  | _ => []
def pl97 : Plans := fun id => match id with
  | _ => []
def pl98 : Plans := fun id => match id with
  | 1 => [(0, (5, 0)), (1, (5, 0)), (2, (5, 0)), (5, (5, 0)), (6, (5, 0)), (7, (5, 0)), (3, (0, 0)), (8, (0, 0)), (9, (0, 0)), (4, (1, 0)), (10, (2, 0)), (11, (5, 0))]
  | _ => []
def pl99 : Plans := fun id => match id with
  | _ => []
def pl100 : Plans := fun id => match id with
  | _ => []
def pl101 : Plans := fun id => match id with
  | _ => []
def pl102 : Plans := fun id => match id with
  | _ => []
def pl103 : Plans := fun id => match id with
  | _ => []
def pl104 : Plans := fun id => match id with
  | _ => []
def pl105 : Plans := fun id => match id with
  | _ => []
def pl106 : Plans := fun id => match id with
  | _ => []
def pl107 : Plans := fun id => match id with
  | _ => []
def pl108 : Plans := fun id => match id with
  | _ => []
def pl110 : Plans := fun id => match id with
  | _ => []
def pl111 : Plans := fun id => match id with
  | _ => []
def pl112 : Plans := fun id => match id with
  | 5 => [(0, (5, 0)), (1, (5, 0)), (2, (5, 0)), (4, (5, 0)), (5, (5, 0)), (6, (5, 0)), (3, (0, 0)), (7, (5, 0)), (8, (5, 0)), (9, (2, 0))]
  | _ => []
@[go_sem ↓] theorem pl112_5 : pl112 5 = [(0, (5, 0)), (1, (5, 0)), (2, (5, 0)), (4, (5, 0)), (5, (5, 0)), (6, (5, 0)), (3, (0, 0)), (7, (5, 0)), (8, (5, 0)), (9, (2, 0))] := (rfl)
def pl113 : Plans := fun id => match id with
  | 3 => [(0, (5, 0)), (1, (5, 0)), (2, (5, 0)), (4, (5, 0)), (5, (5, 0)), (6, (5, 0)), (7, (5, 0)), (3, (0, 0)), (8, (0, 0)), (9, (5, 0))]
  | 4 => [(0, (5, 0)), (1, (5, 0)), (2, (5, 0)), (4, (5, 0)), (5, (5, 0)), (6, (5, 0)), (7, (5, 0)), (9, (5, 0)), (10, (5, 0)), (11, (5, 0)), (12, (5, 0)), (3, (0, 0)), (8, (0, 0)), (13, (0, 0)), (14, (2, 0)), (15, (5, 0)), (16, (5, 0)), (17, (5, 0)), (18, (5, 0))]
  | _ => []
@[go_sem ↓] theorem pl113_3 : pl113 3 = [(0, (5, 0)), (1, (5, 0)), (2, (5, 0)), (4, (5, 0)), (5, (5, 0)), (6, (5, 0)), (7, (5, 0)), (3, (0, 0)), (8, (0, 0)), (9, (5, 0))] := (rfl)
@[go_sem ↓] theorem pl113_4 : pl113 4 = [(0, (5, 0)), (1, (5, 0)), (2, (5, 0)), (4, (5, 0)), (5, (5, 0)), (6, (5, 0)), (7, (5, 0)), (9, (5, 0)), (10, (5, 0)), (11, (5, 0)), (12, (5, 0)), (3, (0, 0)), (8, (0, 0)), (13, (0, 0)), (14, (2, 0)), (15, (5, 0)), (16, (5, 0)), (17, (5, 0)), (18, (5, 0))] := (rfl)
def pl114 : Plans := fun id => match id with
  | 10 => [(0, (5, 0)), (1, (5, 0)), (2, (5, 0)), (4, (5, 0)), (5, (5, 0)), (6, (5, 0)), (7, (5, 0)), (9, (5, 0)), (10, (5, 0)), (3, (0, 0)), (8, (0, 0)), (11, (5, 0)), (12, (5, 0)), (13, (5, 0)), (14, (2, 0))]
  | _ => []
@[go_sem ↓] theorem pl114_10 : pl114 10 = [(0, (5, 0)), (1, (5, 0)), (2, (5, 0)), (4, (5, 0)), (5, (5, 0)), (6, (5, 0)), (7, (5, 0)), (9, (5, 0)), (10, (5, 0)), (3, (0, 0)), (8, (0, 0)), (11, (5, 0)), (12, (5, 0)), (13, (5, 0)), (14, (2, 0))] := (rfl)
def pl115 : Plans := fun id => match id with
  | _ => []
def pl116 : Plans := fun id => match id with
  | _ => []
def pl117 : Plans := fun id => match id with
  | 7 => [(0, (5, 0)), (1, (5, 0)), (2, (5, 0)), (3, (5, 0)), (4, (5, 0)), (5, (5, 0)), (6, (5, 0)), (7, (5, 0)), (8, (5, 0)), (9, (5, 0)), (10, (5, 0)), (11, (5, 0)), (12, (2, 0)), (13, (5, 0)), (14, (2, 0))]
  | 8 => [(0, (5, 0)), (1, (5, 0)), (2, (5, 0)), (3, (5, 0)), (4, (5, 0)), (5, (5, 0)), (6, (5, 0)), (7, (5, 0)), (8, (5, 0)), (9, (5, 0)), (10, (5, 0)), (11, (5, 0)), (12, (2, 0)), (13, (5, 0)), (14, (2, 0))]
  | 9 => [(0, (5, 0)), (1, (5, 0)), (2, (5, 0)), (3, (5, 0)), (4, (5, 0)), (5, (5, 0)), (6, (5, 0)), (7, (5, 0)), (8, (5, 0)), (9, (5, 0)), (10, (5, 0)), (11, (5, 0)), (12, (2, 0)), (13, (5, 0)), (14, (2, 0))]
  | 10 => [(0, (5, 0)), (1, (5, 0)), (2, (5, 0)), (3, (5, 0)), (4, (5, 0)), (5, (5, 0)), (6, (5, 0)), (7, (5, 0)), (8, (5, 0)), (9, (5, 0)), (10, (5, 0)), (11, (5, 0)), (12, (2, 0)), (13, (5, 0)), (14, (2, 0))]
  | 17 => [(0, (5, 0)), (1, (5, 0)), (2, (5, 0)), (3, (5, 0)), (4, (5, 0)), (5, (5, 0)), (6, (5, 0)), (7, (5, 0)), (8, (5, 0)), (9, (5, 0)), (10, (5, 0)), (11, (5, 0)), (12, (2, 0)), (13, (5, 0)), (14, (2, 0))]
  | 18 => [(0, (5, 0)), (1, (5, 0)), (2, (5, 0)), (3, (5, 0)), (4, (5, 0)), (5, (5, 0)), (6, (5, 0)), (7, (5, 0)), (8, (5, 0)), (9, (5, 0)), (10, (5, 0)), (11, (5, 0)), (12, (2, 0)), (13, (5, 0)), (14, (2, 0))]
  | 23 => [(0, (5, 0)), (1, (5, 0)), (2, (5, 0)), (3, (5, 0)), (4, (5, 0)), (5, (5, 0)), (6, (5, 0)), (7, (5, 0)), (8, (5, 0)), (9, (5, 0)), (10, (5, 0)), (11, (5, 0)), (12, (2, 0)), (13, (5, 0)), (14, (2, 0))]
  | _ => []
@[go_sem ↓] theorem pl117_7 : pl117 7 = [(0, (5, 0)), (1, (5, 0)), (2, (5, 0)), (3, (5, 0)), (4, (5, 0)), (5, (5, 0)), (6, (5, 0)), (7, (5, 0)), (8, (5, 0)), (9, (5, 0)), (10, (5, 0)), (11, (5, 0)), (12, (2, 0)), (13, (5, 0)), (14, (2, 0))] := (rfl)
@[go_sem ↓] theorem pl117_8 : pl117 8 = [(0, (5, 0)), (1, (5, 0)), (2, (5, 0)), (3, (5, 0)), (4, (5, 0)), (5, (5, 0)), (6, (5, 0)), (7, (5, 0)), (8, (5, 0)), (9, (5, 0)), (10, (5, 0)), (11, (5, 0)), (12, (2, 0)), (13, (5, 0)), (14, (2, 0))] := (rfl)
@[go_sem ↓] theorem pl117_9 : pl117 9 = [(0, (5, 0)), (1, (5, 0)), (2, (5, 0)), (3, (5, 0)), (4, (5, 0)), (5, (5, 0)), (6, (5, 0)), (7, (5, 0)), (8, (5, 0)), (9, (5, 0)), (10, (5, 0)), (11, (5, 0)), (12, (2, 0)), (13, (5, 0)), (14, (2, 0))] := (rfl)
@[go_sem ↓] theorem pl117_10 : pl117 10 = [(0, (5, 0)), (1, (5, 0)), (2, (5, 0)), (3, (5, 0)), (4, (5, 0)), (5, (5, 0)), (6, (5, 0)), (7, (5, 0)), (8, (5, 0)), (9, (5, 0)), (10, (5, 0)), (11, (5, 0)), (12, (2, 0)), (13, (5, 0)), (14, (2, 0))] := (rfl)
@[go_sem ↓] theorem pl117_17 : pl117 17 = [(0, (5, 0)), (1, (5, 0)), (2, (5, 0)), (3, (5, 0)), (4, (5, 0)), (5, (5, 0)), (6, (5, 0)), (7, (5, 0)), (8, (5, 0)), (9, (5, 0)), (10, (5, 0)), (11, (5, 0)), (12, (2, 0)), (13, (5, 0)), (14, (2, 0))] := (rfl)
@[go_sem ↓] theorem pl117_18 : pl117 18 = [(0, (5, 0)), (1, (5, 0)), (2, (5, 0)), (3, (5, 0)), (4, (5, 0)), (5, (5, 0)), (6, (5, 0)), (7, (5, 0)), (8, (5, 0)), (9, (5, 0)), (10, (5, 0)), (11, (5, 0)), (12, (2, 0)), (13, (5, 0)), (14, (2, 0))] := (rfl)
@[go_sem ↓] theorem pl117_23 : pl117 23 = [(0, (5, 0)), (1, (5, 0)), (2, (5, 0)), (3, (5, 0)), (4, (5, 0)), (5, (5, 0)), (6, (5, 0)), (7, (5, 0)), (8, (5, 0)), (9, (5, 0)), (10, (5, 0)), (11, (5, 0)), (12, (2, 0)), (13, (5, 0)), (14, (2, 0))] := (rfl)
def pl118 : Plans := fun id => match id with
  | _ => []
def pl119 : Plans := fun id => match id with
  | _ => []
def pl120 : Plans := fun id => match id with
  | _ => []
def pl121 : Plans := fun id => match id with
  | _ => []
def pl122 : Plans := fun id => match id with
  | 0 => [(0, (5, 0)), (1, (5, 0)), (2, (5, 0)), (6, (5, 0)), (9, (5, 0)), (10, (5, 0)), (11, (5, 0)), (3, (0, 0)), (12, (0, 0)), (13, (0, 0)), (4, (1, 0)), (5, (5, 0)), (7, (5, 0)), (8, (1, 0)), (14, (5, 0)), (15, (5, 0))]
  | _ => []
def pl123 : Plans := fun id => match id with
  | _ => []
def pl124 : Plans := fun id => match id with
  | _ => []
def pl125 : Plans := fun id => match id with
  | _ => []
def pl126 : Plans := fun id => match id with
  | _ => []
def pl127 : Plans := fun id => match id with
  | _ => []
def pl128 : Plans := fun id => match id with
  | _ => []
def pl129 : Plans := fun id => match id with
  | 1 => [(0, (5, 0)), (1, (5, 0)), (3, (0, 0)), (2, (1, 0)), (4, (1, 0)), (5, (1, 0)), (6, (5, 0))]
  | _ => []
def pl130 : Plans := fun id => match id with
  | 1 => [(0, (5, 0)), (1, (5, 0)), (3, (0, 0)), (2, (1, 0)), (4, (1, 0)), (5, (1, 0)), (6, (5, 0))]
  | _ => []
def pl131 : Plans := fun id => match id with
  | _ => []
def pl132 : Plans := fun id => match id with
  | _ => []
def pl133 : Plans := fun id => match id with
  | _ => []
def pl135 : Plans := fun id => match id with
  | _ => []
def pl136 : Plans := fun id => match id with
  | _ => []
def pl137 : Plans := fun id => match id with
  | _ => []
def pl138 : Plans := fun id => match id with
  | _ => []
def pl139 : Plans := fun id => match id with
  | _ => []
def pl140 : Plans := fun id => match id with
  | _ => []
def pl141 : Plans := fun id => match id with
  | _ => []
def pl142 : Plans := fun id => match id with
  | _ => []
def pl145 : Plans := fun id => match id with
  | _ => []
def pl146 : Plans := fun id => match id with
  | 6 => [(0, (5, 0)), (1, (5, 0)), (2, (5, 0)), (3, (5, 0)), (4, (5, 0)), (5, (5, 0)), (6, (5, 0))]
  | 7 => [(0, (5, 0)), (1, (5, 0)), (2, (5, 0)), (3, (5, 0)), (4, (5, 0)), (5, (5, 0)), (6, (5, 0)), (7, (2, 0)), (8, (5, 0))]
  | 14 => [(0, (5, 0)), (1, (5, 0)), (2, (5, 0)), (3, (5, 0)), (4, (5, 0)), (5, (5, 0)), (6, (5, 0)), (7, (5, 0)), (8, (5, 0)), (9, (5, 0)), (10, (5, 0))]
  | 31 => [(0, (5, 0)), (1, (5, 0)), (2, (5, 0)), (3, (5, 0)), (4, (5, 0)), (5, (5, 0)), (6, (5, 0)), (7, (5, 0)), (8, (5, 0)), (9, (5, 0)), (10, (5, 0))]
  | _ => []
def pl147 : Plans := fun id => match id with
  | _ => []
def pl148 : Plans := fun id => match id with
  | _ => []
def pl149 : Plans := fun id => match id with
  | _ => []
def pl150 : Plans := fun id => match id with
  | _ => []
def pl152 : Plans := fun id => match id with
  | _ => []
def pl153 : Plans := fun id => match id with
  | _ => []
def pl154 : Plans := fun id => match id with
  | _ => []
def pl155 : Plans := fun id => match id with
  | _ => []
def pl156 : Plans := fun id => match id with
  | _ => []
def pl157 : Plans := fun id => match id with
  | _ => []
def pl158 : Plans := fun id => match id with
  | _ => []
def pl189 : Plans := fun id => match id with
  | _ => []
@[go_sem ↓] theorem vsy_114_9 : sbyV Tryz.prog 114 9 u σ kv = cvsV Tryz.prog 114 9 u σ fun τ u => kv τ u σ := sbyV_byt (by kernel_rfl)
@[go_sem ↓] theorem vcs_114_9 : cvsV Tryz.prog 114 9 u σ F = rowK u σ 1 fun l => bytK l fun b => F true (.lit (.string (bs b))) := cvsV_byt (by kernel_rfl) (by kernel_rfl)
@[go_sem ↓] theorem vst_5 : stV Tryz.prog 5 u v σ ks = clK v fun c => lenK c 1 (wrV u σ c ks) := stV_of (by kernel_rfl)
@[go_sem ↓] theorem val_147 : alcV Tryz.prog 147 σ kv = allOne ([.int .u8 0, .int .u8 0, .int .u8 0, .int .u8 0, .int .u8 0, .int .u8 0, .int .u8 0, .int .u8 0, .int .u8 0, .int .u8 0, .int .u8 0, .int .u8 0, .int .u8 0, .int .u8 0, .int .u8 0, .int .u8 0, .int .u8 0, .int .u8 0, .int .u8 0, .int .u8 0, .int .u8 0, .int .u8 0, .int .u8 0, .int .u8 0] : List Value) (newO σ (.cells (([.int .u8 0, .int .u8 0, .int .u8 0, .int .u8 0, .int .u8 0, .int .u8 0, .int .u8 0, .int .u8 0, .int .u8 0, .int .u8 0, .int .u8 0, .int .u8 0, .int .u8 0, .int .u8 0, .int .u8 0, .int .u8 0, .int .u8 0, .int .u8 0, .int .u8 0, .int .u8 0, .int .u8 0, .int .u8 0, .int .u8 0, .int .u8 0] : List Value).map V.lit)) fun o σ' => kv true (.ref o 0 0 0) σ') := alcV_of (by kernel_rfl)
@[go_sem ↓] theorem vld_5 : ldV Tryz.prog 5 u σ F = rdV u σ (none) F := ldV_of (by kernel_rfl)
@[go_sem ↓ high] theorem vcvh_5_3 (h : -9223372036854775808 ≤ a ∧ a ≤ 9223372036854775807) : cvsV Tryz.prog 5 3 (.lit (.int i a)) σ F = F true (.lit (.int .i64 a)) := (cvsV_num (by kernel_rfl)).trans (cvtV_i64 (by kernel_rfl) (by kernel_rfl) h)
@[go_sem ↓] theorem vsy_5_3 : sbyV Tryz.prog 5 3 u σ kv = cvsV Tryz.prog 5 3 u σ fun τ u => kv τ u σ := sbyV_num (by kernel_rfl)
@[go_sem ↓] theorem vlnt_9 {s : List UInt8} : bltV Tryz.prog e .len [9] [.lit (.string (bs s))] σ kv = kv true (.lit (.int .i64 (s.length : Int))) σ := lenB_str (by kernel_rfl)
@[go_sem ↓] theorem visb_9 {s : List UInt8} (h : 0 ≤ a ∧ a < s.length) : ixvV Tryz.prog 9 (.lit (.string (bs s))) (.lit (.int i a)) F = F true (.lit (.int .u8 ((s.getD a.toNat 0).toNat : Int))) := ixvV_bs (by kernel_rfl) h
@[go_sem ↓ high] theorem visn_9 {s : List UInt8} (h : m < s.length) : ixvV Tryz.prog 9 (.lit (.string (bs s))) (.lit (.int i (m : Int))) F = F true (.lit (.int .u8 ((s.getD m 0).toNat : Int))) := ixvV_bsn (by kernel_rfl) h
@[go_sem ↓] theorem vis_9 {s : ByteArray} (h : 0 ≤ a ∧ a < s.size) : ixvV Tryz.prog 9 (.lit (.string s)) (.lit (.int i a)) F = F true (.lit (.int .u8 (strAt s a.toNat))) := ixvV_str (by kernel_rfl) h
@[go_sem ↓] theorem vix_114 (h : 0 ≤ a ∧ a < len) : idxV Tryz.prog 114 (.sl o 1 off len) (.lit (.int i a)) F = F true (.ref o 1 (off + a.toNat) 0) := idxV_sl (et := 5) (by kernel_rfl) h
@[go_sem ↓ high] theorem vixrn_114 (h : m < l.length) : idxV Tryz.prog 114 (.row 1 l) (.lit (.int i (m : Int))) F = F true (.rref 1 l m 0) := idxV_rown (et := 5) (by kernel_rfl) (by decide) h
@[go_sem ↓] theorem vln_114 : bltV Tryz.prog e .len [114] [.row m l] σ kv = lenV (.row m l) fun τ v => kv τ v σ := lenB_row (by kernel_rfl)
@[go_sem ↓] theorem vlns_114 : bltV Tryz.prog e .len [114] [.sl o m off len] σ kv = lenV (.sl o m off len) fun τ v => kv τ v σ := lenB_sl (by kernel_rfl)
@[go_sem ↓] theorem vslt_9 {s : List UInt8} : slcV Tryz.prog 9 (.lit (.string (bs s))) lo hi none F = bdoK hi s.length s.length fun h => bdoK lo 0 h fun x => F true (.lit (.string (bs ((s.take h).drop x)))) := slcV_str (by kernel_rfl)
@[go_sem ↓ high] theorem vshr_i64_u64_18 {P : Program} {t : TypeId} : binV P .shr t (.lit (.int .i64 a)) (.lit (.int .u64 18)) F = F true (.lit (.int .i64 (a / 262144))) := by rw [binV_shr_i64 (by decide)]; rfl
@[go_sem ↓ high] theorem vcvh_55_3 (h : -9223372036854775808 ≤ a ∧ a ≤ 9223372036854775807) : cvsV Tryz.prog 55 3 (.lit (.int i a)) σ F = F true (.lit (.int .i64 a)) := (cvsV_num (by kernel_rfl)).trans (cvtV_i64 (by kernel_rfl) (by kernel_rfl) h)
@[go_sem ↓] theorem vsy_55_3 : sbyV Tryz.prog 55 3 u σ kv = cvsV Tryz.prog 55 3 u σ fun τ u => kv τ u σ := sbyV_num (by kernel_rfl)
@[go_sem ↓] theorem vix_22 (h : 0 ≤ a ∧ a < len) : idxV Tryz.prog 22 (.sl o 1 off len) (.lit (.int i a)) F = F true (.ref o 1 (off + a.toNat) 0) := idxV_sl (et := 55) (by kernel_rfl) h
@[go_sem ↓ high] theorem vixn_22 (h : m < len) : idxV Tryz.prog 22 (.sl o 1 off len) (.lit (.int i (m : Int))) F = F true (.ref o 1 (off + m) 0) := idxV_sln (et := 55) (by kernel_rfl) h
@[go_sem ↓ high] theorem vixrn_22 (h : m < l.length) : idxV Tryz.prog 22 (.row 1 l) (.lit (.int i (m : Int))) F = F true (.rref 1 l m 0) := idxV_rown (et := 55) (by kernel_rfl) (by decide) h
@[go_sem ↓ high] theorem vixm_22 (h : 0 ≤ a ∧ a < L.length) : idxV Tryz.prog 22 (.row 1 (L.map f)) (.lit (.int i a)) F = F true (.rref 1 (L.map f) a.toNat 0) := idxV_rowm (et := 55) (by kernel_rfl) (by decide) h
@[go_sem ↓] theorem vld_55 : ldV Tryz.prog 55 u σ F = rdV u σ (none) F := ldV_of (by kernel_rfl)
@[go_sem ↓] theorem vst_55 : stV Tryz.prog 55 u v σ ks = clK v fun c => lenK c 1 (wrV u σ c ks) := stV_of (by kernel_rfl)
@[go_sem ↓] theorem vln_22 : bltV Tryz.prog e .len [22] [.row m l] σ kv = lenV (.row m l) fun τ v => kv τ v σ := lenB_row (by kernel_rfl)
@[go_sem ↓] theorem vlns_22 : bltV Tryz.prog e .len [22] [.sl o m off len] σ kv = lenV (.sl o m off len) fun τ v => kv τ v σ := lenB_sl (by kernel_rfl)
@[go_sem ↓ high] theorem vcvh_55_5 (h : 0 ≤ a ∧ a ≤ 255) : cvsV Tryz.prog 55 5 (.lit (.int i a)) σ F = F true (.lit (.int .u8 a)) := (cvsV_num (by kernel_rfl)).trans (cvtV_u8 (by kernel_rfl) (by kernel_rfl) h)
@[go_sem ↓] theorem vsy_55_5 : sbyV Tryz.prog 55 5 u σ kv = cvsV Tryz.prog 55 5 u σ fun τ u => kv τ u σ := sbyV_num (by kernel_rfl)
@[go_sem ↓ high] theorem vshr_u64_u64_8 {P : Program} {t : TypeId} : binV P .shr t (.lit (.int .u64 a)) (.lit (.int .u64 8)) F = F true (.lit (.int .u64 (a / 256))) := by rw [binV_shr_u64 (by decide)]; rfl
@[go_sem ↓ high] theorem vshr_u64_u64_16 {P : Program} {t : TypeId} : binV P .shr t (.lit (.int .u64 a)) (.lit (.int .u64 16)) F = F true (.lit (.int .u64 (a / 65536))) := by rw [binV_shr_u64 (by decide)]; rfl
@[go_sem ↓ high] theorem vshr_u64_u64_32 {P : Program} {t : TypeId} : binV P .shr t (.lit (.int .u64 a)) (.lit (.int .u64 32)) F = F true (.lit (.int .u64 (a / 4294967296))) := by rw [binV_shr_u64 (by decide)]; rfl
@[go_sem ↓ high] theorem vian_136 (h : m < 256) : idxV Tryz.prog 136 (.ref o 0 0 off) (.lit (.int i (m : Int))) F = F true (.ref o 1 m off) := idxV_arn (et := 4) (by kernel_rfl) h
@[go_sem ↓] theorem vld_4 : ldV Tryz.prog 4 u σ F = rdV u σ (none) F := ldV_of (by kernel_rfl)
@[go_sem ↓ high] theorem vcvh_55_151 (h : 0 ≤ a ∧ a ≤ 4294967295) : cvsV Tryz.prog 55 151 (.lit (.int i a)) σ F = F true (.lit (.int .u32 a)) := (cvsV_num (by kernel_rfl)).trans (cvtV_u32 (by kernel_rfl) (by kernel_rfl) h)
@[go_sem ↓] theorem vsy_55_151 : sbyV Tryz.prog 55 151 u σ kv = cvsV Tryz.prog 55 151 u σ fun τ u => kv τ u σ := sbyV_num (by kernel_rfl)
@[go_sem ↓] theorem vcv_3_55 : cvsV Tryz.prog 3 55 (.lit (.int i a)) σ F = F true (.lit (.int .u64 (IntKind.wrap .u64 a))) := (cvsV_num (by kernel_rfl)).trans (cvtV_of (by kernel_rfl) (by kernel_rfl))
@[go_sem ↓ high] theorem vcvh_3_55 (h : 0 ≤ a ∧ a ≤ 18446744073709551615) : cvsV Tryz.prog 3 55 (.lit (.int i a)) σ F = F true (.lit (.int .u64 a)) := (cvsV_num (by kernel_rfl)).trans (cvtV_u64 (by kernel_rfl) (by kernel_rfl) h)
@[go_sem ↓] theorem vsy_3_55 : sbyV Tryz.prog 3 55 u σ kv = cvsV Tryz.prog 3 55 u σ fun τ u => kv τ u σ := sbyV_num (by kernel_rfl)
@[go_sem ↓ high] theorem vcvh_3_123 (h : 0 ≤ a ∧ a ≤ 18446744073709551615) : cvsV Tryz.prog 3 123 (.lit (.int i a)) σ F = F true (.lit (.int .u64 a)) := (cvsV_num (by kernel_rfl)).trans (cvtV_u64 (by kernel_rfl) (by kernel_rfl) h)
@[go_sem ↓] theorem vsy_3_123 : sbyV Tryz.prog 3 123 u σ kv = cvsV Tryz.prog 3 123 u σ fun τ u => kv τ u σ := sbyV_num (by kernel_rfl)
@[go_sem ↓ high] theorem vcvh_151_5 (h : 0 ≤ a ∧ a ≤ 255) : cvsV Tryz.prog 151 5 (.lit (.int i a)) σ F = F true (.lit (.int .u8 a)) := (cvsV_num (by kernel_rfl)).trans (cvtV_u8 (by kernel_rfl) (by kernel_rfl) h)
@[go_sem ↓] theorem vsy_151_5 : sbyV Tryz.prog 151 5 u σ kv = cvsV Tryz.prog 151 5 u σ fun τ u => kv τ u σ := sbyV_num (by kernel_rfl)
@[go_sem ↓] theorem vst_27 : stV Tryz.prog 27 u v σ ks = clK v fun c => lenK c 1 (wrV u σ c ks) := stV_of (by kernel_rfl)
@[go_sem ↓] theorem vfa_27_0 : fadV Tryz.prog 27 (.ref o z i' off) 0 F = F true (.ref o z i' off) := fadV_ref (x := 0) (ag := false) (m := 1) (by kernel_rfl)
@[go_sem ↓] theorem vld_22 : ldV Tryz.prog 22 u σ F = rdV u σ (none) F := ldV_of (by kernel_rfl)
@[go_sem ↓] theorem vsl_22 : slcV Tryz.prog 22 (.sl o 1 off len) lo hi none F = bdoK hi len len fun h => bdoK lo 0 h fun l => F true (.sl o 1 (off + l) (h - l)) := slcV_sl (et := 55) (by kernel_rfl)
@[go_sem ↓ high] theorem vslm_22 : slcV Tryz.prog 22 (.row 1 (L.map f)) lo hi none F = bdoK hi L.length L.length fun h => bdoK lo 0 h fun x => F true (.row 1 (((L.take h).drop x).map f)) := slcV_rowm (et := 55) (by kernel_rfl)
@[go_sem ↓] theorem vbd_27 {ps : List (Nat × V)} : bldV Tryz.prog 27 ps F = allOne ([.slice none 0 0] : List Value) (fillK (plOf Tryz.prog 27) ps (([.slice none 0 0] : List Value).map V.lit) fun l => F true (.agg l)) := bldV_of (by kernel_rfl) (by kernel_rfl) (by kernel_rfl)
@[go_sem ↓] theorem val_27 : alcV Tryz.prog 27 σ kv = allOne ([.slice none 0 0] : List Value) (newO σ (.cells (([.slice none 0 0] : List Value).map V.lit)) fun o σ' => kv true (.ref o 0 0 0) σ') := alcV_of (by kernel_rfl)
@[go_sem ↓] theorem vms_22 : mslV Tryz.prog 22 u v σ kv = mslU 1 8 [.int .u64 0] u v σ kv := mslV_of (et := 55) (by kernel_rfl) (by kernel_rfl) (by kernel_rfl)
@[go_sem ↓] theorem vmu_22 (h : 0 ≤ a ∧ a * 8 ≤ 140737488355328) : mslU 1 8 [.int .u64 0] (.lit (.int .i64 a)) (.lit (.int .i64 a)) σ kv = newO σ (.row 1 (zrow [.int .u64 0] a.toNat)) fun o σ' => kv true (.sl o 1 0 a.toNat) σ' := by
  rw [mslU_of (C := [.int .u64 0]) (z := 1) ⟨h.1, rfl, h.2, by omega, by decide⟩ rfl]
  simp [allOne, oneC]
@[go_sem ↓ high] theorem vmun_22 (h : m * 8 ≤ 140737488355328) : mslU 1 8 [.int .u64 0] (.lit (.int .i64 (m : Int))) (.lit (.int .i64 (m : Int))) σ kv = newO σ (.row 1 (zrow [.int .u64 0] m)) fun o σ' => kv true (.sl o 1 0 m) σ' := vmu_22 (by omega)
@[go_sem ↓] theorem vld_3 : ldV Tryz.prog 3 u σ F = rdV u σ (none) F := ldV_of (by kernel_rfl)
@[go_sem ↓ high] theorem vcvh_5_55 (h : 0 ≤ a ∧ a ≤ 18446744073709551615) : cvsV Tryz.prog 5 55 (.lit (.int i a)) σ F = F true (.lit (.int .u64 a)) := (cvsV_num (by kernel_rfl)).trans (cvtV_u64 (by kernel_rfl) (by kernel_rfl) h)
@[go_sem ↓] theorem vsy_5_55 : sbyV Tryz.prog 5 55 u σ kv = cvsV Tryz.prog 5 55 u σ fun τ u => kv τ u σ := sbyV_num (by kernel_rfl)
@[go_sem ↓ high] theorem vcvh_3_5 (h : 0 ≤ a ∧ a ≤ 255) : cvsV Tryz.prog 3 5 (.lit (.int i a)) σ F = F true (.lit (.int .u8 a)) := (cvsV_num (by kernel_rfl)).trans (cvtV_u8 (by kernel_rfl) (by kernel_rfl) h)
@[go_sem ↓] theorem vsy_3_5 : sbyV Tryz.prog 3 5 u σ kv = cvsV Tryz.prog 3 5 u σ fun τ u => kv τ u σ := sbyV_num (by kernel_rfl)
@[go_sem ↓] theorem vsb_9_114 {l : List UInt8} : sbyV Tryz.prog 9 114 (.lit (.string (bs l))) σ kv = kv true (.row 1 ((l.map fun x => (x.toNat : Int)).map (ie .u8))) σ := sbyV_bs (by kernel_rfl) (by kernel_rfl)
@[go_sem ↓] theorem vld_136 : ldV Tryz.prog 136 u σ F = rdV u σ (some 256) F := ldV_of (by kernel_rfl)
@[go_sem ↓] theorem vst_136 : stV Tryz.prog 136 u v σ ks = clK v fun c => lenK c 256 (wrV u σ c ks) := stV_of (by kernel_rfl)
@[go_sem ↓] theorem vst_4 : stV Tryz.prog 4 u v σ ks = clK v fun c => lenK c 1 (wrV u σ c ks) := stV_of (by kernel_rfl)
@[go_sem ↓] theorem val_136 : alcV Tryz.prog 136 σ kv = allOne ((List.replicate 256 (.bool false)) : List Value) (newO σ (.cells (((List.replicate 256 (.bool false)) : List Value).map V.lit)) fun o σ' => kv true (.ref o 0 0 0) σ') := alcV_of (by kernel_rfl)
@[go_sem ↓ high] theorem vmk_u64_4294967295 {P : Program} {t : TypeId} : binV P .and t (.lit (.int .u64 a)) (.lit (.int .u64 4294967295)) F = F true (.lit (.int .u64 (a % 4294967296))) := binV_mask 32 (by decide) (by decide) (by decide)
@[go_sem ↓ high] theorem vslm_33 : slcV Tryz.prog 33 (.row 1 (L.map f)) lo hi none F = bdoK hi L.length L.length fun h => bdoK lo 0 h fun x => F true (.row 1 (((L.take h).drop x).map f)) := slcV_rowm (et := 3) (by kernel_rfl)
@[go_sem ↓] theorem vix_33 (h : 0 ≤ a ∧ a < len) : idxV Tryz.prog 33 (.sl o 1 off len) (.lit (.int i a)) F = F true (.ref o 1 (off + a.toNat) 0) := idxV_sl (et := 3) (by kernel_rfl) h
@[go_sem ↓ high] theorem vixrn_33 (h : m < l.length) : idxV Tryz.prog 33 (.row 1 l) (.lit (.int i (m : Int))) F = F true (.rref 1 l m 0) := idxV_rown (et := 3) (by kernel_rfl) (by decide) h
@[go_sem ↓ high] theorem vixm_33 (h : 0 ≤ a ∧ a < L.length) : idxV Tryz.prog 33 (.row 1 (L.map f)) (.lit (.int i a)) F = F true (.rref 1 (L.map f) a.toNat 0) := idxV_rowm (et := 3) (by kernel_rfl) (by decide) h
@[go_sem ↓] theorem vln_33 : bltV Tryz.prog e .len [33] [.row m l] σ kv = lenV (.row m l) fun τ v => kv τ v σ := lenB_row (by kernel_rfl)
@[go_sem ↓] theorem vld_27 : ldV Tryz.prog 27 u σ F = rdV u σ (some 1) F := ldV_of (by kernel_rfl)
@[go_sem ↓] theorem vst_3 : stV Tryz.prog 3 u v σ ks = clK v fun c => lenK c 1 (wrV u σ c ks) := stV_of (by kernel_rfl)
@[go_sem ↓] theorem vbs_33_1 {ps : List (Nat × V)} : bslV Tryz.prog 33 1 ps σ kv = prtK 1 0 ps fun l => lenK l 1 (newO σ (.row 1 l) fun o σ' => kv true (.sl o 1 0 1) σ') := bslV_of (et := 3) (by kernel_rfl) ⟨by kernel_rfl, by decide, by decide⟩
@[go_sem ↓] theorem vap_33_33 : apdV Tryz.prog e 33 33 u v σ kv = rowK v σ 1 fun m => apdU e 1 8 u m σ kv := apdV_of (et := 3) (ex := 3) (C := [.int .i64 0]) (by kernel_rfl) (by kernel_rfl) (by kernel_rfl) (by kernel_rfl) (by decide) rfl
@[go_sem ↓] theorem vms_33 : mslV Tryz.prog 33 u v σ kv = mslU 1 8 [.int .i64 0] u v σ kv := mslV_of (et := 3) (by kernel_rfl) (by kernel_rfl) (by kernel_rfl)
@[go_sem ↓] theorem vld_35 : ldV Tryz.prog 35 u σ F = rdV u σ (some 2) F := ldV_of (by kernel_rfl)
@[go_sem ↓] theorem vine_109 : binW Tryz.prog .neq 109 (.const .nilIface) (.lit .nilIface) (.lit .nilIface) F = F true (.lit (.bool false)) := binW_ne0 (by kernel_rfl)
@[go_sem ↓ high] theorem vcvh_123_3 (h : -9223372036854775808 ≤ a ∧ a ≤ 9223372036854775807) : cvsV Tryz.prog 123 3 (.lit (.int i a)) σ F = F true (.lit (.int .i64 a)) := (cvsV_num (by kernel_rfl)).trans (cvtV_i64 (by kernel_rfl) (by kernel_rfl) h)
@[go_sem ↓] theorem vsy_123_3 : sbyV Tryz.prog 123 3 u σ kv = cvsV Tryz.prog 123 3 u σ fun τ u => kv τ u σ := sbyV_num (by kernel_rfl)
@[go_sem ↓] theorem vbs_22_1 {ps : List (Nat × V)} : bslV Tryz.prog 22 1 ps σ kv = prtK 1 0 ps fun l => lenK l 1 (newO σ (.row 1 l) fun o σ' => kv true (.sl o 1 0 1) σ') := bslV_of (et := 55) (by kernel_rfl) ⟨by kernel_rfl, by decide, by decide⟩
@[go_sem ↓] theorem vbs_22_0 {ps : List (Nat × V)} : bslV Tryz.prog 22 0 ps σ kv = prtK 1 0 ps fun l => lenK l 0 (newO σ (.row 1 l) fun o σ' => kv true (.sl o 1 0 0) σ') := bslV_of (et := 55) (by kernel_rfl) ⟨by kernel_rfl, by decide, by decide⟩
@[go_sem ↓] theorem vap_22_22 : apdV Tryz.prog e 22 22 u v σ kv = rowK v σ 1 fun m => apdU e 1 8 u m σ kv := apdV_of (et := 55) (ex := 55) (C := [.int .u64 0]) (by kernel_rfl) (by kernel_rfl) (by kernel_rfl) (by kernel_rfl) (by decide) rfl
@[go_sem ↓] theorem vseq_22 : binV Tryz.prog .eql 22 (.row 1 l) (.lit (.slice none 0 0)) F = nilB .eql l.isEmpty F := binV_seq ⟨by kernel_rfl, by decide⟩
@[go_sem ↓] theorem vpl_27_0 {r : List (Nat × V)} {G : List V → Prop} : fillK (plOf Tryz.prog 27) ((0, u) :: r) us G = clK u fun c => lenK c 1 (wrK us 0 c fun l' => fillK (plOf Tryz.prog 27) r l' G) := fillK_step (by kernel_rfl)
@[go_sem ↓] theorem vfa_29_1 : fadV Tryz.prog 29 (.ref o z i' off) 1 F = F true (.ref o z i' (off + 1)) := fadV_ref (x := 1) (ag := false) (m := 1) (by kernel_rfl)
@[go_sem ↓] theorem vbne_4 {x y : Bool} : binV Tryz.prog .neq 4 (.lit (.bool x)) (.lit (.bool y)) F = F true (.lit (.bool (!(x == y)))) := binV_bne (by kernel_rfl)
@[go_sem ↓] theorem vst_29 : stV Tryz.prog 29 u v σ ks = clK v fun c => lenK c 2 (wrV u σ c ks) := stV_of (by kernel_rfl)
@[go_sem ↓] theorem vfa_29_0 : fadV Tryz.prog 29 (.ref o z i' off) 0 F = F true (.ref o z i' off) := fadV_ref (x := 0) (ag := true) (m := 1) (by kernel_rfl)
@[go_sem ↓] theorem vbd_29 {ps : List (Nat × V)} : bldV Tryz.prog 29 ps F = allOne ([.slice none 0 0, .bool false] : List Value) (fillK (plOf Tryz.prog 29) ps (([.slice none 0 0, .bool false] : List Value).map V.lit) fun l => F true (.agg l)) := bldV_of (by kernel_rfl) (by kernel_rfl) (by kernel_rfl)
@[go_sem ↓] theorem val_29 : alcV Tryz.prog 29 σ kv = allOne ([.slice none 0 0, .bool false] : List Value) (newO σ (.cells (([.slice none 0 0, .bool false] : List Value).map V.lit)) fun o σ' => kv true (.ref o 0 0 0) σ') := alcV_of (by kernel_rfl)
@[go_sem ↓] theorem vfa_35_0 : fadV Tryz.prog 35 (.ref o z i' off) 0 F = F true (.ref o z i' off) := fadV_ref (x := 0) (ag := false) (m := 1) (by kernel_rfl)
@[go_sem ↓] theorem vld_33 : ldV Tryz.prog 33 u σ F = rdV u σ (none) F := ldV_of (by kernel_rfl)
@[go_sem ↓] theorem vfa_35_1 : fadV Tryz.prog 35 (.ref o z i' off) 1 F = F true (.ref o z i' (off + 1)) := fadV_ref (x := 1) (ag := false) (m := 1) (by kernel_rfl)
@[go_sem ↓] theorem vbd_35 {ps : List (Nat × V)} : bldV Tryz.prog 35 ps F = allOne ([.slice none 0 0, .slice none 0 0] : List Value) (fillK (plOf Tryz.prog 35) ps (([.slice none 0 0, .slice none 0 0] : List Value).map V.lit) fun l => F true (.agg l)) := bldV_of (by kernel_rfl) (by kernel_rfl) (by kernel_rfl)
@[go_sem ↓] theorem vpl_35_0 {r : List (Nat × V)} {G : List V → Prop} : fillK (plOf Tryz.prog 35) ((0, u) :: r) us G = clK u fun c => lenK c 1 (wrK us 0 c fun l' => fillK (plOf Tryz.prog 35) r l' G) := fillK_step (by kernel_rfl)
@[go_sem ↓] theorem vpl_35_1 {r : List (Nat × V)} {G : List V → Prop} : fillK (plOf Tryz.prog 35) ((1, u) :: r) us G = clK u fun c => lenK c 1 (wrK us 1 c fun l' => fillK (plOf Tryz.prog 35) r l' G) := fillK_step (by kernel_rfl)
@[go_sem ↓] theorem vst_35 : stV Tryz.prog 35 u v σ ks = clK v fun c => lenK c 2 (wrV u σ c ks) := stV_of (by kernel_rfl)
@[go_sem ↓] theorem val_35 : alcV Tryz.prog 35 σ kv = allOne ([.slice none 0 0, .slice none 0 0] : List Value) (newO σ (.cells (([.slice none 0 0, .slice none 0 0] : List Value).map V.lit)) fun o σ' => kv true (.ref o 0 0 0) σ') := alcV_of (by kernel_rfl)
@[go_sem ↓] theorem vbeq_4 {x y : Bool} : binV Tryz.prog .eql 4 (.lit (.bool x)) (.lit (.bool y)) F = F true (.lit (.bool (x == y))) := binV_beq (by kernel_rfl)
@[go_sem ↓] theorem vld_29 : ldV Tryz.prog 29 u σ F = rdV u σ (some 2) F := ldV_of (by kernel_rfl)
@[go_sem ↓] theorem vbs_114_1 {ps : List (Nat × V)} : bslV Tryz.prog 114 1 ps σ kv = prtK 1 0 ps fun l => lenK l 1 (newO σ (.row 1 l) fun o σ' => kv true (.sl o 1 0 1) σ') := bslV_of (et := 5) (by kernel_rfl) ⟨by kernel_rfl, by decide, by decide⟩
@[go_sem ↓] theorem vfa_68_1 : fadV Tryz.prog 68 (.ref o z i' off) 1 F = F true (.ref o z i' (off + 1)) := fadV_ref (x := 1) (ag := false) (m := 1) (by kernel_rfl)
@[go_sem ↓] theorem vfa_68_0 : fadV Tryz.prog 68 (.ref o z i' off) 0 F = F true (.ref o z i' off) := fadV_ref (x := 0) (ag := false) (m := 1) (by kernel_rfl)
@[go_sem ↓] theorem vfd_27_0 : fldV Tryz.prog 27 (.agg us) 0 F = atK us 0 fun v => F true v := fldV_at (m := 1) (by kernel_rfl)
@[go_sem ↓] theorem vpl_29_0 {r : List (Nat × V)} {G : List V → Prop} : fillK (plOf Tryz.prog 29) ((0, u) :: r) us G = clK u fun c => lenK c 1 (wrK us 0 c fun l' => fillK (plOf Tryz.prog 29) r l' G) := fillK_step (by kernel_rfl)
@[go_sem ↓] theorem vpl_29_1 {r : List (Nat × V)} {G : List V → Prop} : fillK (plOf Tryz.prog 29) ((1, u) :: r) us G = clK u fun c => lenK c 1 (wrK us 1 c fun l' => fillK (plOf Tryz.prog 29) r l' G) := fillK_step (by kernel_rfl)
@[go_sem ↓] theorem vld_68 : ldV Tryz.prog 68 u σ F = rdV u σ (some 2) F := ldV_of (by kernel_rfl)
end
end Go.Proofs.YthlndppcjcjmlaaGreatDoor
