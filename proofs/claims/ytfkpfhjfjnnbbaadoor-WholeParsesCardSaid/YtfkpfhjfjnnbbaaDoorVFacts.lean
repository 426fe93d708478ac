import Derived.Test.YtfkpfhjfjnnbbaaDoorVl
import Derived.Test.YtfkpfhjfjnnbbaaDoorProg
import Derived.KernelRfl
/-! Facts on the program's types and plans of its regions, printed by a program of the prover's own. -/
namespace Go.Proofs.YtfkpfhjfjnnbbaaDoor
open Go.Eng Go.Vx
set_option linter.unusedVariables false
set_option linter.unusedSimpArgs false
set_option maxRecDepth 100000
section
variable {u v : V} {σ : St} {F : FV} {kv : KV} {ks : KS} {e : Bool} {i : IntKind} {a : Int} {o z i' off len m : Nat} {l : List (List PV)} {us : List V} {β : Type} {L : List β} {f : β → List PV} {lo hi : Option V}
def pl2 : Plans := fun id => match id with
  | _ => []
def pl3 : Plans := fun id => match id with
  | 13 => [(0, (5, 0)), (1, (5, 0)), (2, (5, 0)), (3, (0, 0)), (4, (0, 0)), (5, (5, 0)), (6, (5, 0)), (7, (0, 0)), (8, (0, 0)), (9, (0, 0)), (10, (1, 0)), (11, (2, 0)), (12, (0, 0)), (13, (5, 0)), (14, (5, 0))]
  | 15 => [(0, (5, 0)), (1, (5, 0)), (2, (5, 0)), (3, (0, 0)), (4, (0, 0)), (5, (0, 0)), (6, (1, 0)), (7, (1, 0)), (8, (2, 0)), (9, (5, 0)), (10, (5, 0))]
  | 16 => [(0, (5, 0)), (1, (5, 0)), (2, (5, 0)), (3, (0, 0)), (4, (0, 0)), (5, (0, 0)), (6, (1, 0)), (7, (2, 0)), (8, (5, 0)), (9, (5, 0))]
  | _ => []
def pl4 : Plans := fun id => match id with
  | 7 => [(1, (5, 0)), (2, (5, 0)), (4, (5, 0)), (0, (0, 0)), (3, (1, 0)), (5, (1, 0)), (6, (2, 0)), (7, (5, 0)), (8, (0, 0)), (9, (0, 0)), (10, (0, 0)), (11, (1, 0)), (12, (2, 0)), (13, (0, 0)), (14, (5, 0)), (15, (5, 0))]
  | _ => []
def pl5 : Plans := fun id => match id with
  | 9 => [(0, (5, 0)), (1, (5, 0)), (2, (5, 0)), (3, (0, 0)), (4, (0, 0)), (6, (0, 0)), (5, (1, 0)), (7, (2, 0)), (8, (0, 0)), (9, (5, 0)), (10, (5, 0)), (11, (0, 0)), (12, (2, 0)), (13, (0, 0)), (14, (0, 0)), (15, (0, 0)), (17, (0, 0)), (19, (0, 0)), (16, (1, 0)), (18, (1, 0)), (20, (0, 0)), (21, (0, 0)), (22, (0, 0)), (23, (5, 0)), (24, (5, 0)), (25, (0, 0)), (26, (0, 0)), (27, (0, 0)), (28, (2, 0)), (29, (5, 0))]
  | 15 => [(1, (5, 0)), (2, (5, 0)), (0, (0, 0)), (3, (1, 0)), (4, (2, 0)), (5, (5, 0)), (6, (0, 0)), (7, (0, 0)), (8, (2, 0)), (9, (5, 0)), (10, (5, 0))]
  | _ => []
def pl6 : Plans := fun id => match id with
  | 14 => [(0, (5, 0)), (1, (5, 0)), (2, (5, 0)), (4, (5, 0)), (5, (5, 0)), (6, (5, 0)), (3, (0, 0)), (7, (0, 0)), (8, (5, 0))]
  | _ => []
def pl7 : Plans := fun id => match id with
  | 7 => [(0, (5, 0)), (1, (5, 0)), (2, (5, 0)), (3, (0, 0)), (4, (0, 0)), (5, (0, 0)), (6, (2, 0)), (7, (5, 0)), (8, (5, 0)), (9, (0, 0)), (10, (0, 0)), (11, (0, 0)), (12, (0, 0)), (13, (1, 0)), (14, (2, 0)), (15, (5, 0)), (16, (5, 0)), (17, (0, 0)), (18, (0, 0)), (19, (0, 0)), (21, (0, 0)), (22, (0, 0)), (20, (1, 0)), (23, (1, 0)), (24, (2, 0)), (25, (5, 0)), (26, (5, 0)), (27, (0, 0)), (28, (0, 0)), (29, (0, 0)), (31, (0, 0)), (32, (0, 0)), (34, (0, 0)), (35, (0, 0)), (30, (1, 0)), (33, (1, 0)), (36, (1, 0)), (37, (1, 0)), (38, (2, 0)), (39, (5, 0)), (40, (5, 0)), (41, (0, 0)), (42, (0, 0)), (43, (0, 0)), (45, (0, 0)), (47, (0, 0)), (48, (0, 0)), (49, (0, 0)), (44, (1, 0)), (46, (1, 0)), (50, (1, 0)), (51, (1, 0)), (52, (2, 0)), (53, (5, 0)), (54, (5, 0)), (55, (0, 0)), (57, (0, 0)), (59, (0, 0)), (56, (1, 0)), (58, (1, 0)), (60, (2, 0)), (61, (2, 0)), (62, (0, 0)), (63, (5, 0)), (64, (5, 0)), (65, (0, 0)), (67, (0, 0)), (69, (0, 0)), (66, (1, 0)), (68, (1, 0)), (70, (2, 0)), (71, (2, 0)), (72, (0, 0)), (73, (0, 0)), (74, (5, 0)), (75, (5, 0))]
  | _ => []
def pl8 : Plans := fun id => match id with
  | _ => []
def pl9 : Plans := fun id => match id with
  | 5 => [(0, (0, 0)), (1, (0, 0)), (3, (0, 0)), (4, (0, 0)), (2, (1, 0)), (5, (2, 0)), (6, (2, 0)), (7, (5, 0)), (8, (0, 0)), (9, (0, 0)), (11, (0, 0)), (12, (0, 0)), (10, (1, 0)), (13, (1, 0)), (14, (2, 0)), (15, (2, 0)), (16, (5, 0)), (17, (5, 0)), (18, (0, 0)), (19, (0, 0)), (21, (0, 0)), (22, (0, 0)), (20, (1, 0)), (23, (2, 0)), (24, (2, 0)), (25, (5, 0)), (26, (5, 0)), (27, (0, 0)), (29, (0, 0)), (28, (1, 0)), (30, (2, 0)), (31, (2, 0)), (32, (5, 0)), (33, (5, 0)), (34, (0, 0)), (35, (0, 0)), (37, (0, 0)), (38, (0, 0)), (36, (1, 0)), (39, (2, 0)), (40, (0, 0)), (41, (5, 0)), (42, (5, 0))]
  | _ => []
def pl10 : Plans := fun id => match id with
  | 8 => [(0, (5, 0)), (1, (5, 0)), (2, (5, 0)), (3, (0, 0)), (4, (2, 0)), (5, (0, 0)), (6, (5, 0)), (7, (5, 0)), (8, (0, 0)), (10, (0, 0)), (9, (1, 0)), (11, (2, 0)), (12, (2, 0)), (13, (0, 0)), (14, (5, 0)), (15, (5, 0)), (16, (0, 0)), (17, (0, 0)), (19, (0, 0)), (21, (0, 0)), (18, (1, 0)), (20, (1, 0)), (22, (2, 0)), (23, (0, 0)), (24, (5, 0)), (25, (5, 0))]
  | _ => []
def pl11 : Plans := fun id => match id with
  | 7 => [(0, (5, 0)), (1, (0, 0)), (2, (0, 0)), (4, (0, 0)), (6, (0, 0)), (3, (1, 0)), (5, (1, 0)), (7, (2, 0)), (8, (5, 0)), (9, (0, 0)), (10, (0, 0)), (11, (0, 0)), (12, (1, 0)), (13, (1, 0)), (14, (1, 0)), (15, (2, 0)), (16, (5, 0)), (17, (5, 0)), (18, (0, 0)), (19, (0, 0)), (20, (0, 0)), (22, (0, 0)), (24, (0, 0)), (25, (0, 0)), (27, (0, 0)), (28, (0, 0)), (21, (1, 0)), (23, (1, 0)), (26, (1, 0)), (29, (1, 0)), (30, (1, 0)), (31, (2, 0)), (32, (5, 0)), (33, (5, 0)), (34, (0, 0)), (35, (0, 0)), (36, (0, 0)), (37, (0, 0)), (40, (0, 0)), (41, (0, 0)), (43, (0, 0)), (38, (1, 0)), (39, (1, 0)), (42, (1, 0)), (44, (1, 0)), (45, (2, 0)), (46, (5, 0)), (47, (5, 0)), (48, (0, 0)), (49, (0, 0)), (51, (0, 0)), (52, (0, 0)), (50, (1, 0)), (53, (2, 0)), (54, (0, 0)), (55, (0, 0)), (56, (5, 0)), (57, (5, 0)), (58, (0, 0)), (59, (0, 0)), (63, (0, 0)), (64, (0, 0)), (60, (1, 0)), (61, (1, 0)), (62, (1, 0)), (65, (2, 0)), (66, (0, 0)), (67, (5, 0)), (68, (5, 0))]
  | _ => []
def pl12 : Plans := fun id => match id with
  | _ => []
def pl13 : Plans := fun id => match id with
  | 2 => [(0, (0, 0)), (1, (4, 0)), (8, (4, 0)), (9, (4, 0)), (1, (3, 0)), (2, (1, 0)), (3, (2, 0)), (4, (5, 0)), (5, (5, 0)), (6, (5, 0)), (7, (5, 0)), (8, (3, 0)), (9, (3, 0)), (10, (2, 0)), (11, (2, 0)), (12, (5, 0))]
  | _ => []
def pl14 : Plans := fun id => match id with
  | _ => []
def pl15 : Plans := fun id => match id with
  | _ => []
def pl16 : Plans := fun id => match id with
  | _ => []
def pl17 : Plans := fun id => match id with
  | _ => []
def pl18 : Plans := fun id => match id with
  | _ => []
def pl19 : Plans := fun id => match id with
  | _ => []
def pl20 : Plans := fun id => match id with
  | 7 => [(0, (5, 0)), (2, (5, 0)), (5, (5, 0)), (7, (5, 0)), (1, (0, 0)), (3, (5, 0)), (4, (0, 0)), (10, (5, 0)), (6, (0, 0)), (8, (5, 0)), (9, (0, 0)), (11, (5, 0))]
  | _ => []
@[go_sem ↓] theorem pl20_7 : pl20 7 = [(0, (5, 0)), (2, (5, 0)), (5, (5, 0)), (7, (5, 0)), (1, (0, 0)), (3, (5, 0)), (4, (0, 0)), (10, (5, 0)), (6, (0, 0)), (8, (5, 0)), (9, (0, 0)), (11, (5, 0))] := (rfl)
def pl21 : Plans := fun id => match id with
  | _ => []
def pl22 : Plans := fun id => match id with
  | _ => []
def pl23 : Plans := fun id => match id with
  | _ => []
def pl24 : Plans := fun id => match id with
  | 3 => [(0, (0, 0)), (1, (8, 2)), (3, (2, 0))]
  | _ => []
def pl25 : Plans := fun id => match id with
  | 11 => [(0, (5, 0)), (1, (5, 0)), (2, (5, 0)), (3, (5, 0)), (5, (5, 0)), (6, (5, 0)), (7, (5, 0)), (4, (0, 0)), (8, (0, 0)), (9, (5, 0)), (10, (5, 0)), (11, (5, 0))]
  | _ => []
def pl26 : Plans := fun id => match id with
  | _ => []
def pl27 : Plans := fun id => match id with
  | 3 => [(0, (5, 0)), (1, (5, 0)), (3, (5, 0)), (5, (5, 0)), (6, (5, 0)), (4, (0, 0)), (2, (4, 0)), (7, (2, 0)), (2, (3, 0)), (8, (2, 0)), (9, (2, 0)), (10, (2, 0)), (11, (5, 0))]
  | _ => []
def pl28 : Plans := fun id => match id with
  | 10 => [(0, (5, 0)), (1, (5, 0)), (2, (5, 0)), (4, (5, 0)), (5, (5, 0)), (6, (5, 0)), (7, (5, 0)), (9, (5, 0)), (10, (5, 0)), (3, (0, 0)), (8, (0, 0)), (11, (5, 0)), (12, (5, 0)), (13, (5, 0)), (14, (2, 0))]
  | _ => []
@[go_sem ↓] theorem pl28_10 : pl28 10 = [(0, (5, 0)), (1, (5, 0)), (2, (5, 0)), (4, (5, 0)), (5, (5, 0)), (6, (5, 0)), (7, (5, 0)), (9, (5, 0)), (10, (5, 0)), (3, (0, 0)), (8, (0, 0)), (11, (5, 0)), (12, (5, 0)), (13, (5, 0)), (14, (2, 0))] := (rfl)
def pl29 : Plans := fun id => match id with
  | _ => []
def pl30 : Plans := fun id => match id with
  | _ => []
def pl31 : Plans := fun id => match id with
  | _ => []
def pl32 : Plans := fun id => match id with
  | _ => []
def pl33 : Plans := fun id => match id with
  | _ => []
def pl34 : Plans := fun id => match id with
  | _ => []
def pl35 : Plans := fun id => match id with
  | _ => []
def pl36 : Plans := fun id => match id with
  | _ => []
def pl37 : Plans := fun id => match id with
  | _ => []
def pl38 : Plans := fun id => match id with
  | 9 => [(4, (5, 0)), (0, (0, 0)), (1, (4, 0)), (5, (4, 0)), (1, (3, 0)), (2, (1, 0)), (3, (2, 0)), (5, (3, 0)), (6, (2, 0)), (7, (2, 0)), (8, (2, 0))]
  | _ => []
@[go_sem ↓] theorem pl38_9 : pl38 9 = [(4, (5, 0)), (0, (0, 0)), (1, (4, 0)), (5, (4, 0)), (1, (3, 0)), (2, (1, 0)), (3, (2, 0)), (5, (3, 0)), (6, (2, 0)), (7, (2, 0)), (8, (2, 0))] := (rfl)
def pl39 : Plans := fun id => match id with
  | _ => []
def pl40 : Plans := fun id => match id with
  | _ => []
def pl41 : Plans := fun id => match id with
  | _ => []
def pl42 : Plans := fun id => match id with
  | 2 => [(0, (5, 0)), (2, (5, 0)), (5, (5, 0)), (7, (5, 0)), (1, (0, 0)), (6, (0, 0)), (3, (1, 0)), (4, (1, 0)), (8, (2, 0)), (9, (2, 0)), (10, (2, 0))]
  | _ => []
def pl43 : Plans := fun id => match id with
  | 1 => [(0, (0, 0)), (2, (0, 0)), (1, (1, 0)), (3, (2, 0)), (4, (5, 0)), (5, (5, 0))]
  | _ => []
def pl44 : Plans := fun id => match id with
  | 2 => [(0, (5, 0)), (2, (5, 0)), (4, (5, 0)), (1, (0, 0)), (3, (0, 0)), (5, (0, 0)), (6, (1, 0)), (7, (2, 0)), (8, (2, 0))]
  | _ => []
def pl45 : Plans := fun id => match id with
  | 1 => [(0, (5, 0)), (2, (5, 0)), (5, (5, 0)), (7, (5, 0)), (1, (0, 0)), (3, (0, 0)), (6, (0, 0)), (8, (0, 0)), (4, (1, 0)), (9, (2, 0)), (10, (1, 0)), (11, (2, 0))]
  | _ => []
def pl46 : Plans := fun id => match id with
  | 1 => [(0, (0, 0)), (1, (0, 0)), (2, (1, 0)), (3, (2, 0)), (4, (2, 0))]
  | _ => []
def pl47 : Plans := fun id => match id with
  | _ => []
def pl48 : Plans := fun id => match id with
  | 1 => [(0, (5, 0)), (2, (5, 0)), (5, (5, 0)), (7, (5, 0)), (1, (0, 0)), (3, (0, 0)), (4, (5, 0)), (6, (0, 0)), (8, (0, 0)), (9, (1, 0)), (10, (2, 0)), (11, (2, 0))]
  | _ => []
def pl49 : Plans := fun id => match id with
  | 1 => [(0, (5, 0)), (2, (5, 0)), (5, (5, 0)), (7, (5, 0)), (11, (5, 0)), (13, (5, 0)), (16, (5, 0)), (18, (5, 0)), (1, (0, 0)), (3, (0, 0)), (6, (0, 0)), (8, (0, 0)), (12, (0, 0)), (14, (0, 0)), (17, (0, 0)), (19, (0, 0)), (4, (1, 0)), (9, (1, 0)), (10, (1, 0)), (15, (1, 0)), (20, (2, 0)), (21, (2, 0)), (22, (1, 0)), (23, (2, 0))]
  | _ => []
def pl50 : Plans := fun id => match id with
  | _ => []
def pl51 : Plans := fun id => match id with
  | _ => []
def pl52 : Plans := fun id => match id with
  | 1 => [(0, (5, 0)), (2, (5, 0)), (5, (5, 0)), (7, (5, 0)), (1, (0, 0)), (3, (0, 0)), (6, (0, 0)), (8, (0, 0)), (4, (1, 0)), (9, (2, 0)), (10, (2, 0)), (11, (5, 0))]
  | _ => []
def pl53 : Plans := fun id => match id with
  | 5 => [(0, (0, 0)), (1, (1, 0)), (2, (1, 0)), (3, (2, 0)), (4, (2, 0))]
  | 7 => [(0, (5, 0)), (2, (5, 0)), (1, (0, 0)), (3, (0, 0)), (4, (5, 0)), (5, (0, 0)), (7, (0, 0)), (6, (1, 0)), (8, (2, 0)), (9, (2, 0)), (10, (2, 0)), (11, (5, 0))]
  | _ => []
@[go_sem ↓] theorem pl53_5 : pl53 5 = [(0, (0, 0)), (1, (1, 0)), (2, (1, 0)), (3, (2, 0)), (4, (2, 0))] := (rfl)
@[go_sem ↓] theorem pl53_7 : pl53 7 = [(0, (5, 0)), (2, (5, 0)), (1, (0, 0)), (3, (0, 0)), (4, (5, 0)), (5, (0, 0)), (7, (0, 0)), (6, (1, 0)), (8, (2, 0)), (9, (2, 0)), (10, (2, 0)), (11, (5, 0))] := (rfl)
def pl54 : Plans := fun id => match id with
  | _ => []
def pl55 : Plans := fun id => match id with
  | _ => []
def pl56 : Plans := fun id => match id with
  | _ => []
def pl57 : Plans := fun id => match id with
  | _ => []
def pl58 : Plans := fun id => match id with
  | _ => []
def pl59 : Plans := fun id => match id with
  | _ => []
def pl60 : Plans := fun id => match id with
  | _ => []
def pl61 : Plans := fun id => match id with
  | 6 => [(0, (5, 0)), (2, (5, 0)), (1, (0, 0)), (3, (0, 0)), (4, (5, 0)), (5, (0, 0)), (6, (2, 0)), (7, (5, 0)), (8, (5, 0)), (9, (5, 0)), (10, (5, 0)), (11, (5, 0))]
  | _ => []
@[go_sem ↓] theorem pl61_6 : pl61 6 = [(0, (5, 0)), (2, (5, 0)), (1, (0, 0)), (3, (0, 0)), (4, (5, 0)), (5, (0, 0)), (6, (2, 0)), (7, (5, 0)), (8, (5, 0)), (9, (5, 0)), (10, (5, 0)), (11, (5, 0))] := (rfl)
def pl62 : Plans := fun id => match id with
  | _ => []
def pl63 : Plans := fun id => match id with
  | _ => []
def pl64 : Plans := fun id => match id with
  | _ => []
def pl65 : Plans := fun id => match id with
  | 8 => [(0, (5, 0)), (1, (5, 0)), (2, (5, 0)), (4, (5, 0)), (5, (5, 0)), (6, (5, 0)), (3, (0, 0)), (7, (0, 0)), (8, (5, 0))]
  | 10 => [(0, (5, 0)), (1, (5, 0)), (2, (5, 0)), (4, (5, 0)), (5, (5, 0)), (6, (5, 0)), (3, (0, 0)), (7, (0, 0)), (8, (5, 0))]
  | _ => []
def pl66 : Plans := fun id => match id with
  | _ => []
def pl68 : Plans := fun id => match id with
  | _ => []
def pl69 : Plans := fun id => match id with
  | 5 => [(0, (5, 0)), (1, (5, 0)), (2, (5, 0)), (4, (5, 0)), (5, (5, 0)), (6, (5, 0)), (3, (0, 0)), (7, (5, 0)), (8, (5, 0)), (9, (2, 0))]
  | _ => []
@[go_sem ↓] theorem pl69_5 : pl69 5 = [(0, (5, 0)), (1, (5, 0)), (2, (5, 0)), (4, (5, 0)), (5, (5, 0)), (6, (5, 0)), (3, (0, 0)), (7, (5, 0)), (8, (5, 0)), (9, (2, 0))] := (rfl)
def pl70 : Plans := fun id => match id with
  | _ => []
def pl71 : Plans := fun id => match id with
  | _ => []
def pl73 : Plans := fun id => match id with
  | 4 => [(0, (5, 0)), (1, (5, 0)), (2, (5, 0)), (4, (5, 0)), (5, (5, 0)), (3, (2, 0)), (6, (2, 0)), (7, (5, 0))]
  | _ => []
def pl74 : Plans := fun id => match id with
  | _ => []
def pl75 : Plans := fun id => match id with
  | _ => []
def pl76 : Plans := fun id => match id with
  | _ => []
def pl77 : Plans := fun id => match id with
  | _ => []
def pl78 : Plans := fun id => match id with
  | 1 => [(1, (5, 0)), (2, (5, 0)), (0, (0, 0)), (3, (0, 0)), (4, (1, 0)), (5, (0, 0)), (6, (5, 0)), (7, (1, 0)), (8, (2, 0))]
  | _ => []
@[go_sem ↓] theorem pl78_1 : pl78 1 = [(1, (5, 0)), (2, (5, 0)), (0, (0, 0)), (3, (0, 0)), (4, (1, 0)), (5, (0, 0)), (6, (5, 0)), (7, (1, 0)), (8, (2, 0))] := (rfl)
def pl79 : Plans := fun id => match id with
  | _ => []
def pl80 : Plans := fun id => match id with
  | _ => []
def pl81 : Plans := fun id => match id with
  | _ => []
def pl82 : Plans := fun id => match id with
  | 10 => [(0, (5, 0)), (2, (5, 0)), (3, (5, 0)), (4, (5, 0)), (6, (5, 0)), (1, (2, 0)), (5, (2, 0)), (7, (2, 0)), (8, (2, 0)), (9, (2, 0)), (10, (5, 0))]
  | _ => []
@[go_sem ↓] theorem pl82_10 : pl82 10 = [(0, (5, 0)), (2, (5, 0)), (3, (5, 0)), (4, (5, 0)), (6, (5, 0)), (1, (2, 0)), (5, (2, 0)), (7, (2, 0)), (8, (2, 0)), (9, (2, 0)), (10, (5, 0))] := (rfl)
def pl83 : Plans := fun id => match id with
  | _ => []
def pl84 : Plans := fun id => match id with
  | _ => []
def pl85 : Plans := fun id => match id with
  | _ => []
def pl86 : Plans := fun id => match id with
  | _ => []
def pl87 : Plans := fun id => match id with
  | _ => []
def pl88 : Plans := fun id => match id with
  | _ => []
def pl89 : Plans := fun id => match id with
  | _ => []
def pl90 : Plans := fun id => match id with
  | _ => []
def pl91 : Plans := fun id => match id with
  | _ => []
def pl92 : Plans := fun id => match id with
  | 6 => [(0, (5, 0)), (1, (5, 0)), (2, (5, 0)), (3, (5, 0)), (4, (5, 0)), (5, (5, 0)), (6, (5, 0)), (7, (5, 0))]
  | _ => []
@[go_sem ↓] theorem pl92_6 : pl92 6 = [(0, (5, 0)), (1, (5, 0)), (2, (5, 0)), (3, (5, 0)), (4, (5, 0)), (5, (5, 0)), (6, (5, 0)), (7, (5, 0))] := (rfl)
def pl93 : Plans := fun id => match id with
  | _ => []
def pl94 : Plans := fun id => match id with
  | _ => []
def pl95 : Plans := fun id => match id with
  | _ => []
def pl96 : Plans := fun id => match id with
  | 3 => [(0, (5, 0)), (1, (5, 0)), (2, (5, 0)), (5, (5, 0)), (6, (5, 0)), (7, (5, 0)), (11, (5, 0)), (3, (0, 0)), (8, (0, 0)), (9, (0, 0)), (4, (1, 0)), (10, (5, 0)), (12, (5, 0))]
  | _ => []
def pl97 : Plans := fun id => match id with
  | _ => []
def pl98 : Plans := fun id => match id with
  | _ => []
def pl99 : Plans := fun id => match id with
  | 1 => [(0, (5, 0)), (1, (5, 0)), (2, (5, 0)), (5, (5, 0)), (6, (5, 0)), (7, (5, 0)), (3, (0, 0)), (8, (0, 0)), (9, (0, 0)), (4, (1, 0)), (10, (2, 0)), (11, (5, 0))]
  | _ => []
def pl100 : Plans := fun id => match id with
  | _ => []
def pl101 : Plans := fun id => match id with
  | _ => []
def pl102 : Plans := fun id => match id with
  | _ => []
def pl103 : Plans := fun id => match id with
  | 3 => [(0, (5, 0)), (1, (5, 0)), (2, (5, 0)), (4, (5, 0)), (5, (5, 0)), (6, (5, 0)), (7, (5, 0)), (3, (0, 0)), (8, (0, 0)), (9, (5, 0))]
  | 4 => [(0, (5, 0)), (1, (5, 0)), (2, (5, 0)), (4, (5, 0)), (5, (5, 0)), (6, (5, 0)), (7, (5, 0)), (9, (5, 0)), (10, (5, 0)), (11, (5, 0)), (12, (5, 0)), (3, (0, 0)), (8, (0, 0)), (13, (0, 0)), (14, (2, 0)), (15, (5, 0)), (16, (5, 0)), (17, (5, 0)), (18, (5, 0))]
  | _ => []
@[go_sem ↓] theorem pl103_3 : pl103 3 = [(0, (5, 0)), (1, (5, 0)), (2, (5, 0)), (4, (5, 0)), (5, (5, 0)), (6, (5, 0)), (7, (5, 0)), (3, (0, 0)), (8, (0, 0)), (9, (5, 0))] := (rfl)
@[go_sem ↓] theorem pl103_4 : pl103 4 = [(0, (5, 0)), (1, (5, 0)), (2, (5, 0)), (4, (5, 0)), (5, (5, 0)), (6, (5, 0)), (7, (5, 0)), (9, (5, 0)), (10, (5, 0)), (11, (5, 0)), (12, (5, 0)), (3, (0, 0)), (8, (0, 0)), (13, (0, 0)), (14, (2, 0)), (15, (5, 0)), (16, (5, 0)), (17, (5, 0)), (18, (5, 0))] := (rfl)
def pl104 : Plans := fun id => match id with
  | _ => []
def pl105 : Plans := fun id => match id with
  | _ => []
def pl106 : Plans := fun id => match id with
  | _ => []
def pl107 : Plans := fun id => match id with
  | _ => []
def pl108 : Plans := fun id => match id with
  | _ => []
def pl109 : Plans := fun id => match id with
  | _ => []
def pl110 : Plans := fun id => match id with
  | 1 => [(0, (5, 0)), (1, (5, 0)), (3, (0, 0)), (2, (1, 0)), (4, (1, 0)), (5, (1, 0)), (6, (5, 0))]
  | _ => []
def pl111 : Plans := fun id => match id with
  | 1 => [(0, (5, 0)), (1, (5, 0)), (3, (0, 0)), (2, (1, 0)), (4, (1, 0)), (5, (1, 0)), (6, (5, 0))]
  | _ => []
def pl112 : Plans := fun id => match id with
  | _ => []
def pl113 : Plans := fun id => match id with
  | _ => []
def pl114 : Plans := fun id => match id with
  | _ => []
def pl115 : Plans := fun id => match id with
  | _ => []
def pl116 : Plans := fun id => match id with
  | 7 => [(0, (5, 0)), (1, (5, 0)), (2, (5, 0)), (3, (5, 0)), (4, (5, 0)), (5, (5, 0)), (6, (5, 0)), (7, (5, 0)), (8, (5, 0)), (9, (5, 0)), (10, (5, 0)), (11, (5, 0)), (12, (2, 0)), (13, (5, 0)), (14, (2, 0))]
  | 8 => [(0, (5, 0)), (1, (5, 0)), (2, (5, 0)), (3, (5, 0)), (4, (5, 0)), (5, (5, 0)), (6, (5, 0)), (7, (5, 0)), (8, (5, 0)), (9, (5, 0)), (10, (5, 0)), (11, (5, 0)), (12, (2, 0)), (13, (5, 0)), (14, (2, 0))]
  | 9 => [(0, (5, 0)), (1, (5, 0)), (2, (5, 0)), (3, (5, 0)), (4, (5, 0)), (5, (5, 0)), (6, (5, 0)), (7, (5, 0)), (8, (5, 0)), (9, (5, 0)), (10, (5, 0)), (11, (5, 0)), (12, (2, 0)), (13, (5, 0)), (14, (2, 0))]
  | 10 => [(0, (5, 0)), (1, (5, 0)), (2, (5, 0)), (3, (5, 0)), (4, (5, 0)), (5, (5, 0)), (6, (5, 0)), (7, (5, 0)), (8, (5, 0)), (9, (5, 0)), (10, (5, 0)), (11, (5, 0)), (12, (2, 0)), (13, (5, 0)), (14, (2, 0))]
  | 17 => [(0, (5, 0)), (1, (5, 0)), (2, (5, 0)), (3, (5, 0)), (4, (5, 0)), (5, (5, 0)), (6, (5, 0)), (7, (5, 0)), (8, (5, 0)), (9, (5, 0)), (10, (5, 0)), (11, (5, 0)), (12, (2, 0)), (13, (5, 0)), (14, (2, 0))]
  | 18 => [(0, (5, 0)), (1, (5, 0)), (2, (5, 0)), (3, (5, 0)), (4, (5, 0)), (5, (5, 0)), (6, (5, 0)), (7, (5, 0)), (8, (5, 0)), (9, (5, 0)), (10, (5, 0)), (11, (5, 0)), (12, (2, 0)), (13, (5, 0)), (14, (2, 0))]
  | 23 => [(0, (5, 0)), (1, (5, 0)), (2, (5, 0)), (3, (5, 0)), (4, (5, 0)), (5, (5, 0)), (6, (5, 0)), (7, (5, 0)), (8, (5, 0)), (9, (5, 0)), (10, (5, 0)), (11, (5, 0)), (12, (2, 0)), (13, (5, 0)), (14, (2, 0))]
  | _ => []
@[go_sem ↓] theorem pl116_7 : pl116 7 = [(0, (5, 0)), (1, (5, 0)), (2, (5, 0)), (3, (5, 0)), (4, (5, 0)), (5, (5, 0)), (6, (5, 0)), (7, (5, 0)), (8, (5, 0)), (9, (5, 0)), (10, (5, 0)), (11, (5, 0)), (12, (2, 0)), (13, (5, 0)), (14, (2, 0))] := (rfl)
@[go_sem ↓] theorem pl116_8 : pl116 8 = [(0, (5, 0)), (1, (5, 0)), (2, (5, 0)), (3, (5, 0)), (4, (5, 0)), (5, (5, 0)), (6, (5, 0)), (7, (5, 0)), (8, (5, 0)), (9, (5, 0)), (10, (5, 0)), (11, (5, 0)), (12, (2, 0)), (13, (5, 0)), (14, (2, 0))] := (rfl)
@[go_sem ↓] theorem pl116_9 : pl116 9 = [(0, (5, 0)), (1, (5, 0)), (2, (5, 0)), (3, (5, 0)), (4, (5, 0)), (5, (5, 0)), (6, (5, 0)), (7, (5, 0)), (8, (5, 0)), (9, (5, 0)), (10, (5, 0)), (11, (5, 0)), (12, (2, 0)), (13, (5, 0)), (14, (2, 0))] := (rfl)
@[go_sem ↓] theorem pl116_10 : pl116 10 = [(0, (5, 0)), (1, (5, 0)), (2, (5, 0)), (3, (5, 0)), (4, (5, 0)), (5, (5, 0)), (6, (5, 0)), (7, (5, 0)), (8, (5, 0)), (9, (5, 0)), (10, (5, 0)), (11, (5, 0)), (12, (2, 0)), (13, (5, 0)), (14, (2, 0))] := (rfl)
@[go_sem ↓] theorem pl116_17 : pl116 17 = [(0, (5, 0)), (1, (5, 0)), (2, (5, 0)), (3, (5, 0)), (4, (5, 0)), (5, (5, 0)), (6, (5, 0)), (7, (5, 0)), (8, (5, 0)), (9, (5, 0)), (10, (5, 0)), (11, (5, 0)), (12, (2, 0)), (13, (5, 0)), (14, (2, 0))] := (rfl)
@[go_sem ↓] theorem pl116_18 : pl116 18 = [(0, (5, 0)), (1, (5, 0)), (2, (5, 0)), (3, (5, 0)), (4, (5, 0)), (5, (5, 0)), (6, (5, 0)), (7, (5, 0)), (8, (5, 0)), (9, (5, 0)), (10, (5, 0)), (11, (5, 0)), (12, (2, 0)), (13, (5, 0)), (14, (2, 0))] := (rfl)
@[go_sem ↓] theorem pl116_23 : pl116 23 = [(0, (5, 0)), (1, (5, 0)), (2, (5, 0)), (3, (5, 0)), (4, (5, 0)), (5, (5, 0)), (6, (5, 0)), (7, (5, 0)), (8, (5, 0)), (9, (5, 0)), (10, (5, 0)), (11, (5, 0)), (12, (2, 0)), (13, (5, 0)), (14, (2, 0))] := (rfl)
def pl117 : Plans := fun id => match id with
  | _ => []
def pl118 : Plans := fun id => match id with
  | _ => []
def pl119 : Plans := fun id => match id with
  | _ => []
def pl120 : Plans := fun id => match id with
  | _ => []
def pl121 : Plans := fun id => match id with
  | 0 => [(0, (5, 0)), (1, (5, 0)), (2, (5, 0)), (6, (5, 0)), (9, (5, 0)), (10, (5, 0)), (11, (5, 0)), (3, (0, 0)), (12, (0, 0)), (13, (0, 0)), (4, (1, 0)), (5, (5, 0)), (7, (5, 0)), (8, (1, 0)), (14, (5, 0)), (15, (5, 0))]
  | _ => []
def pl122 : Plans := fun id => match id with
  | _ => []
def pl123 : Plans := fun id => match id with
  | _ => []
def pl124 : Plans := fun id => match id with
  | 6 => [(0, (5, 0)), (1, (5, 0)), (2, (5, 0)), (3, (5, 0)), (4, (5, 0)), (5, (5, 0)), (6, (5, 0))]
  | 7 => [(0, (5, 0)), (1, (5, 0)), (2, (5, 0)), (3, (5, 0)), (4, (5, 0)), (5, (5, 0)), (6, (5, 0)), (7, (2, 0)), (8, (5, 0))]
  | 14 => [(0, (5, 0)), (1, (5, 0)), (2, (5, 0)), (3, (5, 0)), (4, (5, 0)), (5, (5, 0)), (6, (5, 0)), (7, (5, 0)), (8, (5, 0)), (9, (5, 0)), (10, (5, 0))]
  | 31 => [(0, (5, 0)), (1, (5, 0)), (2, (5, 0)), (3, (5, 0)), (4, (5, 0)), (5, (5, 0)), (6, (5, 0)), (7, (5, 0)), (8, (5, 0)), (9, (5, 0)), (10, (5, 0))]
  | _ => []
def pl125 : Plans := fun id => match id with
  | _ => []
def pl126 : Plans := fun id => match id with
  | _ => []
def pl127 : Plans := fun id => match id with
  | _ => []
def pl128 : Plans := fun id => match id with
  | _ => []
def pl129 : Plans := fun id => match id with
  | _ => []
def pl130 : Plans := fun id => match id with
  | _ => []
def pl131 : Plans := fun id => match id with
  | _ => []
def pl132 : Plans := fun id => match id with
  | _ => []
def pl135 : Plans := fun id => match id with
  | _ => []
def pl136 : Plans := fun id => match id with
  | _ => []
def pl137 : Plans := fun id => match id with
  | _ => []
def pl139 : Plans := fun id => match id with
  | _ => []
def pl140 : Plans := fun id => match id with
  | _ => []
def pl141 : Plans := fun id => match id with
  | _ => []
def pl142 : Plans := fun id => match id with
  | _ => []
def pl143 : Plans := fun id => match id with
  | _ => []
def pl174 : Plans := fun id => match id with
  | _ => []
@[go_sem ↓] theorem vsy_103_9 : sbyV Tryd.prog 103 9 u σ kv = cvsV Tryd.prog 103 9 u σ fun τ u => kv τ u σ := sbyV_byt (by kernel_rfl)
@[go_sem ↓] theorem vcs_103_9 : cvsV Tryd.prog 103 9 u σ F = rowK u σ 1 fun l => bytK l fun b => F true (.lit (.string (bs b))) := cvsV_byt (by kernel_rfl) (by kernel_rfl)
@[go_sem ↓] theorem vst_5 : stV Tryd.prog 5 u v σ ks = clK v fun c => lenK c 1 (wrV u σ c ks) := stV_of (by kernel_rfl)
@[go_sem ↓] theorem val_138 : alcV Tryd.prog 138 σ kv = allOne ([.int .u8 0, .int .u8 0, .int .u8 0, .int .u8 0, .int .u8 0, .int .u8 0, .int .u8 0, .int .u8 0, .int .u8 0, .int .u8 0, .int .u8 0, .int .u8 0, .int .u8 0, .int .u8 0, .int .u8 0, .int .u8 0, .int .u8 0, .int .u8 0, .int .u8 0, .int .u8 0, .int .u8 0, .int .u8 0, .int .u8 0, .int .u8 0] : List Value) (newO σ (.cells (([.int .u8 0, .int .u8 0, .int .u8 0, .int .u8 0, .int .u8 0, .int .u8 0, .int .u8 0, .int .u8 0, .int .u8 0, .int .u8 0, .int .u8 0, .int .u8 0, .int .u8 0, .int .u8 0, .int .u8 0, .int .u8 0, .int .u8 0, .int .u8 0, .int .u8 0, .int .u8 0, .int .u8 0, .int .u8 0, .int .u8 0, .int .u8 0] : List Value).map V.lit)) fun o σ' => kv true (.ref o 0 0 0) σ') := alcV_of (by kernel_rfl)
@[go_sem ↓] theorem vld_5 : ldV Tryd.prog 5 u σ F = rdV u σ (none) F := ldV_of (by kernel_rfl)
@[go_sem ↓ high] theorem vcvh_5_3 (h : -9223372036854775808 ≤ a ∧ a ≤ 9223372036854775807) : cvsV Tryd.prog 5 3 (.lit (.int i a)) σ F = F true (.lit (.int .i64 a)) := (cvsV_num (by kernel_rfl)).trans (cvtV_i64 (by kernel_rfl) (by kernel_rfl) h)
@[go_sem ↓] theorem vsy_5_3 : sbyV Tryd.prog 5 3 u σ kv = cvsV Tryd.prog 5 3 u σ fun τ u => kv τ u σ := sbyV_num (by kernel_rfl)
@[go_sem ↓ high] theorem vshr_i64_u64_18 {P : Program} {t : TypeId} : binV P .shr t (.lit (.int .i64 a)) (.lit (.int .u64 18)) F = F true (.lit (.int .i64 (a / 262144))) := by rw [binV_shr_i64 (by decide)]; rfl
@[go_sem ↓] theorem vix_103 (h : 0 ≤ a ∧ a < len) : idxV Tryd.prog 103 (.sl o 1 off len) (.lit (.int i a)) F = F true (.ref o 1 (off + a.toNat) 0) := idxV_sl (et := 5) (by kernel_rfl) h
@[go_sem ↓ high] theorem vixrn_103 (h : m < l.length) : idxV Tryd.prog 103 (.row 1 l) (.lit (.int i (m : Int))) F = F true (.rref 1 l m 0) := idxV_rown (et := 5) (by kernel_rfl) (by decide) h
@[go_sem ↓] theorem vln_103 : bltV Tryd.prog e .len [103] [.row m l] σ kv = lenV (.row m l) fun τ v => kv τ v σ := lenB_row (by kernel_rfl)
@[go_sem ↓] theorem vlns_103 : bltV Tryd.prog e .len [103] [.sl o m off len] σ kv = lenV (.sl o m off len) fun τ v => kv τ v σ := lenB_sl (by kernel_rfl)
@[go_sem ↓] theorem vlnt_9 {s : List UInt8} : bltV Tryd.prog e .len [9] [.lit (.string (bs s))] σ kv = kv true (.lit (.int .i64 (s.length : Int))) σ := lenB_str (by kernel_rfl)
@[go_sem ↓] theorem visb_9 {s : List UInt8} (h : 0 ≤ a ∧ a < s.length) : ixvV Tryd.prog 9 (.lit (.string (bs s))) (.lit (.int i a)) F = F true (.lit (.int .u8 ((s.getD a.toNat 0).toNat : Int))) := ixvV_bs (by kernel_rfl) h
@[go_sem ↓ high] theorem visn_9 {s : List UInt8} (h : m < s.length) : ixvV Tryd.prog 9 (.lit (.string (bs s))) (.lit (.int i (m : Int))) F = F true (.lit (.int .u8 ((s.getD m 0).toNat : Int))) := ixvV_bsn (by kernel_rfl) h
@[go_sem ↓] theorem vis_9 {s : ByteArray} (h : 0 ≤ a ∧ a < s.size) : ixvV Tryd.prog 9 (.lit (.string s)) (.lit (.int i a)) F = F true (.lit (.int .u8 (strAt s a.toNat))) := ixvV_str (by kernel_rfl) h
@[go_sem ↓] theorem vslt_9 {s : List UInt8} : slcV Tryd.prog 9 (.lit (.string (bs s))) lo hi none F = bdoK hi s.length s.length fun h => bdoK lo 0 h fun x => F true (.lit (.string (bs ((s.take h).drop x)))) := slcV_str (by kernel_rfl)
@[go_sem ↓ high] theorem vcvh_48_3 (h : -9223372036854775808 ≤ a ∧ a ≤ 9223372036854775807) : cvsV Tryd.prog 48 3 (.lit (.int i a)) σ F = F true (.lit (.int .i64 a)) := (cvsV_num (by kernel_rfl)).trans (cvtV_i64 (by kernel_rfl) (by kernel_rfl) h)
@[go_sem ↓] theorem vsy_48_3 : sbyV Tryd.prog 48 3 u σ kv = cvsV Tryd.prog 48 3 u σ fun τ u => kv τ u σ := sbyV_num (by kernel_rfl)
@[go_sem ↓] theorem vix_22 (h : 0 ≤ a ∧ a < len) : idxV Tryd.prog 22 (.sl o 1 off len) (.lit (.int i a)) F = F true (.ref o 1 (off + a.toNat) 0) := idxV_sl (et := 48) (by kernel_rfl) h
@[go_sem ↓ high] theorem vixn_22 (h : m < len) : idxV Tryd.prog 22 (.sl o 1 off len) (.lit (.int i (m : Int))) F = F true (.ref o 1 (off + m) 0) := idxV_sln (et := 48) (by kernel_rfl) h
@[go_sem ↓ high] theorem vixrn_22 (h : m < l.length) : idxV Tryd.prog 22 (.row 1 l) (.lit (.int i (m : Int))) F = F true (.rref 1 l m 0) := idxV_rown (et := 48) (by kernel_rfl) (by decide) h
@[go_sem ↓ high] theorem vixm_22 (h : 0 ≤ a ∧ a < L.length) : idxV Tryd.prog 22 (.row 1 (L.map f)) (.lit (.int i a)) F = F true (.rref 1 (L.map f) a.toNat 0) := idxV_rowm (et := 48) (by kernel_rfl) (by decide) h
@[go_sem ↓] theorem vld_48 : ldV Tryd.prog 48 u σ F = rdV u σ (none) F := ldV_of (by kernel_rfl)
@[go_sem ↓] theorem vst_48 : stV Tryd.prog 48 u v σ ks = clK v fun c => lenK c 1 (wrV u σ c ks) := stV_of (by kernel_rfl)
@[go_sem ↓] theorem vln_22 : bltV Tryd.prog e .len [22] [.row m l] σ kv = lenV (.row m l) fun τ v => kv τ v σ := lenB_row (by kernel_rfl)
@[go_sem ↓] theorem vlns_22 : bltV Tryd.prog e .len [22] [.sl o m off len] σ kv = lenV (.sl o m off len) fun τ v => kv τ v σ := lenB_sl (by kernel_rfl)
@[go_sem ↓ high] theorem vshr_u64_u64_32 {P : Program} {t : TypeId} : binV P .shr t (.lit (.int .u64 a)) (.lit (.int .u64 32)) F = F true (.lit (.int .u64 (a / 4294967296))) := by rw [binV_shr_u64 (by decide)]; rfl
@[go_sem ↓ high] theorem vcvh_48_142 (h : 0 ≤ a ∧ a ≤ 4294967295) : cvsV Tryd.prog 48 142 (.lit (.int i a)) σ F = F true (.lit (.int .u32 a)) := (cvsV_num (by kernel_rfl)).trans (cvtV_u32 (by kernel_rfl) (by kernel_rfl) h)
@[go_sem ↓] theorem vsy_48_142 : sbyV Tryd.prog 48 142 u σ kv = cvsV Tryd.prog 48 142 u σ fun τ u => kv τ u σ := sbyV_num (by kernel_rfl)
@[go_sem ↓] theorem vcv_3_48 : cvsV Tryd.prog 3 48 (.lit (.int i a)) σ F = F true (.lit (.int .u64 (IntKind.wrap .u64 a))) := (cvsV_num (by kernel_rfl)).trans (cvtV_of (by kernel_rfl) (by kernel_rfl))
@[go_sem ↓ high] theorem vcvh_3_48 (h : 0 ≤ a ∧ a ≤ 18446744073709551615) : cvsV Tryd.prog 3 48 (.lit (.int i a)) σ F = F true (.lit (.int .u64 a)) := (cvsV_num (by kernel_rfl)).trans (cvtV_u64 (by kernel_rfl) (by kernel_rfl) h)
@[go_sem ↓] theorem vsy_3_48 : sbyV Tryd.prog 3 48 u σ kv = cvsV Tryd.prog 3 48 u σ fun τ u => kv τ u σ := sbyV_num (by kernel_rfl)
@[go_sem ↓ high] theorem vcvh_3_87 (h : 0 ≤ a ∧ a ≤ 18446744073709551615) : cvsV Tryd.prog 3 87 (.lit (.int i a)) σ F = F true (.lit (.int .u64 a)) := (cvsV_num (by kernel_rfl)).trans (cvtV_u64 (by kernel_rfl) (by kernel_rfl) h)
@[go_sem ↓] theorem vsy_3_87 : sbyV Tryd.prog 3 87 u σ kv = cvsV Tryd.prog 3 87 u σ fun τ u => kv τ u σ := sbyV_num (by kernel_rfl)
@[go_sem ↓ high] theorem vcvh_142_5 (h : 0 ≤ a ∧ a ≤ 255) : cvsV Tryd.prog 142 5 (.lit (.int i a)) σ F = F true (.lit (.int .u8 a)) := (cvsV_num (by kernel_rfl)).trans (cvtV_u8 (by kernel_rfl) (by kernel_rfl) h)
@[go_sem ↓] theorem vsy_142_5 : sbyV Tryd.prog 142 5 u σ kv = cvsV Tryd.prog 142 5 u σ fun τ u => kv τ u σ := sbyV_num (by kernel_rfl)
@[go_sem ↓ high] theorem vian_111 (h : m < 256) : idxV Tryd.prog 111 (.ref o 0 0 off) (.lit (.int i (m : Int))) F = F true (.ref o 1 m off) := idxV_arn (et := 4) (by kernel_rfl) h
@[go_sem ↓] theorem vld_4 : ldV Tryd.prog 4 u σ F = rdV u σ (none) F := ldV_of (by kernel_rfl)
@[go_sem ↓ high] theorem vmk_u64_4294967295 {P : Program} {t : TypeId} : binV P .and t (.lit (.int .u64 a)) (.lit (.int .u64 4294967295)) F = F true (.lit (.int .u64 (a % 4294967296))) := binV_mask 32 (by decide) (by decide) (by decide)
@[go_sem ↓ high] theorem vcvh_5_48 (h : 0 ≤ a ∧ a ≤ 18446744073709551615) : cvsV Tryd.prog 5 48 (.lit (.int i a)) σ F = F true (.lit (.int .u64 a)) := (cvsV_num (by kernel_rfl)).trans (cvtV_u64 (by kernel_rfl) (by kernel_rfl) h)
@[go_sem ↓] theorem vsy_5_48 : sbyV Tryd.prog 5 48 u σ kv = cvsV Tryd.prog 5 48 u σ fun τ u => kv τ u σ := sbyV_num (by kernel_rfl)
@[go_sem ↓ high] theorem vcvh_3_5 (h : 0 ≤ a ∧ a ≤ 255) : cvsV Tryd.prog 3 5 (.lit (.int i a)) σ F = F true (.lit (.int .u8 a)) := (cvsV_num (by kernel_rfl)).trans (cvtV_u8 (by kernel_rfl) (by kernel_rfl) h)
@[go_sem ↓] theorem vsy_3_5 : sbyV Tryd.prog 3 5 u σ kv = cvsV Tryd.prog 3 5 u σ fun τ u => kv τ u σ := sbyV_num (by kernel_rfl)
@[go_sem ↓] theorem vsb_9_103 {l : List UInt8} : sbyV Tryd.prog 9 103 (.lit (.string (bs l))) σ kv = kv true (.row 1 ((l.map fun x => (x.toNat : Int)).map (ie .u8))) σ := sbyV_bs (by kernel_rfl) (by kernel_rfl)
@[go_sem ↓] theorem vld_111 : ldV Tryd.prog 111 u σ F = rdV u σ (some 256) F := ldV_of (by kernel_rfl)
@[go_sem ↓] theorem vst_111 : stV Tryd.prog 111 u v σ ks = clK v fun c => lenK c 256 (wrV u σ c ks) := stV_of (by kernel_rfl)
@[go_sem ↓] theorem vst_4 : stV Tryd.prog 4 u v σ ks = clK v fun c => lenK c 1 (wrV u σ c ks) := stV_of (by kernel_rfl)
@[go_sem ↓] theorem val_111 : alcV Tryd.prog 111 σ kv = allOne ((List.replicate 256 (.bool false)) : List Value) (newO σ (.cells (((List.replicate 256 (.bool false)) : List Value).map V.lit)) fun o σ' => kv true (.ref o 0 0 0) σ') := alcV_of (by kernel_rfl)
@[go_sem ↓] theorem vsl_22 : slcV Tryd.prog 22 (.sl o 1 off len) lo hi none F = bdoK hi len len fun h => bdoK lo 0 h fun l => F true (.sl o 1 (off + l) (h - l)) := slcV_sl (et := 48) (by kernel_rfl)
@[go_sem ↓ high] theorem vslm_22 : slcV Tryd.prog 22 (.row 1 (L.map f)) lo hi none F = bdoK hi L.length L.length fun h => bdoK lo 0 h fun x => F true (.row 1 (((L.take h).drop x).map f)) := slcV_rowm (et := 48) (by kernel_rfl)
@[go_sem ↓] theorem vst_26 : stV Tryd.prog 26 u v σ ks = clK v fun c => lenK c 1 (wrV u σ c ks) := stV_of (by kernel_rfl)
@[go_sem ↓] theorem vms_22 : mslV Tryd.prog 22 u v σ kv = mslU 1 8 [.int .u64 0] u v σ kv := mslV_of (et := 48) (by kernel_rfl) (by kernel_rfl) (by kernel_rfl)
@[go_sem ↓] theorem vmu_22 (h : 0 ≤ a ∧ a * 8 ≤ 140737488355328) : mslU 1 8 [.int .u64 0] (.lit (.int .i64 a)) (.lit (.int .i64 a)) σ kv = newO σ (.row 1 (zrow [.int .u64 0] a.toNat)) fun o σ' => kv true (.sl o 1 0 a.toNat) σ' := by
  rw [mslU_of (C := [.int .u64 0]) (z := 1) ⟨h.1, rfl, h.2, by omega, by decide⟩ rfl]
  simp [allOne, oneC]
@[go_sem ↓ high] theorem vmun_22 (h : m * 8 ≤ 140737488355328) : mslU 1 8 [.int .u64 0] (.lit (.int .i64 (m : Int))) (.lit (.int .i64 (m : Int))) σ kv = newO σ (.row 1 (zrow [.int .u64 0] m)) fun o σ' => kv true (.sl o 1 0 m) σ' := vmu_22 (by omega)
@[go_sem ↓] theorem vfa_26_0 : fadV Tryd.prog 26 (.ref o z i' off) 0 F = F true (.ref o z i' off) := fadV_ref (x := 0) (ag := false) (m := 1) (by kernel_rfl)
@[go_sem ↓] theorem vld_22 : ldV Tryd.prog 22 u σ F = rdV u σ (none) F := ldV_of (by kernel_rfl)
@[go_sem ↓] theorem val_26 : alcV Tryd.prog 26 σ kv = allOne ([.slice none 0 0] : List Value) (newO σ (.cells (([.slice none 0 0] : List Value).map V.lit)) fun o σ' => kv true (.ref o 0 0 0) σ') := alcV_of (by kernel_rfl)
@[go_sem ↓] theorem vld_26 : ldV Tryd.prog 26 u σ F = rdV u σ (some 1) F := ldV_of (by kernel_rfl)
@[go_sem ↓] theorem vbd_60 {ps : List (Nat × V)} : bldV Tryd.prog 60 ps F = allOne ([.slice none 0 0, .bool false] : List Value) (fillK (plOf Tryd.prog 60) ps (([.slice none 0 0, .bool false] : List Value).map V.lit) fun l => F true (.agg l)) := bldV_of (by kernel_rfl) (by kernel_rfl) (by kernel_rfl)
@[go_sem ↓] theorem vpl_60_0 {r : List (Nat × V)} {G : List V → Prop} : fillK (plOf Tryd.prog 60) ((0, u) :: r) us G = clK u fun c => lenK c 1 (wrK us 0 c fun l' => fillK (plOf Tryd.prog 60) r l' G) := fillK_step (by kernel_rfl)
@[go_sem ↓] theorem vpl_60_1 {r : List (Nat × V)} {G : List V → Prop} : fillK (plOf Tryd.prog 60) ((1, u) :: r) us G = clK u fun c => lenK c 1 (wrK us 1 c fun l' => fillK (plOf Tryd.prog 60) r l' G) := fillK_step (by kernel_rfl)
@[go_sem ↓] theorem vst_60 : stV Tryd.prog 60 u v σ ks = clK v fun c => lenK c 2 (wrV u σ c ks) := stV_of (by kernel_rfl)
@[go_sem ↓] theorem val_60 : alcV Tryd.prog 60 σ kv = allOne ([.slice none 0 0, .bool false] : List Value) (newO σ (.cells (([.slice none 0 0, .bool false] : List Value).map V.lit)) fun o σ' => kv true (.ref o 0 0 0) σ') := alcV_of (by kernel_rfl)
@[go_sem ↓ high] theorem vcvh_87_3 (h : -9223372036854775808 ≤ a ∧ a ≤ 9223372036854775807) : cvsV Tryd.prog 87 3 (.lit (.int i a)) σ F = F true (.lit (.int .i64 a)) := (cvsV_num (by kernel_rfl)).trans (cvtV_i64 (by kernel_rfl) (by kernel_rfl) h)
@[go_sem ↓] theorem vsy_87_3 : sbyV Tryd.prog 87 3 u σ kv = cvsV Tryd.prog 87 3 u σ fun τ u => kv τ u σ := sbyV_num (by kernel_rfl)
@[go_sem ↓] theorem vine_96 : binW Tryd.prog .neq 96 (.const .nilIface) (.lit .nilIface) (.lit .nilIface) F = F true (.lit (.bool false)) := binW_ne0 (by kernel_rfl)
@[go_sem ↓ high] theorem vcvh_48_5 (h : 0 ≤ a ∧ a ≤ 255) : cvsV Tryd.prog 48 5 (.lit (.int i a)) σ F = F true (.lit (.int .u8 a)) := (cvsV_num (by kernel_rfl)).trans (cvtV_u8 (by kernel_rfl) (by kernel_rfl) h)
@[go_sem ↓] theorem vsy_48_5 : sbyV Tryd.prog 48 5 u σ kv = cvsV Tryd.prog 48 5 u σ fun τ u => kv τ u σ := sbyV_num (by kernel_rfl)
@[go_sem ↓ high] theorem vshr_u64_u64_8 {P : Program} {t : TypeId} : binV P .shr t (.lit (.int .u64 a)) (.lit (.int .u64 8)) F = F true (.lit (.int .u64 (a / 256))) := by rw [binV_shr_u64 (by decide)]; rfl
@[go_sem ↓ high] theorem vshr_u64_u64_16 {P : Program} {t : TypeId} : binV P .shr t (.lit (.int .u64 a)) (.lit (.int .u64 16)) F = F true (.lit (.int .u64 (a / 65536))) := by rw [binV_shr_u64 (by decide)]; rfl
@[go_sem ↓] theorem vbs_22_0 {ps : List (Nat × V)} : bslV Tryd.prog 22 0 ps σ kv = prtK 1 0 ps fun l => lenK l 0 (newO σ (.row 1 l) fun o σ' => kv true (.sl o 1 0 0) σ') := bslV_of (et := 48) (by kernel_rfl) ⟨by kernel_rfl, by decide, by decide⟩
@[go_sem ↓] theorem vap_22_22 : apdV Tryd.prog e 22 22 u v σ kv = rowK v σ 1 fun m => apdU e 1 8 u m σ kv := apdV_of (et := 48) (ex := 48) (C := [.int .u64 0]) (by kernel_rfl) (by kernel_rfl) (by kernel_rfl) (by kernel_rfl) (by decide) rfl
@[go_sem ↓] theorem vseq_22 : binV Tryd.prog .eql 22 (.row 1 l) (.lit (.slice none 0 0)) F = nilB .eql l.isEmpty F := binV_seq ⟨by kernel_rfl, by decide⟩
@[go_sem ↓] theorem vbd_26 {ps : List (Nat × V)} : bldV Tryd.prog 26 ps F = allOne ([.slice none 0 0] : List Value) (fillK (plOf Tryd.prog 26) ps (([.slice none 0 0] : List Value).map V.lit) fun l => F true (.agg l)) := bldV_of (by kernel_rfl) (by kernel_rfl) (by kernel_rfl)
@[go_sem ↓] theorem vpl_26_0 {r : List (Nat × V)} {G : List V → Prop} : fillK (plOf Tryd.prog 26) ((0, u) :: r) us G = clK u fun c => lenK c 1 (wrK us 0 c fun l' => fillK (plOf Tryd.prog 26) r l' G) := fillK_step (by kernel_rfl)
@[go_sem ↓] theorem vbs_22_1 {ps : List (Nat × V)} : bslV Tryd.prog 22 1 ps σ kv = prtK 1 0 ps fun l => lenK l 1 (newO σ (.row 1 l) fun o σ' => kv true (.sl o 1 0 1) σ') := bslV_of (et := 48) (by kernel_rfl) ⟨by kernel_rfl, by decide, by decide⟩
@[go_sem ↓] theorem vld_60 : ldV Tryd.prog 60 u σ F = rdV u σ (some 2) F := ldV_of (by kernel_rfl)
@[go_sem ↓] theorem vfa_60_0 : fadV Tryd.prog 60 (.ref o z i' off) 0 F = F true (.ref o z i' off) := fadV_ref (x := 0) (ag := true) (m := 1) (by kernel_rfl)
@[go_sem ↓] theorem vfa_60_1 : fadV Tryd.prog 60 (.ref o z i' off) 1 F = F true (.ref o z i' (off + 1)) := fadV_ref (x := 1) (ag := false) (m := 1) (by kernel_rfl)
@[go_sem ↓] theorem vbne_4 {x y : Bool} : binV Tryd.prog .neq 4 (.lit (.bool x)) (.lit (.bool y)) F = F true (.lit (.bool (!(x == y)))) := binV_bne (by kernel_rfl)
@[go_sem ↓] theorem vfd_26_0 : fldV Tryd.prog 26 (.agg us) 0 F = atK us 0 fun v => F true v := fldV_at (m := 1) (by kernel_rfl)
end
end Go.Proofs.YtfkpfhjfjnnbbaaDoor
