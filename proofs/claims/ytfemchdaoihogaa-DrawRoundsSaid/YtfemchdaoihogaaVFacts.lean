import Derived.Test.YtfemchdaoihogaaVl
import Derived.Test.YtfemchdaoihogaaProg
import Derived.KernelRfl
/-! Facts on the program's types and plans of its regions, printed by a program of the prover's own. -/
namespace Go.Proofs.Ytfemchdaoihogaa
open Go.Eng Go.Vx
set_option linter.unusedVariables false
set_option linter.unusedSimpArgs false
set_option maxRecDepth 100000
section
variable {u v : V} {σ : St} {F : FV} {kv : KV} {ks : KS} {e : Bool} {i : IntKind} {a : Int} {o z i' off len m : Nat} {l : List (List PV)} {us : List V} {β : Type} {L : List β} {f : β → List PV} {lo hi : Option V}
def pl2 : Plans := fun id => match id with
  | _ => []
def pl3 : Plans := fun id => match id with
  | 16 => [(0, (5, 0)), (3, (5, 0)), (1, (0, 0)), (4, (0, 0)), (10, (4, 0)), (2, (1, 0)), (5, (2, 0)), (6, (2, 0)), (7, (5, 0)), (8, (5, 0)), (9, (5, 0)), (10, (3, 0)), (11, (2, 0)), (12, (5, 0))]
  | _ => []
@[go_sem ↓] theorem pl3_16 : pl3 16 = [(0, (5, 0)), (3, (5, 0)), (1, (0, 0)), (4, (0, 0)), (10, (4, 0)), (2, (1, 0)), (5, (2, 0)), (6, (2, 0)), (7, (5, 0)), (8, (5, 0)), (9, (5, 0)), (10, (3, 0)), (11, (2, 0)), (12, (5, 0))] := (rfl)
def pl4 : Plans := fun id => match id with
  | 17 => [(1, (0, 0)), (0, (1, 0)), (2, (2, 0)), (3, (5, 0)), (4, (5, 0)), (5, (5, 0)), (6, (5, 0)), (7, (5, 0))]
  | 19 => [(0, (5, 0)), (1, (5, 0)), (2, (5, 0)), (3, (0, 0)), (4, (0, 0)), (5, (5, 0)), (6, (5, 0)), (7, (0, 0)), (8, (0, 0)), (9, (0, 0)), (10, (0, 0)), (11, (5, 0)), (12, (5, 0)), (13, (0, 0)), (14, (0, 0)), (15, (0, 0)), (16, (0, 0)), (17, (0, 0)), (18, (0, 0)), (19, (0, 0)), (20, (0, 0)), (21, (0, 0)), (22, (0, 0)), (23, (0, 0)), (24, (0, 0)), (25, (0, 0)), (26, (5, 0)), (27, (5, 0)), (28, (0, 0)), (29, (0, 0)), (30, (5, 0)), (31, (5, 0)), (32, (0, 0)), (33, (0, 0)), (34, (5, 0)), (35, (5, 0))]
  | _ => []
@[go_sem ↓] theorem pl4_17 : pl4 17 = [(1, (0, 0)), (0, (1, 0)), (2, (2, 0)), (3, (5, 0)), (4, (5, 0)), (5, (5, 0)), (6, (5, 0)), (7, (5, 0))] := (rfl)
@[go_sem ↓] theorem pl4_19 : pl4 19 = [(0, (5, 0)), (1, (5, 0)), (2, (5, 0)), (3, (0, 0)), (4, (0, 0)), (5, (5, 0)), (6, (5, 0)), (7, (0, 0)), (8, (0, 0)), (9, (0, 0)), (10, (0, 0)), (11, (5, 0)), (12, (5, 0)), (13, (0, 0)), (14, (0, 0)), (15, (0, 0)), (16, (0, 0)), (17, (0, 0)), (18, (0, 0)), (19, (0, 0)), (20, (0, 0)), (21, (0, 0)), (22, (0, 0)), (23, (0, 0)), (24, (0, 0)), (25, (0, 0)), (26, (5, 0)), (27, (5, 0)), (28, (0, 0)), (29, (0, 0)), (30, (5, 0)), (31, (5, 0)), (32, (0, 0)), (33, (0, 0)), (34, (5, 0)), (35, (5, 0))] := (rfl)
def pl5 : Plans := fun id => match id with
  | 28 => [(0, (5, 0)), (1, (5, 0)), (2, (0, 0)), (3, (5, 0)), (4, (5, 0)), (5, (0, 0)), (6, (0, 0)), (7, (0, 0)), (8, (0, 0)), (9, (5, 0)), (10, (5, 0)), (11, (0, 0)), (13, (0, 0)), (14, (0, 0)), (15, (0, 0)), (16, (0, 0)), (12, (1, 0)), (17, (0, 0)), (18, (5, 0)), (19, (5, 0)), (20, (0, 0)), (22, (0, 0)), (23, (0, 0)), (21, (1, 0)), (24, (0, 0)), (25, (5, 0))]
  | _ => []
@[go_sem ↓] theorem pl5_28 : pl5 28 = [(0, (5, 0)), (1, (5, 0)), (2, (0, 0)), (3, (5, 0)), (4, (5, 0)), (5, (0, 0)), (6, (0, 0)), (7, (0, 0)), (8, (0, 0)), (9, (5, 0)), (10, (5, 0)), (11, (0, 0)), (13, (0, 0)), (14, (0, 0)), (15, (0, 0)), (16, (0, 0)), (12, (1, 0)), (17, (0, 0)), (18, (5, 0)), (19, (5, 0)), (20, (0, 0)), (22, (0, 0)), (23, (0, 0)), (21, (1, 0)), (24, (0, 0)), (25, (5, 0))] := (rfl)
def pl6 : Plans := fun id => match id with
  | _ => []
def pl7 : Plans := fun id => match id with
  | 15 => [(1, (5, 0)), (6, (5, 0)), (0, (0, 0)), (4, (0, 0)), (5, (0, 0)), (7, (5, 0)), (11, (4, 0)), (2, (1, 0)), (3, (1, 0)), (8, (2, 0)), (9, (2, 0)), (10, (2, 0)), (11, (3, 0)), (12, (2, 0))]
  | 16 => [(3, (5, 0)), (0, (0, 0)), (4, (0, 0)), (5, (5, 0)), (10, (4, 0)), (1, (1, 0)), (2, (1, 0)), (6, (2, 0)), (7, (5, 0)), (8, (5, 0)), (9, (5, 0)), (10, (3, 0)), (11, (2, 0)), (12, (5, 0))]
  | 17 => [(0, (0, 0)), (3, (4, 0)), (1, (1, 0)), (2, (2, 0)), (3, (3, 0)), (4, (2, 0))]
  | 18 => [(0, (0, 0)), (1, (0, 0)), (2, (2, 0)), (3, (5, 0)), (4, (5, 0)), (5, (0, 0)), (6, (0, 0)), (7, (0, 0)), (8, (0, 0)), (9, (1, 0)), (10, (1, 0)), (11, (1, 0)), (12, (2, 0)), (13, (0, 0)), (14, (5, 0)), (15, (5, 0))]
  | _ => []
@[go_sem ↓] theorem pl7_15 : pl7 15 = [(1, (5, 0)), (6, (5, 0)), (0, (0, 0)), (4, (0, 0)), (5, (0, 0)), (7, (5, 0)), (11, (4, 0)), (2, (1, 0)), (3, (1, 0)), (8, (2, 0)), (9, (2, 0)), (10, (2, 0)), (11, (3, 0)), (12, (2, 0))] := (rfl)
@[go_sem ↓] theorem pl7_16 : pl7 16 = [(3, (5, 0)), (0, (0, 0)), (4, (0, 0)), (5, (5, 0)), (10, (4, 0)), (1, (1, 0)), (2, (1, 0)), (6, (2, 0)), (7, (5, 0)), (8, (5, 0)), (9, (5, 0)), (10, (3, 0)), (11, (2, 0)), (12, (5, 0))] := (rfl)
@[go_sem ↓] theorem pl7_17 : pl7 17 = [(0, (0, 0)), (3, (4, 0)), (1, (1, 0)), (2, (2, 0)), (3, (3, 0)), (4, (2, 0))] := (rfl)
@[go_sem ↓] theorem pl7_18 : pl7 18 = [(0, (0, 0)), (1, (0, 0)), (2, (2, 0)), (3, (5, 0)), (4, (5, 0)), (5, (0, 0)), (6, (0, 0)), (7, (0, 0)), (8, (0, 0)), (9, (1, 0)), (10, (1, 0)), (11, (1, 0)), (12, (2, 0)), (13, (0, 0)), (14, (5, 0)), (15, (5, 0))] := (rfl)
def pl8 : Plans := fun id => match id with
  | _ => []
def pl9 : Plans := fun id => match id with
  | _ => []
def pl10 : Plans := fun id => match id with
  | _ => []
def pl11 : Plans := fun id => match id with
  | _ => []
def pl12 : Plans := fun id => match id with
  | _ => []
def pl13 : Plans := fun id => match id with
  | _ => []
def pl14 : Plans := fun id => match id with
  | _ => []
def pl15 : Plans := fun id => match id with
  | _ => []
def pl16 : Plans := fun id => match id with
  | _ => []
def pl17 : Plans := fun id => match id with
  | _ => []
def pl18 : Plans := fun id => match id with
  | _ => []
def pl19 : Plans := fun id => match id with
  | 3 => [(0, (0, 0)), (2, (0, 0)), (5, (0, 0)), (8, (0, 0)), (1, (1, 0)), (3, (1, 0)), (4, (5, 0)), (6, (1, 0)), (7, (1, 0)), (9, (2, 0)), (10, (2, 0)), (11, (2, 0)), (12, (5, 0))]
  | _ => []
@[go_sem ↓] theorem pl19_3 : pl19 3 = [(0, (0, 0)), (2, (0, 0)), (5, (0, 0)), (8, (0, 0)), (1, (1, 0)), (3, (1, 0)), (4, (5, 0)), (6, (1, 0)), (7, (1, 0)), (9, (2, 0)), (10, (2, 0)), (11, (2, 0)), (12, (5, 0))] := (rfl)
def pl20 : Plans := fun id => match id with
  | _ => []
def pl21 : Plans := fun id => match id with
  | 3 => [(0, (5, 0)), (1, (0, 0)), (4, (0, 0)), (2, (1, 0)), (3, (1, 0)), (5, (2, 0)), (6, (2, 0)), (7, (5, 0)), (8, (5, 0)), (9, (5, 0)), (10, (5, 0))]
  | _ => []
@[go_sem ↓] theorem pl21_3 : pl21 3 = [(0, (5, 0)), (1, (0, 0)), (4, (0, 0)), (2, (1, 0)), (3, (1, 0)), (5, (2, 0)), (6, (2, 0)), (7, (5, 0)), (8, (5, 0)), (9, (5, 0)), (10, (5, 0))] := (rfl)
def pl22 : Plans := fun id => match id with
  | 1 => [(0, (5, 0)), (1, (5, 0)), (2, (0, 0)), (3, (5, 0)), (4, (5, 0)), (5, (0, 0)), (6, (0, 0)), (7, (0, 0)), (8, (0, 0)), (9, (5, 0)), (10, (5, 0)), (11, (0, 0)), (13, (0, 0)), (14, (0, 0)), (15, (0, 0)), (16, (0, 0)), (12, (1, 0)), (17, (0, 0)), (18, (5, 0)), (19, (5, 0)), (20, (0, 0)), (22, (0, 0)), (23, (0, 0)), (21, (1, 0)), (24, (0, 0)), (25, (5, 0)), (26, (5, 0))]
  | _ => []
@[go_sem ↓] theorem pl22_1 : pl22 1 = [(0, (5, 0)), (1, (5, 0)), (2, (0, 0)), (3, (5, 0)), (4, (5, 0)), (5, (0, 0)), (6, (0, 0)), (7, (0, 0)), (8, (0, 0)), (9, (5, 0)), (10, (5, 0)), (11, (0, 0)), (13, (0, 0)), (14, (0, 0)), (15, (0, 0)), (16, (0, 0)), (12, (1, 0)), (17, (0, 0)), (18, (5, 0)), (19, (5, 0)), (20, (0, 0)), (22, (0, 0)), (23, (0, 0)), (21, (1, 0)), (24, (0, 0)), (25, (5, 0)), (26, (5, 0))] := (rfl)
def pl23 : Plans := fun id => match id with
  | _ => []
def pl24 : Plans := fun id => match id with
  | _ => []
def pl25 : Plans := fun id => match id with
  | 4 => [(0, (0, 0)), (1, (8, 2)), (3, (2, 0))]
  | _ => []
@[go_sem ↓] theorem pl25_4 : pl25 4 = [(0, (0, 0)), (1, (8, 2)), (3, (2, 0))] := (rfl)
def pl26 : Plans := fun id => match id with
  | _ => []
def pl27 : Plans := fun id => match id with
  | 1 => [(0, (0, 0)), (1, (1, 0)), (2, (2, 0)), (3, (5, 0)), (4, (5, 0)), (5, (0, 0)), (6, (1, 0)), (7, (2, 0)), (8, (0, 0)), (9, (5, 0))]
  | 4 => [(0, (0, 0)), (1, (0, 0)), (4, (4, 0)), (2, (1, 0)), (3, (2, 0)), (4, (3, 0)), (5, (2, 0))]
  | _ => []
@[go_sem ↓] theorem pl27_1 : pl27 1 = [(0, (0, 0)), (1, (1, 0)), (2, (2, 0)), (3, (5, 0)), (4, (5, 0)), (5, (0, 0)), (6, (1, 0)), (7, (2, 0)), (8, (0, 0)), (9, (5, 0))] := (rfl)
@[go_sem ↓] theorem pl27_4 : pl27 4 = [(0, (0, 0)), (1, (0, 0)), (4, (4, 0)), (2, (1, 0)), (3, (2, 0)), (4, (3, 0)), (5, (2, 0))] := (rfl)
def pl28 : Plans := fun id => match id with
  | _ => []
def pl29 : Plans := fun id => match id with
  | _ => []
def pl30 : Plans := fun id => match id with
  | _ => []
def pl31 : Plans := fun id => match id with
  | _ => []
def pl32 : Plans := fun id => match id with
  | _ => []
def pl33 : Plans := fun id => match id with
  | _ => []
def pl34 : Plans := fun id => match id with
  | _ => []
def pl35 : Plans := fun id => match id with
  | 3 => [(0, (5, 0)), (1, (5, 0)), (2, (5, 0)), (5, (5, 0)), (6, (5, 0)), (7, (5, 0)), (8, (5, 0)), (3, (0, 0)), (4, (0, 0)), (9, (0, 0)), (10, (5, 0)), (11, (5, 0))]
  | _ => []
@[go_sem ↓] theorem pl35_3 : pl35 3 = [(0, (5, 0)), (1, (5, 0)), (2, (5, 0)), (5, (5, 0)), (6, (5, 0)), (7, (5, 0)), (8, (5, 0)), (3, (0, 0)), (4, (0, 0)), (9, (0, 0)), (10, (5, 0)), (11, (5, 0))] := (rfl)
def pl36 : Plans := fun id => match id with
  | 10 => [(1, (5, 0)), (2, (5, 0)), (4, (5, 0)), (0, (0, 0)), (3, (0, 0)), (5, (0, 0)), (6, (5, 0)), (7, (1, 0)), (8, (1, 0)), (9, (2, 0))]
  | 11 => [(1, (5, 0)), (2, (5, 0)), (4, (5, 0)), (0, (0, 0)), (3, (0, 0)), (5, (0, 0)), (6, (5, 0)), (7, (1, 0)), (8, (1, 0)), (9, (2, 0))]
  | 13 => [(1, (5, 0)), (3, (5, 0)), (0, (0, 0)), (4, (0, 0)), (5, (5, 0)), (6, (5, 0)), (2, (1, 0)), (7, (1, 0)), (8, (1, 0)), (9, (2, 0)), (10, (2, 0))]
  | 8 => [(1, (5, 0)), (0, (0, 0)), (2, (0, 0)), (3, (5, 0)), (4, (5, 0)), (5, (5, 0)), (6, (2, 0))]
  | _ => []
@[go_sem ↓] theorem pl36_10 : pl36 10 = [(1, (5, 0)), (2, (5, 0)), (4, (5, 0)), (0, (0, 0)), (3, (0, 0)), (5, (0, 0)), (6, (5, 0)), (7, (1, 0)), (8, (1, 0)), (9, (2, 0))] := (rfl)
@[go_sem ↓] theorem pl36_11 : pl36 11 = [(1, (5, 0)), (2, (5, 0)), (4, (5, 0)), (0, (0, 0)), (3, (0, 0)), (5, (0, 0)), (6, (5, 0)), (7, (1, 0)), (8, (1, 0)), (9, (2, 0))] := (rfl)
@[go_sem ↓] theorem pl36_13 : pl36 13 = [(1, (5, 0)), (3, (5, 0)), (0, (0, 0)), (4, (0, 0)), (5, (5, 0)), (6, (5, 0)), (2, (1, 0)), (7, (1, 0)), (8, (1, 0)), (9, (2, 0)), (10, (2, 0))] := (rfl)
@[go_sem ↓] theorem pl36_8 : pl36 8 = [(1, (5, 0)), (0, (0, 0)), (2, (0, 0)), (3, (5, 0)), (4, (5, 0)), (5, (5, 0)), (6, (2, 0))] := (rfl)
def pl37 : Plans := fun id => match id with
  | 4 => [(1, (5, 0)), (0, (0, 0)), (2, (0, 0)), (3, (1, 0)), (4, (1, 0)), (5, (1, 0)), (6, (5, 0)), (7, (5, 0))]
  | _ => []
@[go_sem ↓] theorem pl37_4 : pl37 4 = [(1, (5, 0)), (0, (0, 0)), (2, (0, 0)), (3, (1, 0)), (4, (1, 0)), (5, (1, 0)), (6, (5, 0)), (7, (5, 0))] := (rfl)
def pl38 : Plans := fun id => match id with
  | _ => []
def pl39 : Plans := fun id => match id with
  | 1 => [(0, (5, 0)), (5, (5, 0)), (1, (0, 0)), (2, (0, 0)), (6, (0, 0)), (7, (0, 0)), (11, (0, 0)), (13, (0, 0)), (3, (1, 0)), (4, (1, 0)), (8, (1, 0)), (9, (1, 0)), (10, (1, 0)), (12, (1, 0)), (14, (2, 0)), (15, (2, 0)), (16, (2, 0)), (17, (2, 0))]
  | _ => []
@[go_sem ↓] theorem pl39_1 : pl39 1 = [(0, (5, 0)), (5, (5, 0)), (1, (0, 0)), (2, (0, 0)), (6, (0, 0)), (7, (0, 0)), (11, (0, 0)), (13, (0, 0)), (3, (1, 0)), (4, (1, 0)), (8, (1, 0)), (9, (1, 0)), (10, (1, 0)), (12, (1, 0)), (14, (2, 0)), (15, (2, 0)), (16, (2, 0)), (17, (2, 0))] := (rfl)
def pl40 : Plans := fun id => match id with
  | 1 => [(0, (5, 0)), (2, (5, 0)), (1, (0, 0)), (3, (0, 0)), (5, (0, 0)), (7, (0, 0)), (4, (1, 0)), (6, (1, 0)), (8, (2, 0)), (9, (2, 0)), (10, (2, 0)), (11, (2, 0))]
  | _ => []
@[go_sem ↓] theorem pl40_1 : pl40 1 = [(0, (5, 0)), (2, (5, 0)), (1, (0, 0)), (3, (0, 0)), (5, (0, 0)), (7, (0, 0)), (4, (1, 0)), (6, (1, 0)), (8, (2, 0)), (9, (2, 0)), (10, (2, 0)), (11, (2, 0))] := (rfl)
def pl41 : Plans := fun id => match id with
  | _ => []
def pl42 : Plans := fun id => match id with
  | _ => []
def pl43 : Plans := fun id => match id with
  | 6 => [(0, (5, 0)), (1, (5, 0)), (4, (5, 0)), (5, (0, 0)), (2, (4, 0)), (10, (4, 0)), (2, (3, 0)), (3, (1, 0)), (6, (2, 0)), (7, (5, 0)), (8, (5, 0)), (9, (5, 0)), (10, (3, 0)), (11, (2, 0)), (12, (5, 0))]
  | _ => []
@[go_sem ↓] theorem pl43_6 : pl43 6 = [(0, (5, 0)), (1, (5, 0)), (4, (5, 0)), (5, (0, 0)), (2, (4, 0)), (10, (4, 0)), (2, (3, 0)), (3, (1, 0)), (6, (2, 0)), (7, (5, 0)), (8, (5, 0)), (9, (5, 0)), (10, (3, 0)), (11, (2, 0)), (12, (5, 0))] := (rfl)
def pl44 : Plans := fun id => match id with
  | 7 => [(0, (5, 0)), (1, (0, 0)), (8, (0, 0)), (10, (0, 0)), (2, (1, 0)), (3, (5, 0)), (4, (0, 0)), (5, (0, 0)), (6, (0, 0)), (7, (5, 0)), (9, (1, 0)), (11, (2, 0)), (12, (2, 0)), (13, (5, 0))]
  | _ => []
@[go_sem ↓] theorem pl44_7 : pl44 7 = [(0, (5, 0)), (1, (0, 0)), (8, (0, 0)), (10, (0, 0)), (2, (1, 0)), (3, (5, 0)), (4, (0, 0)), (5, (0, 0)), (6, (0, 0)), (7, (5, 0)), (9, (1, 0)), (11, (2, 0)), (12, (2, 0)), (13, (5, 0))] := (rfl)
def pl45 : Plans := fun id => match id with
  | 1 => [(0, (5, 0)), (5, (5, 0)), (1, (0, 0)), (2, (0, 0)), (6, (0, 0)), (7, (0, 0)), (3, (1, 0)), (4, (1, 0)), (8, (1, 0)), (9, (2, 0)), (10, (2, 0)), (11, (5, 0))]
  | _ => []
@[go_sem ↓] theorem pl45_1 : pl45 1 = [(0, (5, 0)), (5, (5, 0)), (1, (0, 0)), (2, (0, 0)), (6, (0, 0)), (7, (0, 0)), (3, (1, 0)), (4, (1, 0)), (8, (1, 0)), (9, (2, 0)), (10, (2, 0)), (11, (5, 0))] := (rfl)
def pl46 : Plans := fun id => match id with
  | _ => []
def pl47 : Plans := fun id => match id with
  | _ => []
def pl48 : Plans := fun id => match id with
  | 1 => [(0, (5, 0)), (1, (5, 0)), (2, (5, 0)), (3, (5, 0)), (4, (0, 0)), (5, (5, 0)), (6, (0, 0)), (7, (0, 0)), (8, (0, 0)), (9, (0, 0)), (10, (0, 0)), (11, (0, 0)), (12, (0, 0)), (13, (0, 0)), (14, (0, 0)), (15, (0, 0)), (16, (0, 0)), (17, (5, 0))]
  | 5 => [(0, (5, 0)), (1, (5, 0)), (2, (5, 0)), (4, (5, 0)), (5, (5, 0)), (6, (5, 0)), (7, (5, 0)), (3, (0, 0)), (8, (0, 0)), (9, (5, 0)), (10, (5, 0)), (11, (0, 0)), (12, (5, 0)), (13, (5, 0))]
  | _ => []
@[go_sem ↓] theorem pl48_1 : pl48 1 = [(0, (5, 0)), (1, (5, 0)), (2, (5, 0)), (3, (5, 0)), (4, (0, 0)), (5, (5, 0)), (6, (0, 0)), (7, (0, 0)), (8, (0, 0)), (9, (0, 0)), (10, (0, 0)), (11, (0, 0)), (12, (0, 0)), (13, (0, 0)), (14, (0, 0)), (15, (0, 0)), (16, (0, 0)), (17, (5, 0))] := (rfl)
@[go_sem ↓] theorem pl48_5 : pl48 5 = [(0, (5, 0)), (1, (5, 0)), (2, (5, 0)), (4, (5, 0)), (5, (5, 0)), (6, (5, 0)), (7, (5, 0)), (3, (0, 0)), (8, (0, 0)), (9, (5, 0)), (10, (5, 0)), (11, (0, 0)), (12, (5, 0)), (13, (5, 0))] := (rfl)
def pl49 : Plans := fun id => match id with
  | _ => []
def pl50 : Plans := fun id => match id with
  | _ => []
def pl51 : Plans := fun id => match id with
  | 7 => [(0, (5, 0)), (2, (5, 0)), (5, (5, 0)), (7, (5, 0)), (1, (0, 0)), (3, (5, 0)), (4, (0, 0)), (10, (5, 0)), (6, (0, 0)), (8, (5, 0)), (9, (0, 0)), (11, (5, 0))]
  | _ => []
@[go_sem ↓] theorem pl51_7 : pl51 7 = [(0, (5, 0)), (2, (5, 0)), (5, (5, 0)), (7, (5, 0)), (1, (0, 0)), (3, (5, 0)), (4, (0, 0)), (10, (5, 0)), (6, (0, 0)), (8, (5, 0)), (9, (0, 0)), (11, (5, 0))] := (rfl)
def pl52 : Plans := fun id => match id with
  | _ => []
def pl53 : Plans := fun id => match id with
  | _ => []
def pl54 : Plans := fun id => match id with
  | _ => []
def pl55 : Plans := fun id => match id with
  | _ => []
def pl56 : Plans := fun id => match id with
  | _ => []
def pl57 : Plans := fun id => match id with
  | 1 => [(0, (0, 0)), (2, (0, 0)), (4, (4, 0)), (1, (1, 0)), (3, (2, 0)), (4, (3, 0)), (5, (2, 0))]
  | 2 => [(0, (0, 0)), (2, (0, 0)), (8, (4, 0)), (9, (4, 0)), (1, (1, 0)), (3, (2, 0)), (4, (5, 0)), (5, (5, 0)), (6, (5, 0)), (7, (5, 0)), (8, (3, 0)), (9, (3, 0)), (10, (2, 0)), (11, (2, 0)), (12, (5, 0))]
  | 4 => [(0, (0, 0)), (1, (4, 0)), (7, (4, 0)), (1, (3, 0)), (2, (1, 0)), (3, (2, 0)), (4, (5, 0)), (5, (5, 0)), (6, (5, 0)), (7, (3, 0)), (8, (2, 0)), (9, (5, 0))]
  | 5 => [(0, (0, 0)), (2, (0, 0)), (4, (0, 0)), (1, (1, 0)), (3, (1, 0)), (5, (1, 0)), (6, (2, 0))]
  | _ => []
@[go_sem ↓] theorem pl57_1 : pl57 1 = [(0, (0, 0)), (2, (0, 0)), (4, (4, 0)), (1, (1, 0)), (3, (2, 0)), (4, (3, 0)), (5, (2, 0))] := (rfl)
@[go_sem ↓] theorem pl57_2 : pl57 2 = [(0, (0, 0)), (2, (0, 0)), (8, (4, 0)), (9, (4, 0)), (1, (1, 0)), (3, (2, 0)), (4, (5, 0)), (5, (5, 0)), (6, (5, 0)), (7, (5, 0)), (8, (3, 0)), (9, (3, 0)), (10, (2, 0)), (11, (2, 0)), (12, (5, 0))] := (rfl)
@[go_sem ↓] theorem pl57_4 : pl57 4 = [(0, (0, 0)), (1, (4, 0)), (7, (4, 0)), (1, (3, 0)), (2, (1, 0)), (3, (2, 0)), (4, (5, 0)), (5, (5, 0)), (6, (5, 0)), (7, (3, 0)), (8, (2, 0)), (9, (5, 0))] := (rfl)
@[go_sem ↓] theorem pl57_5 : pl57 5 = [(0, (0, 0)), (2, (0, 0)), (4, (0, 0)), (1, (1, 0)), (3, (1, 0)), (5, (1, 0)), (6, (2, 0))] := (rfl)
def pl58 : Plans := fun id => match id with
  | 1 => [(1, (5, 0)), (2, (5, 0)), (0, (0, 0)), (3, (0, 0)), (4, (1, 0)), (5, (0, 0)), (6, (5, 0)), (7, (1, 0)), (8, (2, 0))]
  | _ => []
@[go_sem ↓] theorem pl58_1 : pl58 1 = [(1, (5, 0)), (2, (5, 0)), (0, (0, 0)), (3, (0, 0)), (4, (1, 0)), (5, (0, 0)), (6, (5, 0)), (7, (1, 0)), (8, (2, 0))] := (rfl)
def pl59 : Plans := fun id => match id with
  | _ => []
def pl60 : Plans := fun id => match id with
  | _ => []
def pl61 : Plans := fun id => match id with
  | 1 => [(0, (5, 0)), (1, (0, 0)), (2, (1, 0)), (3, (1, 0)), (4, (2, 0)), (5, (2, 0))]
  | _ => []
@[go_sem ↓] theorem pl61_1 : pl61 1 = [(0, (5, 0)), (1, (0, 0)), (2, (1, 0)), (3, (1, 0)), (4, (2, 0)), (5, (2, 0))] := (rfl)
def pl62 : Plans := fun id => match id with
  | 4 => [(1, (5, 0)), (2, (5, 0)), (4, (5, 0)), (0, (0, 0)), (3, (0, 0)), (5, (0, 0)), (6, (5, 0)), (7, (1, 0)), (8, (1, 0)), (9, (2, 0))]
  | 5 => [(1, (5, 0)), (2, (5, 0)), (4, (5, 0)), (0, (0, 0)), (3, (0, 0)), (5, (0, 0)), (6, (5, 0)), (7, (1, 0)), (8, (1, 0)), (9, (2, 0))]
  | _ => []
@[go_sem ↓] theorem pl62_4 : pl62 4 = [(1, (5, 0)), (2, (5, 0)), (4, (5, 0)), (0, (0, 0)), (3, (0, 0)), (5, (0, 0)), (6, (5, 0)), (7, (1, 0)), (8, (1, 0)), (9, (2, 0))] := (rfl)
@[go_sem ↓] theorem pl62_5 : pl62 5 = [(1, (5, 0)), (2, (5, 0)), (4, (5, 0)), (0, (0, 0)), (3, (0, 0)), (5, (0, 0)), (6, (5, 0)), (7, (1, 0)), (8, (1, 0)), (9, (2, 0))] := (rfl)
def pl63 : Plans := fun id => match id with
  | 1 => [(0, (5, 0)), (1, (0, 0)), (2, (0, 0)), (9, (4, 0)), (10, (4, 0)), (3, (1, 0)), (4, (2, 0)), (5, (5, 0)), (6, (5, 0)), (7, (5, 0)), (8, (5, 0)), (9, (3, 0)), (10, (3, 0)), (11, (2, 0)), (12, (2, 0)), (13, (5, 0))]
  | _ => []
@[go_sem ↓] theorem pl63_1 : pl63 1 = [(0, (5, 0)), (1, (0, 0)), (2, (0, 0)), (9, (4, 0)), (10, (4, 0)), (3, (1, 0)), (4, (2, 0)), (5, (5, 0)), (6, (5, 0)), (7, (5, 0)), (8, (5, 0)), (9, (3, 0)), (10, (3, 0)), (11, (2, 0)), (12, (2, 0)), (13, (5, 0))] := (rfl)
def pl64 : Plans := fun id => match id with
  | 1 => [(1, (5, 0)), (4, (5, 0)), (0, (0, 0)), (2, (0, 0)), (5, (0, 0)), (3, (1, 0)), (6, (1, 0)), (7, (2, 0)), (8, (2, 0))]
  | _ => []
@[go_sem ↓] theorem pl64_1 : pl64 1 = [(1, (5, 0)), (4, (5, 0)), (0, (0, 0)), (2, (0, 0)), (5, (0, 0)), (3, (1, 0)), (6, (1, 0)), (7, (2, 0)), (8, (2, 0))] := (rfl)
def pl65 : Plans := fun id => match id with
  | _ => []
def pl66 : Plans := fun id => match id with
  | _ => []
def pl67 : Plans := fun id => match id with
  | _ => []
def pl68 : Plans := fun id => match id with
  | 1 => [(0, (5, 0)), (1, (5, 0)), (2, (5, 0)), (4, (5, 0)), (5, (5, 0)), (6, (5, 0)), (9, (5, 0)), (10, (5, 0)), (11, (5, 0)), (3, (0, 0)), (7, (0, 0)), (12, (0, 0)), (8, (1, 0)), (13, (1, 0)), (14, (1, 0)), (15, (5, 0))]
  | _ => []
@[go_sem ↓] theorem pl68_1 : pl68 1 = [(0, (5, 0)), (1, (5, 0)), (2, (5, 0)), (4, (5, 0)), (5, (5, 0)), (6, (5, 0)), (9, (5, 0)), (10, (5, 0)), (11, (5, 0)), (3, (0, 0)), (7, (0, 0)), (12, (0, 0)), (8, (1, 0)), (13, (1, 0)), (14, (1, 0)), (15, (5, 0))] := (rfl)
def pl69 : Plans := fun id => match id with
  | 2 => [(0, (5, 0)), (2, (5, 0)), (4, (5, 0)), (1, (0, 0)), (3, (0, 0)), (5, (0, 0)), (6, (1, 0)), (7, (2, 0)), (8, (2, 0))]
  | _ => []
@[go_sem ↓] theorem pl69_2 : pl69 2 = [(0, (5, 0)), (2, (5, 0)), (4, (5, 0)), (1, (0, 0)), (3, (0, 0)), (5, (0, 0)), (6, (1, 0)), (7, (2, 0)), (8, (2, 0))] := (rfl)
def pl70 : Plans := fun id => match id with
  | 1 => [(0, (5, 0)), (2, (5, 0)), (5, (5, 0)), (7, (5, 0)), (1, (0, 0)), (3, (0, 0)), (4, (5, 0)), (6, (0, 0)), (8, (0, 0)), (9, (1, 0)), (10, (2, 0)), (11, (2, 0))]
  | _ => []
@[go_sem ↓] theorem pl70_1 : pl70 1 = [(0, (5, 0)), (2, (5, 0)), (5, (5, 0)), (7, (5, 0)), (1, (0, 0)), (3, (0, 0)), (4, (5, 0)), (6, (0, 0)), (8, (0, 0)), (9, (1, 0)), (10, (2, 0)), (11, (2, 0))] := (rfl)
def pl71 : Plans := fun id => match id with
  | _ => []
def pl72 : Plans := fun id => match id with
  | _ => []
def pl73 : Plans := fun id => match id with
  | 8 => [(1, (5, 0)), (0, (0, 0)), (7, (4, 0)), (2, (1, 0)), (3, (2, 0)), (4, (5, 0)), (5, (5, 0)), (6, (5, 0)), (7, (3, 0)), (8, (2, 0)), (9, (5, 0))]
  | _ => []
@[go_sem ↓] theorem pl73_8 : pl73 8 = [(1, (5, 0)), (0, (0, 0)), (7, (4, 0)), (2, (1, 0)), (3, (2, 0)), (4, (5, 0)), (5, (5, 0)), (6, (5, 0)), (7, (3, 0)), (8, (2, 0)), (9, (5, 0))] := (rfl)
def pl74 : Plans := fun id => match id with
  | _ => []
def pl75 : Plans := fun id => match id with
  | _ => []
def pl76 : Plans := fun id => match id with
  | _ => []
def pl79 : Plans := fun id => match id with
  | 3 => [(0, (0, 0)), (1, (8, 2)), (3, (2, 0))]
  | _ => []
@[go_sem ↓] theorem pl79_3 : pl79 3 = [(0, (0, 0)), (1, (8, 2)), (3, (2, 0))] := (rfl)
def pl80 : Plans := fun id => match id with
  | 6 => [(0, (5, 0)), (2, (5, 0)), (1, (0, 0)), (3, (0, 0)), (4, (5, 0)), (5, (0, 0)), (6, (2, 0)), (7, (5, 0)), (8, (5, 0)), (9, (5, 0)), (10, (5, 0)), (11, (5, 0))]
  | _ => []
@[go_sem ↓] theorem pl80_6 : pl80 6 = [(0, (5, 0)), (2, (5, 0)), (1, (0, 0)), (3, (0, 0)), (4, (5, 0)), (5, (0, 0)), (6, (2, 0)), (7, (5, 0)), (8, (5, 0)), (9, (5, 0)), (10, (5, 0)), (11, (5, 0))] := (rfl)
def pl81 : Plans := fun id => match id with
  | 5 => [(0, (0, 0)), (1, (1, 0)), (2, (1, 0)), (3, (2, 0)), (4, (2, 0))]
  | 7 => [(0, (5, 0)), (2, (5, 0)), (1, (0, 0)), (3, (0, 0)), (4, (5, 0)), (5, (0, 0)), (7, (0, 0)), (6, (1, 0)), (8, (2, 0)), (9, (2, 0)), (10, (2, 0)), (11, (5, 0))]
  | _ => []
@[go_sem ↓] theorem pl81_5 : pl81 5 = [(0, (0, 0)), (1, (1, 0)), (2, (1, 0)), (3, (2, 0)), (4, (2, 0))] := (rfl)
@[go_sem ↓] theorem pl81_7 : pl81 7 = [(0, (5, 0)), (2, (5, 0)), (1, (0, 0)), (3, (0, 0)), (4, (5, 0)), (5, (0, 0)), (7, (0, 0)), (6, (1, 0)), (8, (2, 0)), (9, (2, 0)), (10, (2, 0)), (11, (5, 0))] := (rfl)
def pl82 : Plans := fun id => match id with
  | _ => []
def pl83 : Plans := fun id => match id with
  | _ => []
def pl84 : Plans := fun id => match id with
  | _ => []
def pl85 : Plans := fun id => match id with
  | 4 => [(0, (5, 0)), (1, (5, 0)), (2, (5, 0)), (4, (5, 0)), (8, (5, 0)), (9, (5, 0)), (10, (5, 0)), (12, (5, 0)), (3, (0, 0)), (5, (0, 0)), (11, (0, 0)), (13, (0, 0)), (14, (5, 0)), (18, (4, 0)), (6, (1, 0)), (7, (1, 0)), (15, (2, 0)), (16, (2, 0)), (17, (2, 0)), (18, (3, 0)), (19, (2, 0))]
  | 6 => [(0, (0, 0)), (1, (1, 0)), (2, (2, 0)), (3, (5, 0)), (4, (5, 0)), (5, (5, 0)), (6, (2, 0))]
  | 7 => [(0, (5, 0)), (1, (5, 0)), (2, (5, 0)), (3, (0, 0)), (5, (0, 0)), (4, (1, 0)), (6, (2, 0)), (7, (2, 0)), (8, (5, 0))]
  | _ => []
@[go_sem ↓] theorem pl85_4 : pl85 4 = [(0, (5, 0)), (1, (5, 0)), (2, (5, 0)), (4, (5, 0)), (8, (5, 0)), (9, (5, 0)), (10, (5, 0)), (12, (5, 0)), (3, (0, 0)), (5, (0, 0)), (11, (0, 0)), (13, (0, 0)), (14, (5, 0)), (18, (4, 0)), (6, (1, 0)), (7, (1, 0)), (15, (2, 0)), (16, (2, 0)), (17, (2, 0)), (18, (3, 0)), (19, (2, 0))] := (rfl)
@[go_sem ↓] theorem pl85_6 : pl85 6 = [(0, (0, 0)), (1, (1, 0)), (2, (2, 0)), (3, (5, 0)), (4, (5, 0)), (5, (5, 0)), (6, (2, 0))] := (rfl)
@[go_sem ↓] theorem pl85_7 : pl85 7 = [(0, (5, 0)), (1, (5, 0)), (2, (5, 0)), (3, (0, 0)), (5, (0, 0)), (4, (1, 0)), (6, (2, 0)), (7, (2, 0)), (8, (5, 0))] := (rfl)
def pl86 : Plans := fun id => match id with
  | 1 => [(0, (5, 0)), (5, (5, 0)), (1, (0, 0)), (2, (0, 0)), (6, (0, 0)), (7, (0, 0)), (3, (1, 0)), (4, (1, 0)), (8, (1, 0)), (9, (2, 0)), (10, (2, 0)), (11, (5, 0)), (12, (5, 0)), (13, (2, 0)), (14, (5, 0))]
  | _ => []
@[go_sem ↓] theorem pl86_1 : pl86 1 = [(0, (5, 0)), (5, (5, 0)), (1, (0, 0)), (2, (0, 0)), (6, (0, 0)), (7, (0, 0)), (3, (1, 0)), (4, (1, 0)), (8, (1, 0)), (9, (2, 0)), (10, (2, 0)), (11, (5, 0)), (12, (5, 0)), (13, (2, 0)), (14, (5, 0))] := (rfl)
def pl87 : Plans := fun id => match id with
  | _ => []
def pl88 : Plans := fun id => match id with
  | _ => []
def pl89 : Plans := fun id => match id with
  | _ => []
def pl90 : Plans := fun id => match id with
  | 10 => [(0, (5, 0)), (2, (5, 0)), (3, (5, 0)), (4, (5, 0)), (6, (5, 0)), (1, (2, 0)), (5, (2, 0)), (7, (2, 0)), (8, (2, 0)), (9, (2, 0)), (10, (5, 0))]
  | _ => []
@[go_sem ↓] theorem pl90_10 : pl90 10 = [(0, (5, 0)), (2, (5, 0)), (3, (5, 0)), (4, (5, 0)), (6, (5, 0)), (1, (2, 0)), (5, (2, 0)), (7, (2, 0)), (8, (2, 0)), (9, (2, 0)), (10, (5, 0))] := (rfl)
def pl91 : Plans := fun id => match id with
  | _ => []
def pl92 : Plans := fun id => match id with
  | _ => []
def pl93 : Plans := fun id => match id with
  | 6 => [(0, (5, 0)), (1, (5, 0)), (2, (5, 0)), (3, (5, 0)), (4, (5, 0)), (5, (5, 0)), (6, (5, 0)), (7, (5, 0))]
  | _ => []
@[go_sem ↓] theorem pl93_6 : pl93 6 = [(0, (5, 0)), (1, (5, 0)), (2, (5, 0)), (3, (5, 0)), (4, (5, 0)), (5, (5, 0)), (6, (5, 0)), (7, (5, 0))] := (rfl)
def pl94 : Plans := fun id => match id with
  | _ => []
def pl95 : Plans := fun id => match id with
  | 5 => [(0, (5, 0)), (1, (5, 0)), (2, (5, 0)), (4, (5, 0)), (5, (5, 0)), (6, (5, 0)), (3, (0, 0)), (7, (5, 0)), (8, (5, 0)), (9, (2, 0))]
  | _ => []
@[go_sem ↓] theorem pl95_5 : pl95 5 = [(0, (5, 0)), (1, (5, 0)), (2, (5, 0)), (4, (5, 0)), (5, (5, 0)), (6, (5, 0)), (3, (0, 0)), (7, (5, 0)), (8, (5, 0)), (9, (2, 0))] := (rfl)
def pl96 : Plans := fun id => match id with
  | 3 => [(0, (5, 0)), (1, (5, 0)), (2, (5, 0)), (4, (5, 0)), (5, (5, 0)), (6, (5, 0)), (7, (5, 0)), (3, (0, 0)), (8, (0, 0)), (9, (5, 0))]
  | 4 => [(0, (5, 0)), (1, (5, 0)), (2, (5, 0)), (4, (5, 0)), (5, (5, 0)), (6, (5, 0)), (7, (5, 0)), (9, (5, 0)), (10, (5, 0)), (11, (5, 0)), (12, (5, 0)), (3, (0, 0)), (8, (0, 0)), (13, (0, 0)), (14, (2, 0)), (15, (5, 0)), (16, (5, 0)), (17, (5, 0)), (18, (5, 0))]
  | _ => []
@[go_sem ↓] theorem pl96_3 : pl96 3 = [(0, (5, 0)), (1, (5, 0)), (2, (5, 0)), (4, (5, 0)), (5, (5, 0)), (6, (5, 0)), (7, (5, 0)), (3, (0, 0)), (8, (0, 0)), (9, (5, 0))] := (rfl)
@[go_sem ↓] theorem pl96_4 : pl96 4 = [(0, (5, 0)), (1, (5, 0)), (2, (5, 0)), (4, (5, 0)), (5, (5, 0)), (6, (5, 0)), (7, (5, 0)), (9, (5, 0)), (10, (5, 0)), (11, (5, 0)), (12, (5, 0)), (3, (0, 0)), (8, (0, 0)), (13, (0, 0)), (14, (2, 0)), (15, (5, 0)), (16, (5, 0)), (17, (5, 0)), (18, (5, 0))] := (rfl)
def pl97 : Plans := fun id => match id with
  | 10 => [(0, (5, 0)), (1, (5, 0)), (2, (5, 0)), (4, (5, 0)), (5, (5, 0)), (6, (5, 0)), (7, (5, 0)), (9, (5, 0)), (10, (5, 0)), (3, (0, 0)), (8, (0, 0)), (11, (5, 0)), (12, (5, 0)), (13, (5, 0)), (14, (2, 0))]
  | _ => []
@[go_sem ↓] theorem pl97_10 : pl97 10 = [(0, (5, 0)), (1, (5, 0)), (2, (5, 0)), (4, (5, 0)), (5, (5, 0)), (6, (5, 0)), (7, (5, 0)), (9, (5, 0)), (10, (5, 0)), (3, (0, 0)), (8, (0, 0)), (11, (5, 0)), (12, (5, 0)), (13, (5, 0)), (14, (2, 0))] := (rfl)
def pl98 : Plans := fun id => match id with
  | _ => []
def pl99 : Plans := fun id => match id with
  | _ => []
@[go_sem ↓] theorem vct_41_3 : cvtV Try.prog 41 3 (.lit (.int i a)) F = F true (.lit (.int .i64 (IntKind.wrap .i64 a))) := cvtV_of (by kernel_rfl) (by kernel_rfl)
@[go_sem ↓ high] theorem vcth_41_3 (h : -9223372036854775808 ≤ a ∧ a ≤ 9223372036854775807) : cvtV Try.prog 41 3 (.lit (.int i a)) F = F true (.lit (.int .i64 a)) := cvtV_i64 (by kernel_rfl) (by kernel_rfl) h
@[go_sem ↓] theorem vcv_41_3 : cvsV Try.prog 41 3 (.lit (.int i a)) σ F = F true (.lit (.int .i64 (IntKind.wrap .i64 a))) := (cvsV_num (by kernel_rfl)).trans (cvtV_of (by kernel_rfl) (by kernel_rfl))
@[go_sem ↓ high] theorem vcvh_41_3 (h : -9223372036854775808 ≤ a ∧ a ≤ 9223372036854775807) : cvsV Try.prog 41 3 (.lit (.int i a)) σ F = F true (.lit (.int .i64 a)) := (cvsV_num (by kernel_rfl)).trans (cvtV_i64 (by kernel_rfl) (by kernel_rfl) h)
@[go_sem ↓] theorem vix_37 (h : 0 ≤ a ∧ a < len) : idxV Try.prog 37 (.sl o 1 off len) (.lit (.int i a)) F = F true (.ref o 1 (off + a.toNat) 0) := idxV_sl (et := 41) (by kernel_rfl) h
@[go_sem ↓ high] theorem vixn_37 (h : m < len) : idxV Try.prog 37 (.sl o 1 off len) (.lit (.int i (m : Int))) F = F true (.ref o 1 (off + m) 0) := idxV_sln (et := 41) (by kernel_rfl) h
@[go_sem ↓] theorem vixr_37 (h : 0 ≤ a ∧ a < l.length) : idxV Try.prog 37 (.row 1 l) (.lit (.int i a)) F = F true (.rref 1 l a.toNat 0) := idxV_row (et := 41) (by kernel_rfl) (by decide) h
@[go_sem ↓ high] theorem vixrn_37 (h : m < l.length) : idxV Try.prog 37 (.row 1 l) (.lit (.int i (m : Int))) F = F true (.rref 1 l m 0) := idxV_rown (et := 41) (by kernel_rfl) (by decide) h
@[go_sem ↓ high] theorem vixm_37 (h : 0 ≤ a ∧ a < L.length) : idxV Try.prog 37 (.row 1 (L.map f)) (.lit (.int i a)) F = F true (.rref 1 (L.map f) a.toNat 0) := idxV_rowm (et := 41) (by kernel_rfl) (by decide) h
@[go_sem ↓ high] theorem vixmn_37 (h : m < L.length) : idxV Try.prog 37 (.row 1 (L.map f)) (.lit (.int i (m : Int))) F = F true (.rref 1 (L.map f) m 0) := idxV_rowmn (et := 41) (by kernel_rfl) (by decide) h
@[go_sem ↓] theorem vld_41 : ldV Try.prog 41 u σ F = rdV u σ (none) F := ldV_of (by kernel_rfl)
@[go_sem ↓] theorem vst_41 : stV Try.prog 41 u v σ ks = clK v fun c => lenK c 1 (wrV u σ c ks) := stV_of (by kernel_rfl)
@[go_sem ↓] theorem vln_37 : bltV Try.prog e .len [37] [.row m l] σ kv = lenV (.row m l) fun τ v => kv τ v σ := lenB_row (by kernel_rfl)
@[go_sem ↓] theorem vlnx_37 : bltV Try.prog e .len [37] [.xrow m l] σ kv = lenV (.xrow m l) fun τ v => kv τ v σ := lenB_xrow (by kernel_rfl)
@[go_sem ↓] theorem vlns_37 : bltV Try.prog e .len [37] [.sl o m off len] σ kv = lenV (.sl o m off len) fun τ v => kv τ v σ := lenB_sl (by kernel_rfl)
@[go_sem ↓] theorem vlnn_37 : bltV Try.prog e .len [37] [.lit (.slice none 0 0)] σ kv = lenV (.lit (.slice none 0 0)) fun τ v => kv τ v σ := lenB_nil (by kernel_rfl)
@[go_sem ↓] theorem vct_142_5 : cvtV Try.prog 142 5 (.lit (.int i a)) F = F true (.lit (.int .u8 (IntKind.wrap .u8 a))) := cvtV_of (by kernel_rfl) (by kernel_rfl)
@[go_sem ↓ high] theorem vcth_142_5 (h : 0 ≤ a ∧ a ≤ 255) : cvtV Try.prog 142 5 (.lit (.int i a)) F = F true (.lit (.int .u8 a)) := cvtV_u8 (by kernel_rfl) (by kernel_rfl) h
@[go_sem ↓] theorem vcv_142_5 : cvsV Try.prog 142 5 (.lit (.int i a)) σ F = F true (.lit (.int .u8 (IntKind.wrap .u8 a))) := (cvsV_num (by kernel_rfl)).trans (cvtV_of (by kernel_rfl) (by kernel_rfl))
@[go_sem ↓ high] theorem vcvh_142_5 (h : 0 ≤ a ∧ a ≤ 255) : cvsV Try.prog 142 5 (.lit (.int i a)) σ F = F true (.lit (.int .u8 a)) := (cvsV_num (by kernel_rfl)).trans (cvtV_u8 (by kernel_rfl) (by kernel_rfl) h)
@[go_sem ↓] theorem visb_9 {s : List UInt8} (h : 0 ≤ a ∧ a < s.length) : ixvV Try.prog 9 (.lit (.string (bs s))) (.lit (.int i a)) F = F true (.lit (.int .u8 ((s.getD a.toNat 0).toNat : Int))) := ixvV_bs (by kernel_rfl) h
@[go_sem ↓ high] theorem visn_9 {s : List UInt8} (h : m < s.length) : ixvV Try.prog 9 (.lit (.string (bs s))) (.lit (.int i (m : Int))) F = F true (.lit (.int .u8 ((s.getD m 0).toNat : Int))) := ixvV_bsn (by kernel_rfl) h
@[go_sem ↓] theorem vis_9 {s : ByteArray} (h : 0 ≤ a ∧ a < s.size) : ixvV Try.prog 9 (.lit (.string s)) (.lit (.int i a)) F = F true (.lit (.int .u8 (strAt s a.toNat))) := ixvV_str (by kernel_rfl) h
@[go_sem ↓] theorem vct_5_3 : cvtV Try.prog 5 3 (.lit (.int i a)) F = F true (.lit (.int .i64 (IntKind.wrap .i64 a))) := cvtV_of (by kernel_rfl) (by kernel_rfl)
@[go_sem ↓ high] theorem vcth_5_3 (h : -9223372036854775808 ≤ a ∧ a ≤ 9223372036854775807) : cvtV Try.prog 5 3 (.lit (.int i a)) F = F true (.lit (.int .i64 a)) := cvtV_i64 (by kernel_rfl) (by kernel_rfl) h
@[go_sem ↓] theorem vcv_5_3 : cvsV Try.prog 5 3 (.lit (.int i a)) σ F = F true (.lit (.int .i64 (IntKind.wrap .i64 a))) := (cvsV_num (by kernel_rfl)).trans (cvtV_of (by kernel_rfl) (by kernel_rfl))
@[go_sem ↓ high] theorem vcvh_5_3 (h : -9223372036854775808 ≤ a ∧ a ≤ 9223372036854775807) : cvsV Try.prog 5 3 (.lit (.int i a)) σ F = F true (.lit (.int .i64 a)) := (cvsV_num (by kernel_rfl)).trans (cvtV_i64 (by kernel_rfl) (by kernel_rfl) h)
@[go_sem ↓ high] theorem vshr_u32_u64_8 {P : Program} {t : TypeId} : binV P .shr t (.lit (.int .u32 a)) (.lit (.int .u64 8)) F = F true (.lit (.int .u32 (a / 256))) := by rw [binV_shr_u32 (by decide)]; rfl
@[go_sem ↓ high] theorem vshr_u32_u64_16 {P : Program} {t : TypeId} : binV P .shr t (.lit (.int .u32 a)) (.lit (.int .u64 16)) F = F true (.lit (.int .u32 (a / 65536))) := by rw [binV_shr_u32 (by decide)]; rfl
@[go_sem ↓] theorem vst_39 : stV Try.prog 39 u v σ ks = clK v fun c => lenK c 1 (wrV u σ c ks) := stV_of (by kernel_rfl)
@[go_sem ↓] theorem vfa_39_0 : fadV Try.prog 39 (.ref o z i' off) 0 F = F true (.ref o z i' off) := fadV_ref (x := 0) (ag := false) (m := 1) (by kernel_rfl)
@[go_sem ↓] theorem vfr_39_0 : fadV Try.prog 39 (.rref z l i' off) 0 F = F true (.rref z l i' off) := fadV_rref (x := 0) (ag := false) (m := 1) (by kernel_rfl)
@[go_sem ↓] theorem vld_37 : ldV Try.prog 37 u σ F = rdV u σ (none) F := ldV_of (by kernel_rfl)
@[go_sem ↓] theorem vsl_37 : slcV Try.prog 37 (.sl o 1 off len) lo hi none F = bdoK hi len len fun h => bdoK lo 0 h fun l => F true (.sl o 1 (off + l) (h - l)) := slcV_sl (et := 41) (by kernel_rfl)
@[go_sem ↓] theorem vslr_37 : slcV Try.prog 37 (.row 1 l) lo hi none F = bdoK hi l.length l.length fun h => bdoK lo 0 h fun x => F true (.row 1 ((l.take h).drop x)) := slcV_row (et := 41) (by kernel_rfl)
@[go_sem ↓ high] theorem vslm_37 : slcV Try.prog 37 (.row 1 (L.map f)) lo hi none F = bdoK hi L.length L.length fun h => bdoK lo 0 h fun x => F true (.row 1 (((L.take h).drop x).map f)) := slcV_rowm (et := 41) (by kernel_rfl)
@[go_sem ↓] theorem vslx_37 : slcV Try.prog 37 (.xrow 1 (L.map f)) lo hi none F = bdoK hi L.length L.length fun h => bdoK lo 0 h fun x => F true (.row 1 (((L.take h).drop x).map f)) := slcV_xrowm (et := 41) (by kernel_rfl)
@[go_sem ↓] theorem vslf_37 : slcV Try.prog 37 (.row 1 (L.map f)) lo (some u) (some v) F = bdK v L.length fun m => bdK u m fun h => if m = h then bdoK lo 0 h fun x => F true (.xrow 1 (((L.take h).drop x).map f)) else False := slcV_full (et := 41) (by kernel_rfl)
@[go_sem ↓] theorem vsln_37 : slcV Try.prog 37 (.lit (.slice none 0 0)) lo hi none F = bdoK hi 0 0 fun h => bdoK lo 0 h fun _ => F true (.lit (.slice none 0 0)) := slcV_nil (et := 41) (z := 1) (by kernel_rfl)
@[go_sem ↓] theorem vbd_39 {ps : List (Nat × V)} : bldV Try.prog 39 ps F = allOne ([.slice none 0 0] : List Value) (fillK (plOf Try.prog 39) ps (([.slice none 0 0] : List Value).map V.lit) fun l => F true (.agg l)) := bldV_of (by kernel_rfl) (by kernel_rfl) (by kernel_rfl)
@[go_sem ↓] theorem val_39 : alcV Try.prog 39 σ kv = allOne ([.slice none 0 0] : List Value) (newO σ (.cells (([.slice none 0 0] : List Value).map V.lit)) fun o σ' => kv true (.ref o 0 0 0) σ') := alcV_of (by kernel_rfl)
@[go_sem ↓] theorem vms_37 : mslV Try.prog 37 u v σ kv = mslU 1 8 [.int .u64 0] u v σ kv := mslV_of (et := 41) (by kernel_rfl) (by kernel_rfl) (by kernel_rfl)
@[go_sem ↓] theorem vmu_37 (h : 0 ≤ a ∧ a * 8 ≤ 140737488355328) : mslU 1 8 [.int .u64 0] (.lit (.int .i64 a)) (.lit (.int .i64 a)) σ kv = newO σ (.row 1 (zrow [.int .u64 0] a.toNat)) fun o σ' => kv true (.sl o 1 0 a.toNat) σ' := by
  rw [mslU_of (C := [.int .u64 0]) (z := 1) ⟨h.1, rfl, h.2, by omega, by decide⟩ rfl]
  simp [allOne, oneC]
@[go_sem ↓ high] theorem vmun_37 (h : m * 8 ≤ 140737488355328) : mslU 1 8 [.int .u64 0] (.lit (.int .i64 (m : Int))) (.lit (.int .i64 (m : Int))) σ kv = newO σ (.row 1 (zrow [.int .u64 0] m)) fun o σ' => kv true (.sl o 1 0 m) σ' := vmu_37 (by omega)
@[go_sem ↓ high] theorem vmk_u64_4294967295 {P : Program} {t : TypeId} : binV P .and t (.lit (.int .u64 a)) (.lit (.int .u64 4294967295)) F = F true (.lit (.int .u64 (a % 4294967296))) := binV_mask 32 (by decide) (by decide) (by decide)
@[go_sem ↓ high] theorem vshr_u64_u64_32 {P : Program} {t : TypeId} : binV P .shr t (.lit (.int .u64 a)) (.lit (.int .u64 32)) F = F true (.lit (.int .u64 (a / 4294967296))) := by rw [binV_shr_u64 (by decide)]; rfl
@[go_sem ↓] theorem vct_3_63 : cvtV Try.prog 3 63 (.lit (.int i a)) F = F true (.lit (.int .u64 (IntKind.wrap .u64 a))) := cvtV_of (by kernel_rfl) (by kernel_rfl)
@[go_sem ↓ high] theorem vcth_3_63 (h : 0 ≤ a ∧ a ≤ 18446744073709551615) : cvtV Try.prog 3 63 (.lit (.int i a)) F = F true (.lit (.int .u64 a)) := cvtV_u64 (by kernel_rfl) (by kernel_rfl) h
@[go_sem ↓] theorem vcv_3_63 : cvsV Try.prog 3 63 (.lit (.int i a)) σ F = F true (.lit (.int .u64 (IntKind.wrap .u64 a))) := (cvsV_num (by kernel_rfl)).trans (cvtV_of (by kernel_rfl) (by kernel_rfl))
@[go_sem ↓ high] theorem vcvh_3_63 (h : 0 ≤ a ∧ a ≤ 18446744073709551615) : cvsV Try.prog 3 63 (.lit (.int i a)) σ F = F true (.lit (.int .u64 a)) := (cvsV_num (by kernel_rfl)).trans (cvtV_u64 (by kernel_rfl) (by kernel_rfl) h)
@[go_sem ↓] theorem vld_144 : ldV Try.prog 144 u σ F = rdV u σ (none) F := ldV_of (by kernel_rfl)
@[go_sem ↓] theorem vct_63_142 : cvtV Try.prog 63 142 (.lit (.int i a)) F = F true (.lit (.int .u32 (IntKind.wrap .u32 a))) := cvtV_of (by kernel_rfl) (by kernel_rfl)
@[go_sem ↓ high] theorem vcth_63_142 (h : 0 ≤ a ∧ a ≤ 4294967295) : cvtV Try.prog 63 142 (.lit (.int i a)) F = F true (.lit (.int .u32 a)) := cvtV_u32 (by kernel_rfl) (by kernel_rfl) h
@[go_sem ↓] theorem vcv_63_142 : cvsV Try.prog 63 142 (.lit (.int i a)) σ F = F true (.lit (.int .u32 (IntKind.wrap .u32 a))) := (cvsV_num (by kernel_rfl)).trans (cvtV_of (by kernel_rfl) (by kernel_rfl))
@[go_sem ↓ high] theorem vcvh_63_142 (h : 0 ≤ a ∧ a ≤ 4294967295) : cvsV Try.prog 63 142 (.lit (.int i a)) σ F = F true (.lit (.int .u32 a)) := (cvsV_num (by kernel_rfl)).trans (cvtV_u32 (by kernel_rfl) (by kernel_rfl) h)
@[go_sem ↓] theorem vfa_113_1 : fadV Try.prog 113 (.ref o z i' off) 1 F = F true (.ref o z i' (off + 3)) := fadV_ref (x := 3) (ag := false) (m := 1) (by kernel_rfl)
@[go_sem ↓] theorem vfr_113_1 : fadV Try.prog 113 (.rref z l i' off) 1 F = F true (.rref z l i' (off + 3)) := fadV_rref (x := 3) (ag := false) (m := 1) (by kernel_rfl)
@[go_sem ↓] theorem vld_111 : ldV Try.prog 111 u σ F = rdV u σ (none) F := ldV_of (by kernel_rfl)
@[go_sem ↓] theorem vix_111 (h : 0 ≤ a ∧ a < len) : idxV Try.prog 111 (.sl o 2 off len) (.lit (.int i a)) F = F true (.ref o 2 (off + a.toNat) 0) := idxV_sl (et := 117) (by kernel_rfl) h
@[go_sem ↓ high] theorem vixn_111 (h : m < len) : idxV Try.prog 111 (.sl o 2 off len) (.lit (.int i (m : Int))) F = F true (.ref o 2 (off + m) 0) := idxV_sln (et := 117) (by kernel_rfl) h
@[go_sem ↓] theorem vixr_111 (h : 0 ≤ a ∧ a < l.length) : idxV Try.prog 111 (.row 2 l) (.lit (.int i a)) F = F true (.rref 2 l a.toNat 0) := idxV_row (et := 117) (by kernel_rfl) (by decide) h
@[go_sem ↓ high] theorem vixrn_111 (h : m < l.length) : idxV Try.prog 111 (.row 2 l) (.lit (.int i (m : Int))) F = F true (.rref 2 l m 0) := idxV_rown (et := 117) (by kernel_rfl) (by decide) h
@[go_sem ↓ high] theorem vixm_111 (h : 0 ≤ a ∧ a < L.length) : idxV Try.prog 111 (.row 2 (L.map f)) (.lit (.int i a)) F = F true (.rref 2 (L.map f) a.toNat 0) := idxV_rowm (et := 117) (by kernel_rfl) (by decide) h
@[go_sem ↓ high] theorem vixmn_111 (h : m < L.length) : idxV Try.prog 111 (.row 2 (L.map f)) (.lit (.int i (m : Int))) F = F true (.rref 2 (L.map f) m 0) := idxV_rowmn (et := 117) (by kernel_rfl) (by decide) h
@[go_sem ↓] theorem vld_117 : ldV Try.prog 117 u σ F = rdV u σ (some 2) F := ldV_of (by kernel_rfl)
@[go_sem ↓] theorem vst_117 : stV Try.prog 117 u v σ ks = clK v fun c => lenK c 2 (wrV u σ c ks) := stV_of (by kernel_rfl)
@[go_sem ↓] theorem vbd_117 {ps : List (Nat × V)} : bldV Try.prog 117 ps F = allOne ([.int .u64 0, .int .i64 0] : List Value) (fillK (plOf Try.prog 117) ps (([.int .u64 0, .int .i64 0] : List Value).map V.lit) fun l => F true (.agg l)) := bldV_of (by kernel_rfl) (by kernel_rfl) (by kernel_rfl)
@[go_sem ↓] theorem vln_111 : bltV Try.prog e .len [111] [.row m l] σ kv = lenV (.row m l) fun τ v => kv τ v σ := lenB_row (by kernel_rfl)
@[go_sem ↓] theorem vlnx_111 : bltV Try.prog e .len [111] [.xrow m l] σ kv = lenV (.xrow m l) fun τ v => kv τ v σ := lenB_xrow (by kernel_rfl)
@[go_sem ↓] theorem vlns_111 : bltV Try.prog e .len [111] [.sl o m off len] σ kv = lenV (.sl o m off len) fun τ v => kv τ v σ := lenB_sl (by kernel_rfl)
@[go_sem ↓] theorem vlnn_111 : bltV Try.prog e .len [111] [.lit (.slice none 0 0)] σ kv = lenV (.lit (.slice none 0 0)) fun τ v => kv τ v σ := lenB_nil (by kernel_rfl)
@[go_sem ↓] theorem val_117 : alcV Try.prog 117 σ kv = allOne ([.int .u64 0, .int .i64 0] : List Value) (newO σ (.cells (([.int .u64 0, .int .i64 0] : List Value).map V.lit)) fun o σ' => kv true (.ref o 0 0 0) σ') := alcV_of (by kernel_rfl)
@[go_sem ↓ high] theorem vshr_u64_u64_1 {P : Program} {t : TypeId} : binV P .shr t (.lit (.int .u64 a)) (.lit (.int .u64 1)) F = F true (.lit (.int .u64 (a / 2))) := by rw [binV_shr_u64 (by decide)]; rfl
@[go_sem ↓ high] theorem vshl_i64_u64_1 {P : Program} {t : TypeId} : binV P .shl t (.lit (.int .i64 a)) (.lit (.int .u64 1)) F = F true (.lit (.int .i64 (IntKind.wrap .i64 (a * 2)))) := by rw [binV_shl_i64 (by decide)]; rfl
@[go_sem ↓ high] theorem vshl_u64_u64_2 {P : Program} {t : TypeId} : binV P .shl t (.lit (.int .u64 a)) (.lit (.int .u64 2)) F = F true (.lit (.int .u64 (IntKind.wrap .u64 (a * 4)))) := by rw [binV_shl_u64 (by decide)]; rfl
@[go_sem ↓ high] theorem vshr_u64_u64_62 {P : Program} {t : TypeId} : binV P .shr t (.lit (.int .u64 a)) (.lit (.int .u64 62)) F = F true (.lit (.int .u64 (a / 4611686018427387904))) := by rw [binV_shr_u64 (by decide)]; rfl
@[go_sem ↓] theorem vct_3_41 : cvtV Try.prog 3 41 (.lit (.int i a)) F = F true (.lit (.int .u64 (IntKind.wrap .u64 a))) := cvtV_of (by kernel_rfl) (by kernel_rfl)
@[go_sem ↓ high] theorem vcth_3_41 (h : 0 ≤ a ∧ a ≤ 18446744073709551615) : cvtV Try.prog 3 41 (.lit (.int i a)) F = F true (.lit (.int .u64 a)) := cvtV_u64 (by kernel_rfl) (by kernel_rfl) h
@[go_sem ↓] theorem vcv_3_41 : cvsV Try.prog 3 41 (.lit (.int i a)) σ F = F true (.lit (.int .u64 (IntKind.wrap .u64 a))) := (cvsV_num (by kernel_rfl)).trans (cvtV_of (by kernel_rfl) (by kernel_rfl))
@[go_sem ↓ high] theorem vcvh_3_41 (h : 0 ≤ a ∧ a ≤ 18446744073709551615) : cvsV Try.prog 3 41 (.lit (.int i a)) σ F = F true (.lit (.int .u64 a)) := (cvsV_num (by kernel_rfl)).trans (cvtV_u64 (by kernel_rfl) (by kernel_rfl) h)
@[go_sem ↓] theorem vfa_48_0 : fadV Try.prog 48 (.ref o z i' off) 0 F = F true (.ref o z i' off) := fadV_ref (x := 0) (ag := true) (m := 2) (by kernel_rfl)
@[go_sem ↓] theorem vfr_48_0 : fadV Try.prog 48 (.rref z l i' off) 0 F = F true (.rref z l i' off) := fadV_rref (x := 0) (ag := true) (m := 2) (by kernel_rfl)
@[go_sem ↓] theorem vld_46 : ldV Try.prog 46 u σ F = rdV u σ (some 2) F := ldV_of (by kernel_rfl)
@[go_sem ↓] theorem vld_48 : ldV Try.prog 48 u σ F = rdV u σ (some 3) F := ldV_of (by kernel_rfl)
@[go_sem ↓] theorem vst_48 : stV Try.prog 48 u v σ ks = clK v fun c => lenK c 3 (wrV u σ c ks) := stV_of (by kernel_rfl)
@[go_sem ↓] theorem val_48 : alcV Try.prog 48 σ kv = allOne ([.slice none 0 0, .bool false, .slice none 0 0] : List Value) (newO σ (.cells (([.slice none 0 0, .bool false, .slice none 0 0] : List Value).map V.lit)) fun o σ' => kv true (.ref o 0 0 0) σ') := alcV_of (by kernel_rfl)
@[go_sem ↓] theorem vfa_113_2 : fadV Try.prog 113 (.ref o z i' off) 2 F = F true (.ref o z i' (off + 4)) := fadV_ref (x := 4) (ag := false) (m := 1) (by kernel_rfl)
@[go_sem ↓] theorem vfr_113_2 : fadV Try.prog 113 (.rref z l i' off) 2 F = F true (.rref z l i' (off + 4)) := fadV_rref (x := 4) (ag := false) (m := 1) (by kernel_rfl)
@[go_sem ↓] theorem vld_3 : ldV Try.prog 3 u σ F = rdV u σ (none) F := ldV_of (by kernel_rfl)
@[go_sem ↓] theorem vfa_113_0 : fadV Try.prog 113 (.ref o z i' off) 0 F = F true (.ref o z i' off) := fadV_ref (x := 0) (ag := true) (m := 3) (by kernel_rfl)
@[go_sem ↓] theorem vfr_113_0 : fadV Try.prog 113 (.rref z l i' off) 0 F = F true (.rref z l i' off) := fadV_rref (x := 0) (ag := true) (m := 3) (by kernel_rfl)
@[go_sem ↓] theorem vfa_76_0 : fadV Try.prog 76 (.ref o z i' off) 0 F = F true (.ref o z i' off) := fadV_ref (x := 0) (ag := false) (m := 1) (by kernel_rfl)
@[go_sem ↓] theorem vfr_76_0 : fadV Try.prog 76 (.rref z l i' off) 0 F = F true (.rref z l i' off) := fadV_rref (x := 0) (ag := false) (m := 1) (by kernel_rfl)
@[go_sem ↓] theorem vld_76 : ldV Try.prog 76 u σ F = rdV u σ (some 3) F := ldV_of (by kernel_rfl)
@[go_sem ↓] theorem vfa_117_1 : fadV Try.prog 117 (.ref o z i' off) 1 F = F true (.ref o z i' (off + 1)) := fadV_ref (x := 1) (ag := false) (m := 1) (by kernel_rfl)
@[go_sem ↓] theorem vfr_117_1 : fadV Try.prog 117 (.rref z l i' off) 1 F = F true (.rref z l i' (off + 1)) := fadV_rref (x := 1) (ag := false) (m := 1) (by kernel_rfl)
@[go_sem ↓] theorem vbd_48 {ps : List (Nat × V)} : bldV Try.prog 48 ps F = allOne ([.slice none 0 0, .bool false, .slice none 0 0] : List Value) (fillK (plOf Try.prog 48) ps (([.slice none 0 0, .bool false, .slice none 0 0] : List Value).map V.lit) fun l => F true (.agg l)) := bldV_of (by kernel_rfl) (by kernel_rfl) (by kernel_rfl)
@[go_sem ↓] theorem vbs_111_0 {ps : List (Nat × V)} : bslV Try.prog 111 0 ps σ kv = prtK 2 0 ps fun l => lenK l 0 (newO σ (.row 2 l) fun o σ' => kv true (.sl o 2 0 0) σ') := bslV_of (et := 117) (by kernel_rfl) ⟨by kernel_rfl, by decide, by decide⟩
@[go_sem ↓] theorem vap_111_111 : apdV Try.prog e 111 111 u v σ kv = rowK v σ 2 fun m => apdU e 2 16 u m σ kv := apdV_of (et := 117) (ex := 117) (C := [.int .u64 0, .int .i64 0]) (by kernel_rfl) (by kernel_rfl) (by kernel_rfl) (by kernel_rfl) (by decide) rfl
@[go_sem ↓] theorem vseq_111 : binV Try.prog .eql 111 (.row 2 l) (.lit (.slice none 0 0)) F = nilB .eql l.isEmpty F := binV_seq ⟨by kernel_rfl, by decide⟩
@[go_sem ↓] theorem vsleq_111 : binV Try.prog .eql 111 (.sl o 2 off len) (.lit (.slice none 0 0)) F = nilB .eql (decide (len = 0)) F := binV_leq0 (by kernel_rfl)
@[go_sem ↓] theorem vsneq_111 : binV Try.prog .eql 111 (.lit (.slice none 0 0)) (.lit (.slice none 0 0)) F = F true (.lit (.bool true)) := binV_neq0 (by kernel_rfl)
@[go_sem ↓] theorem vfa_46_1 : fadV Try.prog 46 (.ref o z i' off) 1 F = F true (.ref o z i' (off + 1)) := fadV_ref (x := 1) (ag := false) (m := 1) (by kernel_rfl)
@[go_sem ↓] theorem vfr_46_1 : fadV Try.prog 46 (.rref z l i' off) 1 F = F true (.rref z l i' (off + 1)) := fadV_rref (x := 1) (ag := false) (m := 1) (by kernel_rfl)
@[go_sem ↓] theorem vld_4 : ldV Try.prog 4 u σ F = rdV u σ (none) F := ldV_of (by kernel_rfl)
@[go_sem ↓] theorem vfa_46_0 : fadV Try.prog 46 (.ref o z i' off) 0 F = F true (.ref o z i' off) := fadV_ref (x := 0) (ag := true) (m := 1) (by kernel_rfl)
@[go_sem ↓] theorem vfr_46_0 : fadV Try.prog 46 (.rref z l i' off) 0 F = F true (.rref z l i' off) := fadV_rref (x := 0) (ag := true) (m := 1) (by kernel_rfl)
@[go_sem ↓] theorem vld_39 : ldV Try.prog 39 u σ F = rdV u σ (some 1) F := ldV_of (by kernel_rfl)
@[go_sem ↓] theorem vst_46 : stV Try.prog 46 u v σ ks = clK v fun c => lenK c 2 (wrV u σ c ks) := stV_of (by kernel_rfl)
@[go_sem ↓] theorem val_46 : alcV Try.prog 46 σ kv = allOne ([.slice none 0 0, .bool false] : List Value) (newO σ (.cells (([.slice none 0 0, .bool false] : List Value).map V.lit)) fun o σ' => kv true (.ref o 0 0 0) σ') := alcV_of (by kernel_rfl)
@[go_sem ↓] theorem vbne_4 {x y : Bool} : binV Try.prog .neq 4 (.lit (.bool x)) (.lit (.bool y)) F = F true (.lit (.bool (!(x == y)))) := binV_bne (by kernel_rfl)
@[go_sem ↓] theorem vbs_37_1 {ps : List (Nat × V)} : bslV Try.prog 37 1 ps σ kv = prtK 1 0 ps fun l => lenK l 1 (newO σ (.row 1 l) fun o σ' => kv true (.sl o 1 0 1) σ') := bslV_of (et := 41) (by kernel_rfl) ⟨by kernel_rfl, by decide, by decide⟩
@[go_sem ↓] theorem vbd_46 {ps : List (Nat × V)} : bldV Try.prog 46 ps F = allOne ([.slice none 0 0, .bool false] : List Value) (fillK (plOf Try.prog 46) ps (([.slice none 0 0, .bool false] : List Value).map V.lit) fun l => F true (.agg l)) := bldV_of (by kernel_rfl) (by kernel_rfl) (by kernel_rfl)
@[go_sem ↓ high] theorem vshr_i64_u64_1 {P : Program} {t : TypeId} : binV P .shr t (.lit (.int .i64 a)) (.lit (.int .u64 1)) F = F true (.lit (.int .i64 (a / 2))) := by rw [binV_shr_i64 (by decide)]; rfl
@[go_sem ↓ high] theorem vmk_i64_1 {P : Program} {t : TypeId} : binV P .and t (.lit (.int .i64 a)) (.lit (.int .i64 1)) F = F true (.lit (.int .i64 (a % 2))) := binV_mask 1 (by decide) (by decide) (by decide)
@[go_sem ↓] theorem vbeq_4 {x y : Bool} : binV Try.prog .eql 4 (.lit (.bool x)) (.lit (.bool y)) F = F true (.lit (.bool (x == y))) := binV_beq (by kernel_rfl)
@[go_sem ↓] theorem vbd_113 {ps : List (Nat × V)} : bldV Try.prog 113 ps F = allOne ([.int .i64 0, .int .i64 0, .int .i64 0, .slice none 0 0, .int .i64 0] : List Value) (fillK (plOf Try.prog 113) ps (([.int .i64 0, .int .i64 0, .int .i64 0, .slice none 0 0, .int .i64 0] : List Value).map V.lit) fun l => F true (.agg l)) := bldV_of (by kernel_rfl) (by kernel_rfl) (by kernel_rfl)
@[go_sem ↓] theorem vpl_113_0 {r : List (Nat × V)} {G : List V → Prop} : fillK (plOf Try.prog 113) ((0, u) :: r) us G = clK u fun c => lenK c 3 (wrK us 0 c fun l' => fillK (plOf Try.prog 113) r l' G) := fillK_step (by kernel_rfl)
@[go_sem ↓] theorem vpl_113_1 {r : List (Nat × V)} {G : List V → Prop} : fillK (plOf Try.prog 113) ((1, u) :: r) us G = clK u fun c => lenK c 1 (wrK us 3 c fun l' => fillK (plOf Try.prog 113) r l' G) := fillK_step (by kernel_rfl)
@[go_sem ↓] theorem vpl_113_2 {r : List (Nat × V)} {G : List V → Prop} : fillK (plOf Try.prog 113) ((2, u) :: r) us G = clK u fun c => lenK c 1 (wrK us 4 c fun l' => fillK (plOf Try.prog 113) r l' G) := fillK_step (by kernel_rfl)
@[go_sem ↓] theorem vfa_76_2 : fadV Try.prog 76 (.ref o z i' off) 2 F = F true (.ref o z i' (off + 2)) := fadV_ref (x := 2) (ag := false) (m := 1) (by kernel_rfl)
@[go_sem ↓] theorem vfr_76_2 : fadV Try.prog 76 (.rref z l i' off) 2 F = F true (.rref z l i' (off + 2)) := fadV_rref (x := 2) (ag := false) (m := 1) (by kernel_rfl)
@[go_sem ↓] theorem vfa_76_1 : fadV Try.prog 76 (.ref o z i' off) 1 F = F true (.ref o z i' (off + 1)) := fadV_ref (x := 1) (ag := false) (m := 1) (by kernel_rfl)
@[go_sem ↓] theorem vfr_76_1 : fadV Try.prog 76 (.rref z l i' off) 1 F = F true (.rref z l i' (off + 1)) := fadV_rref (x := 1) (ag := false) (m := 1) (by kernel_rfl)
@[go_sem ↓] theorem vct_41_5 : cvtV Try.prog 41 5 (.lit (.int i a)) F = F true (.lit (.int .u8 (IntKind.wrap .u8 a))) := cvtV_of (by kernel_rfl) (by kernel_rfl)
@[go_sem ↓ high] theorem vcth_41_5 (h : 0 ≤ a ∧ a ≤ 255) : cvtV Try.prog 41 5 (.lit (.int i a)) F = F true (.lit (.int .u8 a)) := cvtV_u8 (by kernel_rfl) (by kernel_rfl) h
@[go_sem ↓] theorem vcv_41_5 : cvsV Try.prog 41 5 (.lit (.int i a)) σ F = F true (.lit (.int .u8 (IntKind.wrap .u8 a))) := (cvsV_num (by kernel_rfl)).trans (cvtV_of (by kernel_rfl) (by kernel_rfl))
@[go_sem ↓ high] theorem vcvh_41_5 (h : 0 ≤ a ∧ a ≤ 255) : cvsV Try.prog 41 5 (.lit (.int i a)) σ F = F true (.lit (.int .u8 a)) := (cvsV_num (by kernel_rfl)).trans (cvtV_u8 (by kernel_rfl) (by kernel_rfl) h)
@[go_sem ↓ high] theorem vshr_u64_u64_8 {P : Program} {t : TypeId} : binV P .shr t (.lit (.int .u64 a)) (.lit (.int .u64 8)) F = F true (.lit (.int .u64 (a / 256))) := by rw [binV_shr_u64 (by decide)]; rfl
@[go_sem ↓ high] theorem vshr_u64_u64_16 {P : Program} {t : TypeId} : binV P .shr t (.lit (.int .u64 a)) (.lit (.int .u64 16)) F = F true (.lit (.int .u64 (a / 65536))) := by rw [binV_shr_u64 (by decide)]; rfl
@[go_sem ↓] theorem vfa_48_1 : fadV Try.prog 48 (.ref o z i' off) 1 F = F true (.ref o z i' (off + 2)) := fadV_ref (x := 2) (ag := true) (m := 1) (by kernel_rfl)
@[go_sem ↓] theorem vfr_48_1 : fadV Try.prog 48 (.rref z l i' off) 1 F = F true (.rref z l i' (off + 2)) := fadV_rref (x := 2) (ag := true) (m := 1) (by kernel_rfl)
@[go_sem ↓] theorem vpl_48_0 {r : List (Nat × V)} {G : List V → Prop} : fillK (plOf Try.prog 48) ((0, u) :: r) us G = clK u fun c => lenK c 2 (wrK us 0 c fun l' => fillK (plOf Try.prog 48) r l' G) := fillK_step (by kernel_rfl)
@[go_sem ↓] theorem vpl_48_1 {r : List (Nat × V)} {G : List V → Prop} : fillK (plOf Try.prog 48) ((1, u) :: r) us G = clK u fun c => lenK c 1 (wrK us 2 c fun l' => fillK (plOf Try.prog 48) r l' G) := fillK_step (by kernel_rfl)
@[go_sem ↓] theorem via_56 (h : 0 ≤ a ∧ a < 64) : idxV Try.prog 56 (.ref o 0 0 off) (.lit (.int i a)) F = F true (.ref o 1 a.toNat off) := idxV_ar (et := 3) (by kernel_rfl) h
@[go_sem ↓ high] theorem vian_56 (h : m < 64) : idxV Try.prog 56 (.ref o 0 0 off) (.lit (.int i (m : Int))) F = F true (.ref o 1 m off) := idxV_arn (et := 3) (by kernel_rfl) h
@[go_sem ↓] theorem vst_3 : stV Try.prog 3 u v σ ks = clK v fun c => lenK c 1 (wrV u σ c ks) := stV_of (by kernel_rfl)
@[go_sem ↓] theorem vld_77 : ldV Try.prog 77 u σ F = rdV u σ (none) F := ldV_of (by kernel_rfl)
@[go_sem ↓] theorem vln_22 : bltV Try.prog e .len [22] [.row m l] σ kv = lenV (.row m l) fun τ v => kv τ v σ := lenB_row (by kernel_rfl)
@[go_sem ↓] theorem vlnx_22 : bltV Try.prog e .len [22] [.xrow m l] σ kv = lenV (.xrow m l) fun τ v => kv τ v σ := lenB_xrow (by kernel_rfl)
@[go_sem ↓] theorem vlns_22 : bltV Try.prog e .len [22] [.sl o m off len] σ kv = lenV (.sl o m off len) fun τ v => kv τ v σ := lenB_sl (by kernel_rfl)
@[go_sem ↓] theorem vlnn_22 : bltV Try.prog e .len [22] [.lit (.slice none 0 0)] σ kv = lenV (.lit (.slice none 0 0)) fun τ v => kv τ v σ := lenB_nil (by kernel_rfl)
@[go_sem ↓] theorem vsl_22 : slcV Try.prog 22 (.sl o 1 off len) lo hi none F = bdoK hi len len fun h => bdoK lo 0 h fun l => F true (.sl o 1 (off + l) (h - l)) := slcV_sl (et := 4) (by kernel_rfl)
@[go_sem ↓] theorem vslr_22 : slcV Try.prog 22 (.row 1 l) lo hi none F = bdoK hi l.length l.length fun h => bdoK lo 0 h fun x => F true (.row 1 ((l.take h).drop x)) := slcV_row (et := 4) (by kernel_rfl)
@[go_sem ↓ high] theorem vslm_22 : slcV Try.prog 22 (.row 1 (L.map f)) lo hi none F = bdoK hi L.length L.length fun h => bdoK lo 0 h fun x => F true (.row 1 (((L.take h).drop x).map f)) := slcV_rowm (et := 4) (by kernel_rfl)
@[go_sem ↓] theorem vslx_22 : slcV Try.prog 22 (.xrow 1 (L.map f)) lo hi none F = bdoK hi L.length L.length fun h => bdoK lo 0 h fun x => F true (.row 1 (((L.take h).drop x).map f)) := slcV_xrowm (et := 4) (by kernel_rfl)
@[go_sem ↓] theorem vslf_22 : slcV Try.prog 22 (.row 1 (L.map f)) lo (some u) (some v) F = bdK v L.length fun m => bdK u m fun h => if m = h then bdoK lo 0 h fun x => F true (.xrow 1 (((L.take h).drop x).map f)) else False := slcV_full (et := 4) (by kernel_rfl)
@[go_sem ↓] theorem vsln_22 : slcV Try.prog 22 (.lit (.slice none 0 0)) lo hi none F = bdoK hi 0 0 fun h => bdoK lo 0 h fun _ => F true (.lit (.slice none 0 0)) := slcV_nil (et := 4) (z := 1) (by kernel_rfl)
@[go_sem ↓] theorem vbs_22_1 {ps : List (Nat × V)} : bslV Try.prog 22 1 ps σ kv = prtK 1 0 ps fun l => lenK l 1 (newO σ (.row 1 l) fun o σ' => kv true (.sl o 1 0 1) σ') := bslV_of (et := 4) (by kernel_rfl) ⟨by kernel_rfl, by decide, by decide⟩
@[go_sem ↓] theorem vap_22_22 : apdV Try.prog e 22 22 u v σ kv = rowK v σ 1 fun m => apdU e 1 1 u m σ kv := apdV_of (et := 4) (ex := 4) (C := [.bool false]) (by kernel_rfl) (by kernel_rfl) (by kernel_rfl) (by kernel_rfl) (by decide) rfl
@[go_sem ↓] theorem vld_61 : ldV Try.prog 61 u σ F = rdV u σ (none) F := ldV_of (by kernel_rfl)
@[go_sem ↓] theorem vpl_46_0 {r : List (Nat × V)} {G : List V → Prop} : fillK (plOf Try.prog 46) ((0, u) :: r) us G = clK u fun c => lenK c 1 (wrK us 0 c fun l' => fillK (plOf Try.prog 46) r l' G) := fillK_step (by kernel_rfl)
@[go_sem ↓] theorem vpl_46_1 {r : List (Nat × V)} {G : List V → Prop} : fillK (plOf Try.prog 46) ((1, u) :: r) us G = clK u fun c => lenK c 1 (wrK us 1 c fun l' => fillK (plOf Try.prog 46) r l' G) := fillK_step (by kernel_rfl)
@[go_sem ↓] theorem vbs_37_0 {ps : List (Nat × V)} : bslV Try.prog 37 0 ps σ kv = prtK 1 0 ps fun l => lenK l 0 (newO σ (.row 1 l) fun o σ' => kv true (.sl o 1 0 0) σ') := bslV_of (et := 41) (by kernel_rfl) ⟨by kernel_rfl, by decide, by decide⟩
@[go_sem ↓] theorem vap_37_37 : apdV Try.prog e 37 37 u v σ kv = rowK v σ 1 fun m => apdU e 1 8 u m σ kv := apdV_of (et := 41) (ex := 41) (C := [.int .u64 0]) (by kernel_rfl) (by kernel_rfl) (by kernel_rfl) (by kernel_rfl) (by decide) rfl
@[go_sem ↓] theorem vseq_37 : binV Try.prog .eql 37 (.row 1 l) (.lit (.slice none 0 0)) F = nilB .eql l.isEmpty F := binV_seq ⟨by kernel_rfl, by decide⟩
@[go_sem ↓] theorem vsleq_37 : binV Try.prog .eql 37 (.sl o 1 off len) (.lit (.slice none 0 0)) F = nilB .eql (decide (len = 0)) F := binV_leq0 (by kernel_rfl)
@[go_sem ↓] theorem vsneq_37 : binV Try.prog .eql 37 (.lit (.slice none 0 0)) (.lit (.slice none 0 0)) F = F true (.lit (.bool true)) := binV_neq0 (by kernel_rfl)
@[go_sem ↓] theorem vpl_39_0 {r : List (Nat × V)} {G : List V → Prop} : fillK (plOf Try.prog 39) ((0, u) :: r) us G = clK u fun c => lenK c 1 (wrK us 0 c fun l' => fillK (plOf Try.prog 39) r l' G) := fillK_step (by kernel_rfl)
@[go_sem ↓] theorem vfa_95_1 : fadV Try.prog 95 (.ref o z i' off) 1 F = F true (.ref o z i' (off + 2)) := fadV_ref (x := 2) (ag := false) (m := 1) (by kernel_rfl)
@[go_sem ↓] theorem vfr_95_1 : fadV Try.prog 95 (.rref z l i' off) 1 F = F true (.rref z l i' (off + 2)) := fadV_rref (x := 2) (ag := false) (m := 1) (by kernel_rfl)
@[go_sem ↓] theorem vld_22 : ldV Try.prog 22 u σ F = rdV u σ (none) F := ldV_of (by kernel_rfl)
@[go_sem ↓] theorem vfa_95_0 : fadV Try.prog 95 (.ref o z i' off) 0 F = F true (.ref o z i' off) := fadV_ref (x := 0) (ag := true) (m := 2) (by kernel_rfl)
@[go_sem ↓] theorem vfr_95_0 : fadV Try.prog 95 (.rref z l i' off) 0 F = F true (.rref z l i' off) := fadV_rref (x := 0) (ag := true) (m := 2) (by kernel_rfl)
@[go_sem ↓] theorem vfa_93_0 : fadV Try.prog 93 (.ref o z i' off) 0 F = F true (.ref o z i' off) := fadV_ref (x := 0) (ag := false) (m := 1) (by kernel_rfl)
@[go_sem ↓] theorem vfr_93_0 : fadV Try.prog 93 (.rref z l i' off) 0 F = F true (.rref z l i' off) := fadV_rref (x := 0) (ag := false) (m := 1) (by kernel_rfl)
@[go_sem ↓] theorem vix_22 (h : 0 ≤ a ∧ a < len) : idxV Try.prog 22 (.sl o 1 off len) (.lit (.int i a)) F = F true (.ref o 1 (off + a.toNat) 0) := idxV_sl (et := 4) (by kernel_rfl) h
@[go_sem ↓ high] theorem vixn_22 (h : m < len) : idxV Try.prog 22 (.sl o 1 off len) (.lit (.int i (m : Int))) F = F true (.ref o 1 (off + m) 0) := idxV_sln (et := 4) (by kernel_rfl) h
@[go_sem ↓] theorem vixr_22 (h : 0 ≤ a ∧ a < l.length) : idxV Try.prog 22 (.row 1 l) (.lit (.int i a)) F = F true (.rref 1 l a.toNat 0) := idxV_row (et := 4) (by kernel_rfl) (by decide) h
@[go_sem ↓ high] theorem vixrn_22 (h : m < l.length) : idxV Try.prog 22 (.row 1 l) (.lit (.int i (m : Int))) F = F true (.rref 1 l m 0) := idxV_rown (et := 4) (by kernel_rfl) (by decide) h
@[go_sem ↓ high] theorem vixm_22 (h : 0 ≤ a ∧ a < L.length) : idxV Try.prog 22 (.row 1 (L.map f)) (.lit (.int i a)) F = F true (.rref 1 (L.map f) a.toNat 0) := idxV_rowm (et := 4) (by kernel_rfl) (by decide) h
@[go_sem ↓ high] theorem vixmn_22 (h : m < L.length) : idxV Try.prog 22 (.row 1 (L.map f)) (.lit (.int i (m : Int))) F = F true (.rref 1 (L.map f) m 0) := idxV_rowmn (et := 4) (by kernel_rfl) (by decide) h
@[go_sem ↓] theorem vfa_93_1 : fadV Try.prog 93 (.ref o z i' off) 1 F = F true (.ref o z i' (off + 1)) := fadV_ref (x := 1) (ag := false) (m := 1) (by kernel_rfl)
@[go_sem ↓] theorem vfr_93_1 : fadV Try.prog 93 (.rref z l i' off) 1 F = F true (.rref z l i' (off + 1)) := fadV_rref (x := 1) (ag := false) (m := 1) (by kernel_rfl)
@[go_sem ↓] theorem vst_4 : stV Try.prog 4 u v σ ks = clK v fun c => lenK c 1 (wrV u σ c ks) := stV_of (by kernel_rfl)
@[go_sem ↓] theorem vbs_22_0 {ps : List (Nat × V)} : bslV Try.prog 22 0 ps σ kv = prtK 1 0 ps fun l => lenK l 0 (newO σ (.row 1 l) fun o σ' => kv true (.sl o 1 0 0) σ') := bslV_of (et := 4) (by kernel_rfl) ⟨by kernel_rfl, by decide, by decide⟩
@[go_sem ↓] theorem vseq_22 : binV Try.prog .eql 22 (.row 1 l) (.lit (.slice none 0 0)) F = nilB .eql l.isEmpty F := binV_seq ⟨by kernel_rfl, by decide⟩
@[go_sem ↓] theorem vsleq_22 : binV Try.prog .eql 22 (.sl o 1 off len) (.lit (.slice none 0 0)) F = nilB .eql (decide (len = 0)) F := binV_leq0 (by kernel_rfl)
@[go_sem ↓] theorem vsneq_22 : binV Try.prog .eql 22 (.lit (.slice none 0 0)) (.lit (.slice none 0 0)) F = F true (.lit (.bool true)) := binV_neq0 (by kernel_rfl)
@[go_sem ↓] theorem vpeq_27 {x : Option Addr} : binV Try.prog .eql 27 (.lit (.pointer x)) (.lit (.pointer none)) F = F true (.lit (.bool (x.isNone))) := binV_peq (by kernel_rfl)
@[go_sem ↓] theorem vreq_27 {o z i off : Nat} : binV Try.prog .eql 27 (.ref o z i off) (.lit (.pointer none)) F = F true (.lit (.bool false)) := binV_req (by kernel_rfl)
@[go_sem ↓] theorem vld_113 : ldV Try.prog 113 u σ F = rdV u σ (some 5) F := ldV_of (by kernel_rfl)
@[go_sem ↓] theorem vst_113 : stV Try.prog 113 u v σ ks = clK v fun c => lenK c 5 (wrV u σ c ks) := stV_of (by kernel_rfl)
@[go_sem ↓] theorem vfa_117_0 : fadV Try.prog 117 (.ref o z i' off) 0 F = F true (.ref o z i' off) := fadV_ref (x := 0) (ag := false) (m := 1) (by kernel_rfl)
@[go_sem ↓] theorem vfr_117_0 : fadV Try.prog 117 (.rref z l i' off) 0 F = F true (.rref z l i' off) := fadV_rref (x := 0) (ag := false) (m := 1) (by kernel_rfl)
@[go_sem ↓] theorem vpl_117_0 {r : List (Nat × V)} {G : List V → Prop} : fillK (plOf Try.prog 117) ((0, u) :: r) us G = clK u fun c => lenK c 1 (wrK us 0 c fun l' => fillK (plOf Try.prog 117) r l' G) := fillK_step (by kernel_rfl)
@[go_sem ↓] theorem vpl_117_1 {r : List (Nat × V)} {G : List V → Prop} : fillK (plOf Try.prog 117) ((1, u) :: r) us G = clK u fun c => lenK c 1 (wrK us 1 c fun l' => fillK (plOf Try.prog 117) r l' G) := fillK_step (by kernel_rfl)
@[go_sem ↓] theorem vms_111 : mslV Try.prog 111 u v σ kv = mslU 2 16 [.int .u64 0, .int .i64 0] u v σ kv := mslV_of (et := 117) (by kernel_rfl) (by kernel_rfl) (by kernel_rfl)
@[go_sem ↓] theorem vmu_111 (h : 0 ≤ a ∧ a * 16 ≤ 140737488355328) : mslU 2 16 [.int .u64 0, .int .i64 0] (.lit (.int .i64 a)) (.lit (.int .i64 a)) σ kv = newO σ (.row 2 (zrow [.int .u64 0, .int .i64 0] a.toNat)) fun o σ' => kv true (.sl o 2 0 a.toNat) σ' := by
  rw [mslU_of (C := [.int .u64 0, .int .i64 0]) (z := 2) ⟨h.1, rfl, h.2, by omega, by decide⟩ rfl]
  simp [allOne, oneC]
@[go_sem ↓ high] theorem vmun_111 (h : m * 16 ≤ 140737488355328) : mslU 2 16 [.int .u64 0, .int .i64 0] (.lit (.int .i64 (m : Int))) (.lit (.int .i64 (m : Int))) σ kv = newO σ (.row 2 (zrow [.int .u64 0, .int .i64 0] m)) fun o σ' => kv true (.sl o 2 0 m) σ' := vmu_111 (by omega)
@[go_sem ↓ high] theorem vmk_u64_1 {P : Program} {t : TypeId} : binV P .and t (.lit (.int .u64 a)) (.lit (.int .u64 1)) F = F true (.lit (.int .u64 (a % 2))) := binV_mask 1 (by decide) (by decide) (by decide)
@[go_sem ↓] theorem vpeq_78 {x : Option Addr} : binV Try.prog .eql 78 (.lit (.pointer x)) (.lit (.pointer none)) F = F true (.lit (.bool (x.isNone))) := binV_peq (by kernel_rfl)
@[go_sem ↓] theorem vreq_78 {o z i off : Nat} : binV Try.prog .eql 78 (.ref o z i off) (.lit (.pointer none)) F = F true (.lit (.bool false)) := binV_req (by kernel_rfl)
@[go_sem ↓] theorem vfa_32_1 : fadV Try.prog 32 (.ref o z i' off) 1 F = F true (.ref o z i' (off + 1)) := fadV_ref (x := 1) (ag := false) (m := 1) (by kernel_rfl)
@[go_sem ↓] theorem vfr_32_1 : fadV Try.prog 32 (.rref z l i' off) 1 F = F true (.rref z l i' (off + 1)) := fadV_rref (x := 1) (ag := false) (m := 1) (by kernel_rfl)
@[go_sem ↓] theorem vbd_66 {ps : List (Nat × V)} : bldV Try.prog 66 ps F = allOne ([.int .u64 0, .int .i64 0, .int .i64 0] : List Value) (fillK (plOf Try.prog 66) ps (([.int .u64 0, .int .i64 0, .int .i64 0] : List Value).map V.lit) fun l => F true (.agg l)) := bldV_of (by kernel_rfl) (by kernel_rfl) (by kernel_rfl)
@[go_sem ↓] theorem vpl_66_0 {r : List (Nat × V)} {G : List V → Prop} : fillK (plOf Try.prog 66) ((0, u) :: r) us G = clK u fun c => lenK c 1 (wrK us 0 c fun l' => fillK (plOf Try.prog 66) r l' G) := fillK_step (by kernel_rfl)
@[go_sem ↓] theorem vpl_66_1 {r : List (Nat × V)} {G : List V → Prop} : fillK (plOf Try.prog 66) ((1, u) :: r) us G = clK u fun c => lenK c 1 (wrK us 1 c fun l' => fillK (plOf Try.prog 66) r l' G) := fillK_step (by kernel_rfl)
@[go_sem ↓] theorem vpl_66_2 {r : List (Nat × V)} {G : List V → Prop} : fillK (plOf Try.prog 66) ((2, u) :: r) us G = clK u fun c => lenK c 1 (wrK us 2 c fun l' => fillK (plOf Try.prog 66) r l' G) := fillK_step (by kernel_rfl)
@[go_sem ↓] theorem vst_66 : stV Try.prog 66 u v σ ks = clK v fun c => lenK c 3 (wrV u σ c ks) := stV_of (by kernel_rfl)
@[go_sem ↓] theorem vfa_32_0 : fadV Try.prog 32 (.ref o z i' off) 0 F = F true (.ref o z i' off) := fadV_ref (x := 0) (ag := false) (m := 1) (by kernel_rfl)
@[go_sem ↓] theorem vfr_32_0 : fadV Try.prog 32 (.rref z l i' off) 0 F = F true (.rref z l i' off) := fadV_rref (x := 0) (ag := false) (m := 1) (by kernel_rfl)
@[go_sem ↓] theorem vfa_32_2 : fadV Try.prog 32 (.ref o z i' off) 2 F = F true (.ref o z i' (off + 2)) := fadV_ref (x := 2) (ag := false) (m := 1) (by kernel_rfl)
@[go_sem ↓] theorem vfr_32_2 : fadV Try.prog 32 (.rref z l i' off) 2 F = F true (.rref z l i' (off + 2)) := fadV_rref (x := 2) (ag := false) (m := 1) (by kernel_rfl)
@[go_sem ↓] theorem val_32 : alcV Try.prog 32 σ kv = allOne ([.bool false, .int .i64 0, .int .i64 0] : List Value) (newO σ (.cells (([.bool false, .int .i64 0, .int .i64 0] : List Value).map V.lit)) fun o σ' => kv true (.ref o 0 0 0) σ') := alcV_of (by kernel_rfl)
@[go_sem ↓] theorem vst_32 : stV Try.prog 32 u v σ ks = clK v fun c => lenK c 3 (wrV u σ c ks) := stV_of (by kernel_rfl)
@[go_sem ↓] theorem val_66 : alcV Try.prog 66 σ kv = allOne ([.int .u64 0, .int .i64 0, .int .i64 0] : List Value) (newO σ (.cells (([.int .u64 0, .int .i64 0, .int .i64 0] : List Value).map V.lit)) fun o σ' => kv true (.ref o 0 0 0) σ') := alcV_of (by kernel_rfl)
@[go_sem ↓ high] theorem vshl_u64_u64_1 {P : Program} {t : TypeId} : binV P .shl t (.lit (.int .u64 a)) (.lit (.int .u64 1)) F = F true (.lit (.int .u64 (IntKind.wrap .u64 (a * 2)))) := by rw [binV_shl_u64 (by decide)]; rfl
@[go_sem ↓] theorem vld_56 : ldV Try.prog 56 u σ F = rdV u σ (some 64) F := ldV_of (by kernel_rfl)
@[go_sem ↓] theorem vst_56 : stV Try.prog 56 u v σ ks = clK v fun c => lenK c 64 (wrV u σ c ks) := stV_of (by kernel_rfl)
@[go_sem ↓] theorem vst_77 : stV Try.prog 77 u v σ ks = clK v fun c => lenK c 1 (wrV u σ c ks) := stV_of (by kernel_rfl)
@[go_sem ↓] theorem val_77 : alcV Try.prog 77 σ kv = allOne ([.nilFunc] : List Value) (newO σ (.cells (([.nilFunc] : List Value).map V.lit)) fun o σ' => kv true (.ref o 0 0 0) σ') := alcV_of (by kernel_rfl)
@[go_sem ↓] theorem val_56 : alcV Try.prog 56 σ kv = allOne ((List.replicate 64 (.int .i64 0)) : List Value) (newO σ (.cells (((List.replicate 64 (.int .i64 0)) : List Value).map V.lit)) fun o σ' => kv true (.ref o 0 0 0) σ') := alcV_of (by kernel_rfl)
@[go_sem ↓] theorem val_3 : alcV Try.prog 3 σ kv = allOne ([.int .i64 0] : List Value) (newO σ (.cells (([.int .i64 0] : List Value).map V.lit)) fun o σ' => kv true (.ref o 0 0 0) σ') := alcV_of (by kernel_rfl)
@[go_sem ↓] theorem vbs_22_4 {ps : List (Nat × V)} : bslV Try.prog 22 4 ps σ kv = prtK 1 0 ps fun l => lenK l 4 (newO σ (.row 1 l) fun o σ' => kv true (.sl o 1 0 4) σ') := bslV_of (et := 4) (by kernel_rfl) ⟨by kernel_rfl, by decide, by decide⟩
@[go_sem ↓] theorem vbd_32 {ps : List (Nat × V)} : bldV Try.prog 32 ps F = allOne ([.bool false, .int .i64 0, .int .i64 0] : List Value) (fillK (plOf Try.prog 32) ps (([.bool false, .int .i64 0, .int .i64 0] : List Value).map V.lit) fun l => F true (.agg l)) := bldV_of (by kernel_rfl) (by kernel_rfl) (by kernel_rfl)
@[go_sem ↓] theorem vpl_32_0 {r : List (Nat × V)} {G : List V → Prop} : fillK (plOf Try.prog 32) ((0, u) :: r) us G = clK u fun c => lenK c 1 (wrK us 0 c fun l' => fillK (plOf Try.prog 32) r l' G) := fillK_step (by kernel_rfl)
@[go_sem ↓] theorem vpl_32_1 {r : List (Nat × V)} {G : List V → Prop} : fillK (plOf Try.prog 32) ((1, u) :: r) us G = clK u fun c => lenK c 1 (wrK us 1 c fun l' => fillK (plOf Try.prog 32) r l' G) := fillK_step (by kernel_rfl)
@[go_sem ↓] theorem vpl_32_2 {r : List (Nat × V)} {G : List V → Prop} : fillK (plOf Try.prog 32) ((2, u) :: r) us G = clK u fun c => lenK c 1 (wrK us 2 c fun l' => fillK (plOf Try.prog 32) r l' G) := fillK_step (by kernel_rfl)
@[go_sem ↓] theorem vbd_95 {ps : List (Nat × V)} : bldV Try.prog 95 ps F = allOne ([.int .i64 0, .bool false, .slice none 0 0] : List Value) (fillK (plOf Try.prog 95) ps (([.int .i64 0, .bool false, .slice none 0 0] : List Value).map V.lit) fun l => F true (.agg l)) := bldV_of (by kernel_rfl) (by kernel_rfl) (by kernel_rfl)
@[go_sem ↓] theorem vpl_95_1 {r : List (Nat × V)} {G : List V → Prop} : fillK (plOf Try.prog 95) ((1, u) :: r) us G = clK u fun c => lenK c 1 (wrK us 2 c fun l' => fillK (plOf Try.prog 95) r l' G) := fillK_step (by kernel_rfl)
@[go_sem ↓] theorem vbs_22_3 {ps : List (Nat × V)} : bslV Try.prog 22 3 ps σ kv = prtK 1 0 ps fun l => lenK l 3 (newO σ (.row 1 l) fun o σ' => kv true (.sl o 1 0 3) σ') := bslV_of (et := 4) (by kernel_rfl) ⟨by kernel_rfl, by decide, by decide⟩
@[go_sem ↓] theorem vbs_22_2 {ps : List (Nat × V)} : bslV Try.prog 22 2 ps σ kv = prtK 1 0 ps fun l => lenK l 2 (newO σ (.row 1 l) fun o σ' => kv true (.sl o 1 0 2) σ') := bslV_of (et := 4) (by kernel_rfl) ⟨by kernel_rfl, by decide, by decide⟩
@[go_sem ↓ high] theorem vmk_i64_3 {P : Program} {t : TypeId} : binV P .and t (.lit (.int .i64 a)) (.lit (.int .i64 3)) F = F true (.lit (.int .i64 (a % 4))) := binV_mask 2 (by decide) (by decide) (by decide)
@[go_sem ↓] theorem vbd_76 {ps : List (Nat × V)} : bldV Try.prog 76 ps F = allOne ([.int .i64 0, .int .i64 0, .int .i64 0] : List Value) (fillK (plOf Try.prog 76) ps (([.int .i64 0, .int .i64 0, .int .i64 0] : List Value).map V.lit) fun l => F true (.agg l)) := bldV_of (by kernel_rfl) (by kernel_rfl) (by kernel_rfl)
@[go_sem ↓] theorem vpl_76_0 {r : List (Nat × V)} {G : List V → Prop} : fillK (plOf Try.prog 76) ((0, u) :: r) us G = clK u fun c => lenK c 1 (wrK us 0 c fun l' => fillK (plOf Try.prog 76) r l' G) := fillK_step (by kernel_rfl)
@[go_sem ↓] theorem vpl_76_1 {r : List (Nat × V)} {G : List V → Prop} : fillK (plOf Try.prog 76) ((1, u) :: r) us G = clK u fun c => lenK c 1 (wrK us 1 c fun l' => fillK (plOf Try.prog 76) r l' G) := fillK_step (by kernel_rfl)
@[go_sem ↓] theorem vpl_76_2 {r : List (Nat × V)} {G : List V → Prop} : fillK (plOf Try.prog 76) ((2, u) :: r) us G = clK u fun c => lenK c 1 (wrK us 2 c fun l' => fillK (plOf Try.prog 76) r l' G) := fillK_step (by kernel_rfl)
@[go_sem ↓] theorem val_76 : alcV Try.prog 76 σ kv = allOne ([.int .i64 0, .int .i64 0, .int .i64 0] : List Value) (newO σ (.cells (([.int .i64 0, .int .i64 0, .int .i64 0] : List Value).map V.lit)) fun o σ' => kv true (.ref o 0 0 0) σ') := alcV_of (by kernel_rfl)
@[go_sem ↓] theorem vst_76 : stV Try.prog 76 u v σ ks = clK v fun c => lenK c 3 (wrV u σ c ks) := stV_of (by kernel_rfl)
@[go_sem ↓] theorem vix_73 (h : 0 ≤ a ∧ a < len) : idxV Try.prog 73 (.sl o 1 off len) (.lit (.int i a)) F = F true (.ref o 1 (off + a.toNat) 0) := idxV_sl (et := 30) (by kernel_rfl) h
@[go_sem ↓ high] theorem vixn_73 (h : m < len) : idxV Try.prog 73 (.sl o 1 off len) (.lit (.int i (m : Int))) F = F true (.ref o 1 (off + m) 0) := idxV_sln (et := 30) (by kernel_rfl) h
@[go_sem ↓] theorem vixr_73 (h : 0 ≤ a ∧ a < l.length) : idxV Try.prog 73 (.row 1 l) (.lit (.int i a)) F = F true (.rref 1 l a.toNat 0) := idxV_row (et := 30) (by kernel_rfl) (by decide) h
@[go_sem ↓ high] theorem vixrn_73 (h : m < l.length) : idxV Try.prog 73 (.row 1 l) (.lit (.int i (m : Int))) F = F true (.rref 1 l m 0) := idxV_rown (et := 30) (by kernel_rfl) (by decide) h
@[go_sem ↓ high] theorem vixm_73 (h : 0 ≤ a ∧ a < L.length) : idxV Try.prog 73 (.row 1 (L.map f)) (.lit (.int i a)) F = F true (.rref 1 (L.map f) a.toNat 0) := idxV_rowm (et := 30) (by kernel_rfl) (by decide) h
@[go_sem ↓ high] theorem vixmn_73 (h : m < L.length) : idxV Try.prog 73 (.row 1 (L.map f)) (.lit (.int i (m : Int))) F = F true (.rref 1 (L.map f) m 0) := idxV_rowmn (et := 30) (by kernel_rfl) (by decide) h
@[go_sem ↓] theorem vld_30 : ldV Try.prog 30 u σ F = rdV u σ (none) F := ldV_of (by kernel_rfl)
@[go_sem ↓] theorem vbs_73_3 {ps : List (Nat × V)} : bslV Try.prog 73 3 ps σ kv = prtK 1 0 ps fun l => lenK l 3 (newO σ (.row 1 l) fun o σ' => kv true (.sl o 1 0 3) σ') := bslV_of (et := 30) (by kernel_rfl) ⟨by kernel_rfl, by decide, by decide⟩
@[go_sem ↓] theorem vln_73 : bltV Try.prog e .len [73] [.row m l] σ kv = lenV (.row m l) fun τ v => kv τ v σ := lenB_row (by kernel_rfl)
@[go_sem ↓] theorem vlnx_73 : bltV Try.prog e .len [73] [.xrow m l] σ kv = lenV (.xrow m l) fun τ v => kv τ v σ := lenB_xrow (by kernel_rfl)
@[go_sem ↓] theorem vlns_73 : bltV Try.prog e .len [73] [.sl o m off len] σ kv = lenV (.sl o m off len) fun τ v => kv τ v σ := lenB_sl (by kernel_rfl)
@[go_sem ↓] theorem vlnn_73 : bltV Try.prog e .len [73] [.lit (.slice none 0 0)] σ kv = lenV (.lit (.slice none 0 0)) fun τ v => kv τ v σ := lenB_nil (by kernel_rfl)
@[go_sem ↓ high] theorem vmk_i64_1023 {P : Program} {t : TypeId} : binV P .and t (.lit (.int .i64 a)) (.lit (.int .i64 1023)) F = F true (.lit (.int .i64 (a % 1024))) := binV_mask 10 (by decide) (by decide) (by decide)
@[go_sem ↓ high] theorem vmk_i64_31 {P : Program} {t : TypeId} : binV P .and t (.lit (.int .i64 a)) (.lit (.int .i64 31)) F = F true (.lit (.int .i64 (a % 32))) := binV_mask 5 (by decide) (by decide) (by decide)
@[go_sem ↓] theorem vfa_66_0 : fadV Try.prog 66 (.ref o z i' off) 0 F = F true (.ref o z i' off) := fadV_ref (x := 0) (ag := false) (m := 1) (by kernel_rfl)
@[go_sem ↓] theorem vfr_66_0 : fadV Try.prog 66 (.rref z l i' off) 0 F = F true (.rref z l i' off) := fadV_rref (x := 0) (ag := false) (m := 1) (by kernel_rfl)
@[go_sem ↓] theorem vfa_66_2 : fadV Try.prog 66 (.ref o z i' off) 2 F = F true (.ref o z i' (off + 2)) := fadV_ref (x := 2) (ag := false) (m := 1) (by kernel_rfl)
@[go_sem ↓] theorem vfr_66_2 : fadV Try.prog 66 (.rref z l i' off) 2 F = F true (.rref z l i' (off + 2)) := fadV_rref (x := 2) (ag := false) (m := 1) (by kernel_rfl)
@[go_sem ↓] theorem vfa_66_1 : fadV Try.prog 66 (.ref o z i' off) 1 F = F true (.ref o z i' (off + 1)) := fadV_ref (x := 1) (ag := false) (m := 1) (by kernel_rfl)
@[go_sem ↓] theorem vfr_66_1 : fadV Try.prog 66 (.rref z l i' off) 1 F = F true (.rref z l i' (off + 1)) := fadV_rref (x := 1) (ag := false) (m := 1) (by kernel_rfl)
@[go_sem ↓] theorem vix_24 (h : 0 ≤ a ∧ a < len) : idxV Try.prog 24 (.sl o 1 off len) (.lit (.int i a)) F = F true (.ref o 1 (off + a.toNat) 0) := idxV_sl (et := 3) (by kernel_rfl) h
@[go_sem ↓ high] theorem vixn_24 (h : m < len) : idxV Try.prog 24 (.sl o 1 off len) (.lit (.int i (m : Int))) F = F true (.ref o 1 (off + m) 0) := idxV_sln (et := 3) (by kernel_rfl) h
@[go_sem ↓] theorem vixr_24 (h : 0 ≤ a ∧ a < l.length) : idxV Try.prog 24 (.row 1 l) (.lit (.int i a)) F = F true (.rref 1 l a.toNat 0) := idxV_row (et := 3) (by kernel_rfl) (by decide) h
@[go_sem ↓ high] theorem vixrn_24 (h : m < l.length) : idxV Try.prog 24 (.row 1 l) (.lit (.int i (m : Int))) F = F true (.rref 1 l m 0) := idxV_rown (et := 3) (by kernel_rfl) (by decide) h
@[go_sem ↓ high] theorem vixm_24 (h : 0 ≤ a ∧ a < L.length) : idxV Try.prog 24 (.row 1 (L.map f)) (.lit (.int i a)) F = F true (.rref 1 (L.map f) a.toNat 0) := idxV_rowm (et := 3) (by kernel_rfl) (by decide) h
@[go_sem ↓ high] theorem vixmn_24 (h : m < L.length) : idxV Try.prog 24 (.row 1 (L.map f)) (.lit (.int i (m : Int))) F = F true (.rref 1 (L.map f) m 0) := idxV_rowmn (et := 3) (by kernel_rfl) (by decide) h
@[go_sem ↓] theorem vln_24 : bltV Try.prog e .len [24] [.row m l] σ kv = lenV (.row m l) fun τ v => kv τ v σ := lenB_row (by kernel_rfl)
@[go_sem ↓] theorem vlnx_24 : bltV Try.prog e .len [24] [.xrow m l] σ kv = lenV (.xrow m l) fun τ v => kv τ v σ := lenB_xrow (by kernel_rfl)
@[go_sem ↓] theorem vlns_24 : bltV Try.prog e .len [24] [.sl o m off len] σ kv = lenV (.sl o m off len) fun τ v => kv τ v σ := lenB_sl (by kernel_rfl)
@[go_sem ↓] theorem vlnn_24 : bltV Try.prog e .len [24] [.lit (.slice none 0 0)] σ kv = lenV (.lit (.slice none 0 0)) fun τ v => kv τ v σ := lenB_nil (by kernel_rfl)
@[go_sem ↓] theorem via_23 (h : 0 ≤ a ∧ a < 3) : idxV Try.prog 23 (.ref o 0 0 off) (.lit (.int i a)) F = F true (.ref o 1 a.toNat off) := idxV_ar (et := 3) (by kernel_rfl) h
@[go_sem ↓ high] theorem vian_23 (h : m < 3) : idxV Try.prog 23 (.ref o 0 0 off) (.lit (.int i (m : Int))) F = F true (.ref o 1 m off) := idxV_arn (et := 3) (by kernel_rfl) h
@[go_sem ↓ high] theorem vmk_i64_4095 {P : Program} {t : TypeId} : binV P .and t (.lit (.int .i64 a)) (.lit (.int .i64 4095)) F = F true (.lit (.int .i64 (a % 4096))) := binV_mask 12 (by decide) (by decide) (by decide)
@[go_sem ↓ high] theorem vmk_i64_255 {P : Program} {t : TypeId} : binV P .and t (.lit (.int .i64 a)) (.lit (.int .i64 255)) F = F true (.lit (.int .i64 (a % 256))) := binV_mask 8 (by decide) (by decide) (by decide)
@[go_sem ↓ high] theorem vshl_i64_u64_9 {P : Program} {t : TypeId} : binV P .shl t (.lit (.int .i64 a)) (.lit (.int .u64 9)) F = F true (.lit (.int .i64 (IntKind.wrap .i64 (a * 512)))) := by rw [binV_shl_i64 (by decide)]; rfl
@[go_sem ↓] theorem viv_56 (h : 0 ≤ a ∧ a < 64) (hl : us.length = 64) : ixvV Try.prog 56 (.agg us) (.lit (.int i a)) F = atK us a.toNat fun x => F true x := ixvV_of (et := 3) (by kernel_rfl) (by kernel_rfl) hl h
@[go_sem ↓ high] theorem vivn_56 (h : m < 64) (hl : us.length = 64) : ixvV Try.prog 56 (.agg us) (.lit (.int i (m : Int))) F = atK us m fun x => F true x := ixvV_n (et := 3) (by kernel_rfl) (by kernel_rfl) hl h
@[go_sem ↓] theorem vld_32 : ldV Try.prog 32 u σ F = rdV u σ (some 3) F := ldV_of (by kernel_rfl)
@[go_sem ↓] theorem vld_66 : ldV Try.prog 66 u σ F = rdV u σ (some 3) F := ldV_of (by kernel_rfl)
end
end Go.Proofs.Ytfemchdaoihogaa
