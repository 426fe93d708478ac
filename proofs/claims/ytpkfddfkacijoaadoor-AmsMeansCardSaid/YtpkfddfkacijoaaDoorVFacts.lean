import Derived.Test.YtpkfddfkacijoaaDoorVl
import Derived.Test.YtpkfddfkacijoaaDoorProg
import Derived.KernelRfl
namespace Go.Proofs.YtpkfddfkacijoaaDoor
open Go.Eng Go.Vx
set_option linter.unusedVariables false
set_option linter.unusedSimpArgs false
set_option maxRecDepth 100000
section
variable {u v : V} {σ : St} {F : FV} {kv : KV} {ks : KS} {e : Bool} {i : IntKind} {a : Int} {o z i' off len m : Nat} {l : List (List PV)} {us : List V} {β : Type} {L : List β} {f : β → List PV} {lo hi : Option V}
def pl2 : Plans := fun id => match id with
  | _ => []
def pl3 : Plans := fun id => match id with
  | 23 => [(0, (0, 0)), (1, (1, 0)), (2, (2, 0)), (3, (5, 0)), (4, (5, 0)), (5, (5, 0)), (6, (2, 0))]
  | 26 => [(0, (0, 0)), (3, (4, 0)), (1, (1, 0)), (2, (2, 0)), (3, (3, 0)), (4, (2, 0))]
  | 27 => [(0, (0, 0)), (2, (0, 0)), (3, (0, 0)), (4, (5, 0)), (5, (0, 0)), (6, (5, 0)), (9, (4, 0)), (1, (1, 0)), (7, (2, 0)), (8, (2, 0)), (9, (3, 0)), (10, (2, 0))]
  | 28 => [(0, (0, 0)), (1, (0, 0)), (2, (2, 0)), (3, (5, 0)), (4, (5, 0)), (5, (0, 0)), (6, (0, 0)), (7, (0, 0)), (8, (1, 0)), (9, (2, 0)), (10, (0, 0)), (11, (5, 0)), (12, (5, 0)), (13, (0, 0)), (14, (0, 0)), (15, (0, 0)), (16, (0, 0)), (17, (0, 0)), (18, (0, 0)), (19, (5, 0)), (20, (5, 0))]
  | _ => []
@[go_sem ↓] theorem pl3_23 : pl3 23 = [(0, (0, 0)), (1, (1, 0)), (2, (2, 0)), (3, (5, 0)), (4, (5, 0)), (5, (5, 0)), (6, (2, 0))] := (rfl)
@[go_sem ↓] theorem pl3_26 : pl3 26 = [(0, (0, 0)), (3, (4, 0)), (1, (1, 0)), (2, (2, 0)), (3, (3, 0)), (4, (2, 0))] := (rfl)
@[go_sem ↓] theorem pl3_27 : pl3 27 = [(0, (0, 0)), (2, (0, 0)), (3, (0, 0)), (4, (5, 0)), (5, (0, 0)), (6, (5, 0)), (9, (4, 0)), (1, (1, 0)), (7, (2, 0)), (8, (2, 0)), (9, (3, 0)), (10, (2, 0))] := (rfl)
@[go_sem ↓] theorem pl3_28 : pl3 28 = [(0, (0, 0)), (1, (0, 0)), (2, (2, 0)), (3, (5, 0)), (4, (5, 0)), (5, (0, 0)), (6, (0, 0)), (7, (0, 0)), (8, (1, 0)), (9, (2, 0)), (10, (0, 0)), (11, (5, 0)), (12, (5, 0)), (13, (0, 0)), (14, (0, 0)), (15, (0, 0)), (16, (0, 0)), (17, (0, 0)), (18, (0, 0)), (19, (5, 0)), (20, (5, 0))] := (rfl)
def pl4 : Plans := fun id => match id with
  | _ => []
def pl5 : Plans := fun id => match id with
  | _ => []
def pl6 : Plans := fun id => match id with
  | _ => []
def pl7 : Plans := fun id => match id with
  | 10 => [(1, (5, 0)), (2, (5, 0)), (4, (5, 0)), (0, (0, 0)), (3, (0, 0)), (5, (0, 0)), (6, (5, 0)), (7, (1, 0)), (8, (1, 0)), (9, (2, 0))]
  | 11 => [(1, (5, 0)), (2, (5, 0)), (4, (5, 0)), (0, (0, 0)), (3, (0, 0)), (5, (0, 0)), (6, (5, 0)), (7, (1, 0)), (8, (1, 0)), (9, (2, 0))]
  | 14 => [(2, (5, 0)), (0, (0, 0)), (1, (0, 0)), (3, (1, 0)), (4, (1, 0)), (5, (2, 0)), (6, (2, 0))]
  | _ => []
@[go_sem ↓] theorem pl7_10 : pl7 10 = [(1, (5, 0)), (2, (5, 0)), (4, (5, 0)), (0, (0, 0)), (3, (0, 0)), (5, (0, 0)), (6, (5, 0)), (7, (1, 0)), (8, (1, 0)), (9, (2, 0))] := (rfl)
@[go_sem ↓] theorem pl7_11 : pl7 11 = [(1, (5, 0)), (2, (5, 0)), (4, (5, 0)), (0, (0, 0)), (3, (0, 0)), (5, (0, 0)), (6, (5, 0)), (7, (1, 0)), (8, (1, 0)), (9, (2, 0))] := (rfl)
@[go_sem ↓] theorem pl7_14 : pl7 14 = [(2, (5, 0)), (0, (0, 0)), (1, (0, 0)), (3, (1, 0)), (4, (1, 0)), (5, (2, 0)), (6, (2, 0))] := (rfl)
def pl8 : Plans := fun id => match id with
  | _ => []
def pl9 : Plans := fun id => match id with
  | 4 => [(1, (5, 0)), (0, (0, 0)), (2, (0, 0)), (3, (1, 0)), (4, (5, 0)), (5, (1, 0)), (6, (5, 0)), (7, (5, 0))]
  | _ => []
@[go_sem ↓] theorem pl9_4 : pl9 4 = [(1, (5, 0)), (0, (0, 0)), (2, (0, 0)), (3, (1, 0)), (4, (5, 0)), (5, (1, 0)), (6, (5, 0)), (7, (5, 0))] := (rfl)
def pl10 : Plans := fun id => match id with
  | _ => []
def pl11 : Plans := fun id => match id with
  | 4 => [(0, (5, 0)), (1, (5, 0)), (2, (5, 0)), (4, (5, 0)), (8, (5, 0)), (9, (5, 0)), (10, (5, 0)), (12, (5, 0)), (3, (0, 0)), (5, (0, 0)), (11, (0, 0)), (13, (0, 0)), (14, (5, 0)), (18, (4, 0)), (6, (1, 0)), (7, (1, 0)), (15, (2, 0)), (16, (2, 0)), (17, (2, 0)), (18, (3, 0)), (19, (2, 0))]
  | 6 => [(0, (0, 0)), (1, (1, 0)), (2, (2, 0)), (3, (5, 0)), (4, (5, 0)), (5, (5, 0)), (6, (2, 0))]
  | 7 => [(0, (5, 0)), (1, (5, 0)), (2, (5, 0)), (3, (0, 0)), (5, (0, 0)), (4, (1, 0)), (6, (2, 0)), (7, (2, 0)), (8, (5, 0))]
  | _ => []
@[go_sem ↓] theorem pl11_4 : pl11 4 = [(0, (5, 0)), (1, (5, 0)), (2, (5, 0)), (4, (5, 0)), (8, (5, 0)), (9, (5, 0)), (10, (5, 0)), (12, (5, 0)), (3, (0, 0)), (5, (0, 0)), (11, (0, 0)), (13, (0, 0)), (14, (5, 0)), (18, (4, 0)), (6, (1, 0)), (7, (1, 0)), (15, (2, 0)), (16, (2, 0)), (17, (2, 0)), (18, (3, 0)), (19, (2, 0))] := (rfl)
@[go_sem ↓] theorem pl11_6 : pl11 6 = [(0, (0, 0)), (1, (1, 0)), (2, (2, 0)), (3, (5, 0)), (4, (5, 0)), (5, (5, 0)), (6, (2, 0))] := (rfl)
@[go_sem ↓] theorem pl11_7 : pl11 7 = [(0, (5, 0)), (1, (5, 0)), (2, (5, 0)), (3, (0, 0)), (5, (0, 0)), (4, (1, 0)), (6, (2, 0)), (7, (2, 0)), (8, (5, 0))] := (rfl)
def pl12 : Plans := fun id => match id with
  | 1 => [(0, (5, 0)), (5, (5, 0)), (1, (0, 0)), (2, (0, 0)), (6, (0, 0)), (7, (0, 0)), (11, (0, 0)), (13, (0, 0)), (3, (1, 0)), (4, (1, 0)), (8, (1, 0)), (9, (1, 0)), (10, (1, 0)), (12, (1, 0)), (14, (2, 0)), (15, (2, 0)), (16, (2, 0)), (17, (2, 0))]
  | _ => []
@[go_sem ↓] theorem pl12_1 : pl12 1 = [(0, (5, 0)), (5, (5, 0)), (1, (0, 0)), (2, (0, 0)), (6, (0, 0)), (7, (0, 0)), (11, (0, 0)), (13, (0, 0)), (3, (1, 0)), (4, (1, 0)), (8, (1, 0)), (9, (1, 0)), (10, (1, 0)), (12, (1, 0)), (14, (2, 0)), (15, (2, 0)), (16, (2, 0)), (17, (2, 0))] := (rfl)
def pl13 : Plans := fun id => match id with
  | 1 => [(0, (5, 0)), (2, (5, 0)), (1, (0, 0)), (3, (0, 0)), (5, (0, 0)), (7, (0, 0)), (4, (1, 0)), (6, (1, 0)), (8, (2, 0)), (9, (2, 0)), (10, (2, 0)), (11, (2, 0))]
  | _ => []
@[go_sem ↓] theorem pl13_1 : pl13 1 = [(0, (5, 0)), (2, (5, 0)), (1, (0, 0)), (3, (0, 0)), (5, (0, 0)), (7, (0, 0)), (4, (1, 0)), (6, (1, 0)), (8, (2, 0)), (9, (2, 0)), (10, (2, 0)), (11, (2, 0))] := (rfl)
def pl14 : Plans := fun id => match id with
  | _ => []
def pl15 : Plans := fun id => match id with
  | 6 => [(0, (5, 0)), (1, (5, 0)), (4, (5, 0)), (5, (0, 0)), (2, (4, 0)), (10, (4, 0)), (2, (3, 0)), (3, (1, 0)), (6, (2, 0)), (7, (5, 0)), (8, (5, 0)), (9, (5, 0)), (10, (3, 0)), (11, (2, 0)), (12, (5, 0))]
  | _ => []
@[go_sem ↓] theorem pl15_6 : pl15 6 = [(0, (5, 0)), (1, (5, 0)), (4, (5, 0)), (5, (0, 0)), (2, (4, 0)), (10, (4, 0)), (2, (3, 0)), (3, (1, 0)), (6, (2, 0)), (7, (5, 0)), (8, (5, 0)), (9, (5, 0)), (10, (3, 0)), (11, (2, 0)), (12, (5, 0))] := (rfl)
def pl16 : Plans := fun id => match id with
  | 1 => [(0, (5, 0)), (5, (5, 0)), (1, (0, 0)), (2, (0, 0)), (6, (0, 0)), (7, (0, 0)), (3, (1, 0)), (4, (1, 0)), (8, (1, 0)), (9, (2, 0)), (10, (2, 0)), (11, (5, 0)), (12, (5, 0)), (13, (2, 0)), (14, (5, 0))]
  | _ => []
@[go_sem ↓] theorem pl16_1 : pl16 1 = [(0, (5, 0)), (5, (5, 0)), (1, (0, 0)), (2, (0, 0)), (6, (0, 0)), (7, (0, 0)), (3, (1, 0)), (4, (1, 0)), (8, (1, 0)), (9, (2, 0)), (10, (2, 0)), (11, (5, 0)), (12, (5, 0)), (13, (2, 0)), (14, (5, 0))] := (rfl)
def pl17 : Plans := fun id => match id with
  | 3 => [(1, (5, 0)), (5, (5, 0)), (6, (5, 0)), (0, (0, 0)), (4, (0, 0)), (10, (4, 0)), (2, (1, 0)), (3, (1, 0)), (7, (2, 0)), (8, (2, 0)), (9, (2, 0)), (10, (3, 0)), (11, (2, 0))]
  | 5 => [(0, (0, 0)), (1, (1, 0)), (2, (2, 0)), (3, (5, 0)), (4, (5, 0)), (5, (5, 0)), (6, (2, 0))]
  | 6 => [(0, (5, 0)), (2, (0, 0)), (1, (1, 0)), (3, (2, 0)), (4, (2, 0))]
  | _ => []
@[go_sem ↓] theorem pl17_3 : pl17 3 = [(1, (5, 0)), (5, (5, 0)), (6, (5, 0)), (0, (0, 0)), (4, (0, 0)), (10, (4, 0)), (2, (1, 0)), (3, (1, 0)), (7, (2, 0)), (8, (2, 0)), (9, (2, 0)), (10, (3, 0)), (11, (2, 0))] := (rfl)
@[go_sem ↓] theorem pl17_5 : pl17 5 = [(0, (0, 0)), (1, (1, 0)), (2, (2, 0)), (3, (5, 0)), (4, (5, 0)), (5, (5, 0)), (6, (2, 0))] := (rfl)
@[go_sem ↓] theorem pl17_6 : pl17 6 = [(0, (5, 0)), (2, (0, 0)), (1, (1, 0)), (3, (2, 0)), (4, (2, 0))] := (rfl)
def pl18 : Plans := fun id => match id with
  | 1 => [(0, (5, 0)), (5, (5, 0)), (1, (0, 0)), (2, (0, 0)), (6, (0, 0)), (7, (0, 0)), (3, (1, 0)), (4, (1, 0)), (8, (1, 0)), (9, (2, 0)), (10, (2, 0)), (11, (5, 0))]
  | _ => []
@[go_sem ↓] theorem pl18_1 : pl18 1 = [(0, (5, 0)), (5, (5, 0)), (1, (0, 0)), (2, (0, 0)), (6, (0, 0)), (7, (0, 0)), (3, (1, 0)), (4, (1, 0)), (8, (1, 0)), (9, (2, 0)), (10, (2, 0)), (11, (5, 0))] := (rfl)
def pl19 : Plans := fun id => match id with
  | _ => []
def pl20 : Plans := fun id => match id with
  | 3 => [(0, (5, 0)), (1, (0, 0)), (4, (0, 0)), (2, (1, 0)), (3, (5, 0)), (5, (2, 0)), (6, (2, 0)), (7, (5, 0)), (8, (5, 0))]
  | _ => []
@[go_sem ↓] theorem pl20_3 : pl20 3 = [(0, (5, 0)), (1, (0, 0)), (4, (0, 0)), (2, (1, 0)), (3, (5, 0)), (5, (2, 0)), (6, (2, 0)), (7, (5, 0)), (8, (5, 0))] := (rfl)
def pl21 : Plans := fun id => match id with
  | _ => []
def pl22 : Plans := fun id => match id with
  | _ => []
def pl23 : Plans := fun id => match id with
  | _ => []
def pl24 : Plans := fun id => match id with
  | 1 => [(0, (5, 0)), (1, (5, 0)), (2, (5, 0)), (4, (5, 0)), (5, (5, 0)), (6, (5, 0)), (9, (5, 0)), (10, (5, 0)), (11, (5, 0)), (3, (0, 0)), (7, (0, 0)), (12, (0, 0)), (8, (1, 0)), (13, (5, 0)), (14, (1, 0)), (15, (5, 0))]
  | _ => []
@[go_sem ↓] theorem pl24_1 : pl24 1 = [(0, (5, 0)), (1, (5, 0)), (2, (5, 0)), (4, (5, 0)), (5, (5, 0)), (6, (5, 0)), (9, (5, 0)), (10, (5, 0)), (11, (5, 0)), (3, (0, 0)), (7, (0, 0)), (12, (0, 0)), (8, (1, 0)), (13, (5, 0)), (14, (1, 0)), (15, (5, 0))] := (rfl)
def pl25 : Plans := fun id => match id with
  | _ => []
def pl26 : Plans := fun id => match id with
  | 1 => [(1, (5, 0)), (4, (5, 0)), (0, (0, 0)), (2, (0, 0)), (5, (0, 0)), (3, (1, 0)), (6, (5, 0)), (7, (2, 0)), (8, (2, 0))]
  | _ => []
@[go_sem ↓] theorem pl26_1 : pl26 1 = [(1, (5, 0)), (4, (5, 0)), (0, (0, 0)), (2, (0, 0)), (5, (0, 0)), (3, (1, 0)), (6, (5, 0)), (7, (2, 0)), (8, (2, 0))] := (rfl)
def pl27 : Plans := fun id => match id with
  | 1 => [(0, (0, 0)), (2, (0, 0)), (4, (4, 0)), (1, (1, 0)), (3, (2, 0)), (4, (3, 0)), (5, (2, 0))]
  | 2 => [(0, (0, 0)), (2, (0, 0)), (8, (4, 0)), (9, (4, 0)), (1, (1, 0)), (3, (2, 0)), (4, (5, 0)), (5, (5, 0)), (6, (5, 0)), (7, (5, 0)), (8, (3, 0)), (9, (3, 0)), (10, (2, 0)), (11, (2, 0)), (12, (5, 0))]
  | 4 => [(0, (0, 0)), (1, (4, 0)), (7, (4, 0)), (1, (3, 0)), (2, (1, 0)), (3, (2, 0)), (4, (5, 0)), (5, (5, 0)), (6, (5, 0)), (7, (3, 0)), (8, (2, 0)), (9, (5, 0))]
  | 5 => [(0, (0, 0)), (2, (0, 0)), (4, (0, 0)), (1, (1, 0)), (3, (1, 0)), (5, (5, 0)), (6, (2, 0))]
  | _ => []
@[go_sem ↓] theorem pl27_1 : pl27 1 = [(0, (0, 0)), (2, (0, 0)), (4, (4, 0)), (1, (1, 0)), (3, (2, 0)), (4, (3, 0)), (5, (2, 0))] := (rfl)
@[go_sem ↓] theorem pl27_2 : pl27 2 = [(0, (0, 0)), (2, (0, 0)), (8, (4, 0)), (9, (4, 0)), (1, (1, 0)), (3, (2, 0)), (4, (5, 0)), (5, (5, 0)), (6, (5, 0)), (7, (5, 0)), (8, (3, 0)), (9, (3, 0)), (10, (2, 0)), (11, (2, 0)), (12, (5, 0))] := (rfl)
@[go_sem ↓] theorem pl27_4 : pl27 4 = [(0, (0, 0)), (1, (4, 0)), (7, (4, 0)), (1, (3, 0)), (2, (1, 0)), (3, (2, 0)), (4, (5, 0)), (5, (5, 0)), (6, (5, 0)), (7, (3, 0)), (8, (2, 0)), (9, (5, 0))] := (rfl)
@[go_sem ↓] theorem pl27_5 : pl27 5 = [(0, (0, 0)), (2, (0, 0)), (4, (0, 0)), (1, (1, 0)), (3, (1, 0)), (5, (5, 0)), (6, (2, 0))] := (rfl)
def pl28 : Plans := fun id => match id with
  | 2 => [(0, (5, 0)), (2, (5, 0)), (4, (5, 0)), (1, (0, 0)), (3, (0, 0)), (5, (0, 0)), (6, (1, 0)), (7, (2, 0)), (8, (2, 0))]
  | _ => []
@[go_sem ↓] theorem pl28_2 : pl28 2 = [(0, (5, 0)), (2, (5, 0)), (4, (5, 0)), (1, (0, 0)), (3, (0, 0)), (5, (0, 0)), (6, (1, 0)), (7, (2, 0)), (8, (2, 0))] := (rfl)
def pl29 : Plans := fun id => match id with
  | 1 => [(0, (5, 0)), (2, (5, 0)), (5, (5, 0)), (7, (5, 0)), (1, (0, 0)), (3, (0, 0)), (4, (5, 0)), (6, (0, 0)), (8, (0, 0)), (9, (1, 0)), (10, (2, 0)), (11, (2, 0))]
  | _ => []
@[go_sem ↓] theorem pl29_1 : pl29 1 = [(0, (5, 0)), (2, (5, 0)), (5, (5, 0)), (7, (5, 0)), (1, (0, 0)), (3, (0, 0)), (4, (5, 0)), (6, (0, 0)), (8, (0, 0)), (9, (1, 0)), (10, (2, 0)), (11, (2, 0))] := (rfl)
def pl30 : Plans := fun id => match id with
  | _ => []
def pl31 : Plans := fun id => match id with
  | _ => []
def pl32 : Plans := fun id => match id with
  | 1 => [(0, (5, 0)), (1, (0, 0)), (2, (1, 0)), (3, (1, 0)), (4, (2, 0)), (5, (2, 0))]
  | _ => []
@[go_sem ↓] theorem pl32_1 : pl32 1 = [(0, (5, 0)), (1, (0, 0)), (2, (1, 0)), (3, (1, 0)), (4, (2, 0)), (5, (2, 0))] := (rfl)
def pl33 : Plans := fun id => match id with
  | 1 => [(1, (5, 0)), (2, (5, 0)), (0, (0, 0)), (3, (0, 0)), (4, (1, 0)), (5, (0, 0)), (6, (5, 0)), (7, (5, 0)), (8, (2, 0))]
  | _ => []
@[go_sem ↓] theorem pl33_1 : pl33 1 = [(1, (5, 0)), (2, (5, 0)), (0, (0, 0)), (3, (0, 0)), (4, (1, 0)), (5, (0, 0)), (6, (5, 0)), (7, (5, 0)), (8, (2, 0))] := (rfl)
def pl34 : Plans := fun id => match id with
  | _ => []
def pl35 : Plans := fun id => match id with
  | _ => []
def pl36 : Plans := fun id => match id with
  | _ => []
def pl37 : Plans := fun id => match id with
  | 3 => [(0, (0, 0)), (2, (0, 0)), (5, (0, 0)), (8, (0, 0)), (1, (1, 0)), (3, (1, 0)), (4, (5, 0)), (6, (1, 0)), (7, (1, 0)), (9, (2, 0)), (10, (2, 0)), (11, (2, 0)), (12, (5, 0))]
  | _ => []
@[go_sem ↓] theorem pl37_3 : pl37 3 = [(0, (0, 0)), (2, (0, 0)), (5, (0, 0)), (8, (0, 0)), (1, (1, 0)), (3, (1, 0)), (4, (5, 0)), (6, (1, 0)), (7, (1, 0)), (9, (2, 0)), (10, (2, 0)), (11, (2, 0)), (12, (5, 0))] := (rfl)
def pl38 : Plans := fun id => match id with
  | _ => []
def pl39 : Plans := fun id => match id with
  | _ => []
def pl40 : Plans := fun id => match id with
  | _ => []
def pl41 : Plans := fun id => match id with
  | _ => []
def pl42 : Plans := fun id => match id with
  | _ => []
def pl43 : Plans := fun id => match id with
  | _ => []
def pl44 : Plans := fun id => match id with
  | 1 => [(0, (5, 0)), (1, (5, 0)), (2, (5, 0)), (3, (5, 0)), (4, (0, 0)), (5, (5, 0)), (6, (0, 0)), (7, (0, 0)), (8, (0, 0)), (9, (0, 0)), (10, (0, 0)), (11, (0, 0)), (12, (0, 0)), (13, (0, 0)), (14, (0, 0)), (15, (0, 0)), (16, (0, 0)), (17, (5, 0))]
  | 5 => [(0, (5, 0)), (1, (5, 0)), (2, (5, 0)), (4, (5, 0)), (5, (5, 0)), (6, (5, 0)), (7, (5, 0)), (3, (0, 0)), (8, (0, 0)), (9, (5, 0)), (10, (5, 0)), (11, (0, 0)), (12, (5, 0)), (13, (5, 0))]
  | _ => []
@[go_sem ↓] theorem pl44_1 : pl44 1 = [(0, (5, 0)), (1, (5, 0)), (2, (5, 0)), (3, (5, 0)), (4, (0, 0)), (5, (5, 0)), (6, (0, 0)), (7, (0, 0)), (8, (0, 0)), (9, (0, 0)), (10, (0, 0)), (11, (0, 0)), (12, (0, 0)), (13, (0, 0)), (14, (0, 0)), (15, (0, 0)), (16, (0, 0)), (17, (5, 0))] := (rfl)
@[go_sem ↓] theorem pl44_5 : pl44 5 = [(0, (5, 0)), (1, (5, 0)), (2, (5, 0)), (4, (5, 0)), (5, (5, 0)), (6, (5, 0)), (7, (5, 0)), (3, (0, 0)), (8, (0, 0)), (9, (5, 0)), (10, (5, 0)), (11, (0, 0)), (12, (5, 0)), (13, (5, 0))] := (rfl)
def pl45 : Plans := fun id => match id with
  | _ => []
def pl46 : Plans := fun id => match id with
  | 3 => [(0, (0, 0)), (1, (8, 2)), (3, (2, 0))]
  | _ => []
@[go_sem ↓] theorem pl46_3 : pl46 3 = [(0, (0, 0)), (1, (8, 2)), (3, (2, 0))] := (rfl)
def pl47 : Plans := fun id => match id with
  | _ => []
def pl48 : Plans := fun id => match id with
  | 6 => [(0, (5, 0)), (2, (5, 0)), (1, (0, 0)), (3, (0, 0)), (4, (5, 0)), (5, (0, 0)), (6, (2, 0)), (7, (5, 0)), (8, (5, 0)), (9, (5, 0)), (10, (5, 0)), (11, (5, 0))]
  | _ => []
@[go_sem ↓] theorem pl48_6 : pl48 6 = [(0, (5, 0)), (2, (5, 0)), (1, (0, 0)), (3, (0, 0)), (4, (5, 0)), (5, (0, 0)), (6, (2, 0)), (7, (5, 0)), (8, (5, 0)), (9, (5, 0)), (10, (5, 0)), (11, (5, 0))] := (rfl)
def pl49 : Plans := fun id => match id with
  | _ => []
def pl50 : Plans := fun id => match id with
  | _ => []
def pl51 : Plans := fun id => match id with
  | _ => []
def pl52 : Plans := fun id => match id with
  | _ => []
def pl54 : Plans := fun id => match id with
  | _ => []
def pl55 : Plans := fun id => match id with
  | _ => []
def pl56 : Plans := fun id => match id with
  | _ => []
def pl57 : Plans := fun id => match id with
  | _ => []
def pl58 : Plans := fun id => match id with
  | _ => []
def pl59 : Plans := fun id => match id with
  | 7 => [(0, (5, 0)), (2, (5, 0)), (5, (5, 0)), (7, (5, 0)), (1, (0, 0)), (3, (5, 0)), (4, (0, 0)), (10, (5, 0)), (6, (0, 0)), (8, (5, 0)), (9, (0, 0)), (11, (5, 0))]
  | _ => []
@[go_sem ↓] theorem pl59_7 : pl59 7 = [(0, (5, 0)), (2, (5, 0)), (5, (5, 0)), (7, (5, 0)), (1, (0, 0)), (3, (5, 0)), (4, (0, 0)), (10, (5, 0)), (6, (0, 0)), (8, (5, 0)), (9, (0, 0)), (11, (5, 0))] := (rfl)
def pl60 : Plans := fun id => match id with
  | _ => []
def pl61 : Plans := fun id => match id with
  | _ => []
def pl62 : Plans := fun id => match id with
  | _ => []
def pl63 : Plans := fun id => match id with
  | 10 => [(0, (5, 0)), (2, (5, 0)), (3, (5, 0)), (4, (5, 0)), (6, (5, 0)), (1, (2, 0)), (5, (2, 0)), (7, (2, 0)), (8, (2, 0)), (9, (2, 0)), (10, (5, 0))]
  | _ => []
@[go_sem ↓] theorem pl63_10 : pl63 10 = [(0, (5, 0)), (2, (5, 0)), (3, (5, 0)), (4, (5, 0)), (6, (5, 0)), (1, (2, 0)), (5, (2, 0)), (7, (2, 0)), (8, (2, 0)), (9, (2, 0)), (10, (5, 0))] := (rfl)
def pl65 : Plans := fun id => match id with
  | _ => []
def pl66 : Plans := fun id => match id with
  | 6 => [(0, (5, 0)), (1, (5, 0)), (2, (5, 0)), (3, (5, 0)), (4, (5, 0)), (5, (5, 0)), (6, (5, 0)), (7, (5, 0))]
  | _ => []
@[go_sem ↓] theorem pl66_6 : pl66 6 = [(0, (5, 0)), (1, (5, 0)), (2, (5, 0)), (3, (5, 0)), (4, (5, 0)), (5, (5, 0)), (6, (5, 0)), (7, (5, 0))] := (rfl)
def pl67 : Plans := fun id => match id with
  | _ => []
def pl68 : Plans := fun id => match id with
  | _ => []
def pl69 : Plans := fun id => match id with
  | _ => []
def pl70 : Plans := fun id => match id with
  | 3 => [(0, (5, 0)), (1, (5, 0)), (2, (5, 0)), (5, (5, 0)), (6, (5, 0)), (7, (5, 0)), (11, (5, 0)), (3, (0, 0)), (8, (0, 0)), (9, (0, 0)), (4, (1, 0)), (10, (5, 0)), (12, (5, 0))]
  | _ => []
def pl71 : Plans := fun id => match id with
  | _ => []
def pl72 : Plans := fun id => match id with
  | _ => []
def pl73 : Plans := fun id => match id with
  | 1 => [(0, (5, 0)), (1, (5, 0)), (2, (5, 0)), (5, (5, 0)), (6, (5, 0)), (7, (5, 0)), (3, (0, 0)), (8, (0, 0)), (9, (0, 0)), (4, (1, 0)), (10, (2, 0)), (11, (5, 0))]
  | _ => []
def pl74 : Plans := fun id => match id with
  | _ => []
def pl75 : Plans := fun id => match id with
  | 5 => [(0, (5, 0)), (1, (5, 0)), (2, (5, 0)), (4, (5, 0)), (5, (5, 0)), (6, (5, 0)), (3, (0, 0)), (7, (5, 0)), (8, (5, 0)), (9, (2, 0))]
  | _ => []
@[go_sem ↓] theorem pl75_5 : pl75 5 = [(0, (5, 0)), (1, (5, 0)), (2, (5, 0)), (4, (5, 0)), (5, (5, 0)), (6, (5, 0)), (3, (0, 0)), (7, (5, 0)), (8, (5, 0)), (9, (2, 0))] := (rfl)
def pl76 : Plans := fun id => match id with
  | 3 => [(0, (5, 0)), (1, (5, 0)), (2, (5, 0)), (4, (5, 0)), (5, (5, 0)), (6, (5, 0)), (7, (5, 0)), (3, (0, 0)), (8, (0, 0)), (9, (5, 0))]
  | 4 => [(0, (5, 0)), (1, (5, 0)), (2, (5, 0)), (4, (5, 0)), (5, (5, 0)), (6, (5, 0)), (7, (5, 0)), (9, (5, 0)), (10, (5, 0)), (11, (5, 0)), (12, (5, 0)), (3, (0, 0)), (8, (0, 0)), (13, (0, 0)), (14, (2, 0)), (15, (5, 0)), (16, (5, 0)), (17, (5, 0)), (18, (5, 0))]
  | _ => []
@[go_sem ↓] theorem pl76_3 : pl76 3 = [(0, (5, 0)), (1, (5, 0)), (2, (5, 0)), (4, (5, 0)), (5, (5, 0)), (6, (5, 0)), (7, (5, 0)), (3, (0, 0)), (8, (0, 0)), (9, (5, 0))] := (rfl)
@[go_sem ↓] theorem pl76_4 : pl76 4 = [(0, (5, 0)), (1, (5, 0)), (2, (5, 0)), (4, (5, 0)), (5, (5, 0)), (6, (5, 0)), (7, (5, 0)), (9, (5, 0)), (10, (5, 0)), (11, (5, 0)), (12, (5, 0)), (3, (0, 0)), (8, (0, 0)), (13, (0, 0)), (14, (2, 0)), (15, (5, 0)), (16, (5, 0)), (17, (5, 0)), (18, (5, 0))] := (rfl)
def pl77 : Plans := fun id => match id with
  | 10 => [(0, (5, 0)), (1, (5, 0)), (2, (5, 0)), (4, (5, 0)), (5, (5, 0)), (6, (5, 0)), (7, (5, 0)), (9, (5, 0)), (10, (5, 0)), (3, (0, 0)), (8, (0, 0)), (11, (5, 0)), (12, (5, 0)), (13, (5, 0)), (14, (2, 0))]
  | _ => []
@[go_sem ↓] theorem pl77_10 : pl77 10 = [(0, (5, 0)), (1, (5, 0)), (2, (5, 0)), (4, (5, 0)), (5, (5, 0)), (6, (5, 0)), (7, (5, 0)), (9, (5, 0)), (10, (5, 0)), (3, (0, 0)), (8, (0, 0)), (11, (5, 0)), (12, (5, 0)), (13, (5, 0)), (14, (2, 0))] := (rfl)
def pl78 : Plans := fun id => match id with
  | _ => []
def pl79 : Plans := fun id => match id with
  | _ => []
def pl80 : Plans := fun id => match id with
  | _ => []
def pl81 : Plans := fun id => match id with
  | 7 => [(0, (5, 0)), (1, (5, 0)), (2, (5, 0)), (3, (5, 0)), (4, (5, 0)), (5, (5, 0)), (6, (5, 0)), (7, (5, 0)), (8, (5, 0)), (9, (5, 0)), (10, (5, 0)), (11, (5, 0)), (12, (2, 0)), (13, (5, 0)), (14, (2, 0))]
  | 8 => [(0, (5, 0)), (1, (5, 0)), (2, (5, 0)), (3, (5, 0)), (4, (5, 0)), (5, (5, 0)), (6, (5, 0)), (7, (5, 0)), (8, (5, 0)), (9, (5, 0)), (10, (5, 0)), (11, (5, 0)), (12, (2, 0)), (13, (5, 0)), (14, (2, 0))]
  | 9 => [(0, (5, 0)), (1, (5, 0)), (2, (5, 0)), (3, (5, 0)), (4, (5, 0)), (5, (5, 0)), (6, (5, 0)), (7, (5, 0)), (8, (5, 0)), (9, (5, 0)), (10, (5, 0)), (11, (5, 0)), (12, (2, 0)), (13, (5, 0)), (14, (2, 0))]
  | 10 => [(0, (5, 0)), (1, (5, 0)), (2, (5, 0)), (3, (5, 0)), (4, (5, 0)), (5, (5, 0)), (6, (5, 0)), (7, (5, 0)), (8, (5, 0)), (9, (5, 0)), (10, (5, 0)), (11, (5, 0)), (12, (2, 0)), (13, (5, 0)), (14, (2, 0))]
  | 17 => [(0, (5, 0)), (1, (5, 0)), (2, (5, 0)), (3, (5, 0)), (4, (5, 0)), (5, (5, 0)), (6, (5, 0)), (7, (5, 0)), (8, (5, 0)), (9, (5, 0)), (10, (5, 0)), (11, (5, 0)), (12, (2, 0)), (13, (5, 0)), (14, (2, 0))]
  | 18 => [(0, (5, 0)), (1, (5, 0)), (2, (5, 0)), (3, (5, 0)), (4, (5, 0)), (5, (5, 0)), (6, (5, 0)), (7, (5, 0)), (8, (5, 0)), (9, (5, 0)), (10, (5, 0)), (11, (5, 0)), (12, (2, 0)), (13, (5, 0)), (14, (2, 0))]
  | 23 => [(0, (5, 0)), (1, (5, 0)), (2, (5, 0)), (3, (5, 0)), (4, (5, 0)), (5, (5, 0)), (6, (5, 0)), (7, (5, 0)), (8, (5, 0)), (9, (5, 0)), (10, (5, 0)), (11, (5, 0)), (12, (2, 0)), (13, (5, 0)), (14, (2, 0))]
  | _ => []
@[go_sem ↓] theorem pl81_7 : pl81 7 = [(0, (5, 0)), (1, (5, 0)), (2, (5, 0)), (3, (5, 0)), (4, (5, 0)), (5, (5, 0)), (6, (5, 0)), (7, (5, 0)), (8, (5, 0)), (9, (5, 0)), (10, (5, 0)), (11, (5, 0)), (12, (2, 0)), (13, (5, 0)), (14, (2, 0))] := (rfl)
@[go_sem ↓] theorem pl81_8 : pl81 8 = [(0, (5, 0)), (1, (5, 0)), (2, (5, 0)), (3, (5, 0)), (4, (5, 0)), (5, (5, 0)), (6, (5, 0)), (7, (5, 0)), (8, (5, 0)), (9, (5, 0)), (10, (5, 0)), (11, (5, 0)), (12, (2, 0)), (13, (5, 0)), (14, (2, 0))] := (rfl)
@[go_sem ↓] theorem pl81_9 : pl81 9 = [(0, (5, 0)), (1, (5, 0)), (2, (5, 0)), (3, (5, 0)), (4, (5, 0)), (5, (5, 0)), (6, (5, 0)), (7, (5, 0)), (8, (5, 0)), (9, (5, 0)), (10, (5, 0)), (11, (5, 0)), (12, (2, 0)), (13, (5, 0)), (14, (2, 0))] := (rfl)
@[go_sem ↓] theorem pl81_10 : pl81 10 = [(0, (5, 0)), (1, (5, 0)), (2, (5, 0)), (3, (5, 0)), (4, (5, 0)), (5, (5, 0)), (6, (5, 0)), (7, (5, 0)), (8, (5, 0)), (9, (5, 0)), (10, (5, 0)), (11, (5, 0)), (12, (2, 0)), (13, (5, 0)), (14, (2, 0))] := (rfl)
@[go_sem ↓] theorem pl81_17 : pl81 17 = [(0, (5, 0)), (1, (5, 0)), (2, (5, 0)), (3, (5, 0)), (4, (5, 0)), (5, (5, 0)), (6, (5, 0)), (7, (5, 0)), (8, (5, 0)), (9, (5, 0)), (10, (5, 0)), (11, (5, 0)), (12, (2, 0)), (13, (5, 0)), (14, (2, 0))] := (rfl)
@[go_sem ↓] theorem pl81_18 : pl81 18 = [(0, (5, 0)), (1, (5, 0)), (2, (5, 0)), (3, (5, 0)), (4, (5, 0)), (5, (5, 0)), (6, (5, 0)), (7, (5, 0)), (8, (5, 0)), (9, (5, 0)), (10, (5, 0)), (11, (5, 0)), (12, (2, 0)), (13, (5, 0)), (14, (2, 0))] := (rfl)
@[go_sem ↓] theorem pl81_23 : pl81 23 = [(0, (5, 0)), (1, (5, 0)), (2, (5, 0)), (3, (5, 0)), (4, (5, 0)), (5, (5, 0)), (6, (5, 0)), (7, (5, 0)), (8, (5, 0)), (9, (5, 0)), (10, (5, 0)), (11, (5, 0)), (12, (2, 0)), (13, (5, 0)), (14, (2, 0))] := (rfl)
def pl82 : Plans := fun id => match id with
  | _ => []
def pl83 : Plans := fun id => match id with
  | _ => []
def pl84 : Plans := fun id => match id with
  | _ => []
def pl85 : Plans := fun id => match id with
  | _ => []
def pl86 : Plans := fun id => match id with
  | 0 => [(0, (5, 0)), (1, (5, 0)), (2, (5, 0)), (6, (5, 0)), (9, (5, 0)), (10, (5, 0)), (11, (5, 0)), (3, (0, 0)), (12, (0, 0)), (13, (0, 0)), (4, (1, 0)), (5, (5, 0)), (7, (5, 0)), (8, (1, 0)), (14, (5, 0)), (15, (5, 0))]
  | _ => []
def pl87 : Plans := fun id => match id with
  | _ => []
def pl88 : Plans := fun id => match id with
  | _ => []
def pl89 : Plans := fun id => match id with
  | _ => []
def pl90 : Plans := fun id => match id with
  | _ => []
def pl91 : Plans := fun id => match id with
  | _ => []
def pl94 : Plans := fun id => match id with
  | _ => []
def pl95 : Plans := fun id => match id with
  | _ => []
def pl121 : Plans := fun id => match id with
  | _ => []
@[go_sem ↓ high] theorem vcvh_5_3 (h : -9223372036854775808 ≤ a ∧ a ≤ 9223372036854775807) : cvsV Tryd.prog 5 3 (.lit (.int i a)) σ F = F true (.lit (.int .i64 a)) := (cvsV_num (by kernel_rfl)).trans (cvtV_i64 (by kernel_rfl) (by kernel_rfl) h)
@[go_sem ↓] theorem vsy_5_3 : sbyV Tryd.prog 5 3 u σ kv = cvsV Tryd.prog 5 3 u σ fun τ u => kv τ u σ := sbyV_num (by kernel_rfl)
@[go_sem ↓ high] theorem vshr_i64_u64_18 {P : Program} {t : TypeId} : binV P .shr t (.lit (.int .i64 a)) (.lit (.int .u64 18)) F = F true (.lit (.int .i64 (a / 262144))) := by rw [binV_shr_i64 (by decide)]; rfl
@[go_sem ↓ high] theorem vcvh_44_3 (h : -9223372036854775808 ≤ a ∧ a ≤ 9223372036854775807) : cvsV Tryd.prog 44 3 (.lit (.int i a)) σ F = F true (.lit (.int .i64 a)) := (cvsV_num (by kernel_rfl)).trans (cvtV_i64 (by kernel_rfl) (by kernel_rfl) h)
@[go_sem ↓] theorem vsy_44_3 : sbyV Tryd.prog 44 3 u σ kv = cvsV Tryd.prog 44 3 u σ fun τ u => kv τ u σ := sbyV_num (by kernel_rfl)
@[go_sem ↓] theorem vix_24 (h : 0 ≤ a ∧ a < len) : idxV Tryd.prog 24 (.sl o 1 off len) (.lit (.int i a)) F = F true (.ref o 1 (off + a.toNat) 0) := idxV_sl (et := 44) (by kernel_rfl) h
@[go_sem ↓ high] theorem vixn_24 (h : m < len) : idxV Tryd.prog 24 (.sl o 1 off len) (.lit (.int i (m : Int))) F = F true (.ref o 1 (off + m) 0) := idxV_sln (et := 44) (by kernel_rfl) h
@[go_sem ↓ high] theorem vixrn_24 (h : m < l.length) : idxV Tryd.prog 24 (.row 1 l) (.lit (.int i (m : Int))) F = F true (.rref 1 l m 0) := idxV_rown (et := 44) (by kernel_rfl) (by decide) h
@[go_sem ↓ high] theorem vixm_24 (h : 0 ≤ a ∧ a < L.length) : idxV Tryd.prog 24 (.row 1 (L.map f)) (.lit (.int i a)) F = F true (.rref 1 (L.map f) a.toNat 0) := idxV_rowm (et := 44) (by kernel_rfl) (by decide) h
@[go_sem ↓] theorem vld_44 : ldV Tryd.prog 44 u σ F = rdV u σ (none) F := ldV_of (by kernel_rfl)
@[go_sem ↓] theorem vst_44 : stV Tryd.prog 44 u v σ ks = clK v fun c => lenK c 1 (wrV u σ c ks) := stV_of (by kernel_rfl)
@[go_sem ↓] theorem vln_24 : bltV Tryd.prog e .len [24] [.row m l] σ kv = lenV (.row m l) fun τ v => kv τ v σ := lenB_row (by kernel_rfl)
@[go_sem ↓] theorem vlns_24 : bltV Tryd.prog e .len [24] [.sl o m off len] σ kv = lenV (.sl o m off len) fun τ v => kv τ v σ := lenB_sl (by kernel_rfl)
@[go_sem ↓] theorem vlns_110 : bltV Tryd.prog e .len [110] [.sl o m off len] σ kv = lenV (.sl o m off len) fun τ v => kv τ v σ := lenB_sl (by kernel_rfl)
@[go_sem ↓] theorem vlnt_9 {s : List UInt8} : bltV Tryd.prog e .len [9] [.lit (.string (bs s))] σ kv = kv true (.lit (.int .i64 (s.length : Int))) σ := lenB_str (by kernel_rfl)
@[go_sem ↓] theorem vslt_9 {s : List UInt8} : slcV Tryd.prog 9 (.lit (.string (bs s))) lo hi none F = bdoK hi s.length s.length fun h => bdoK lo 0 h fun x => F true (.lit (.string (bs ((s.take h).drop x)))) := slcV_str (by kernel_rfl)
@[go_sem ↓ high] theorem vshr_u64_u64_32 {P : Program} {t : TypeId} : binV P .shr t (.lit (.int .u64 a)) (.lit (.int .u64 32)) F = F true (.lit (.int .u64 (a / 4294967296))) := by rw [binV_shr_u64 (by decide)]; rfl
@[go_sem ↓ high] theorem vcvh_44_122 (h : 0 ≤ a ∧ a ≤ 4294967295) : cvsV Tryd.prog 44 122 (.lit (.int i a)) σ F = F true (.lit (.int .u32 a)) := (cvsV_num (by kernel_rfl)).trans (cvtV_u32 (by kernel_rfl) (by kernel_rfl) h)
@[go_sem ↓] theorem vsy_44_122 : sbyV Tryd.prog 44 122 u σ kv = cvsV Tryd.prog 44 122 u σ fun τ u => kv τ u σ := sbyV_num (by kernel_rfl)
@[go_sem ↓] theorem vsy_110_9 : sbyV Tryd.prog 110 9 u σ kv = cvsV Tryd.prog 110 9 u σ fun τ u => kv τ u σ := sbyV_byt (by kernel_rfl)
@[go_sem ↓] theorem vcs_110_9 : cvsV Tryd.prog 110 9 u σ F = rowK u σ 1 fun l => bytK l fun b => F true (.lit (.string (bs b))) := cvsV_byt (by kernel_rfl) (by kernel_rfl)
@[go_sem ↓] theorem vst_5 : stV Tryd.prog 5 u v σ ks = clK v fun c => lenK c 1 (wrV u σ c ks) := stV_of (by kernel_rfl)
@[go_sem ↓] theorem visb_9 {s : List UInt8} (h : 0 ≤ a ∧ a < s.length) : ixvV Tryd.prog 9 (.lit (.string (bs s))) (.lit (.int i a)) F = F true (.lit (.int .u8 ((s.getD a.toNat 0).toNat : Int))) := ixvV_bs (by kernel_rfl) h
@[go_sem ↓] theorem vis_9 {s : ByteArray} (h : 0 ≤ a ∧ a < s.size) : ixvV Tryd.prog 9 (.lit (.string s)) (.lit (.int i a)) F = F true (.lit (.int .u8 (strAt s a.toNat))) := ixvV_str (by kernel_rfl) h
@[go_sem ↓ high] theorem vcth_3_44 (h : 0 ≤ a ∧ a ≤ 18446744073709551615) : cvtV Tryd.prog 3 44 (.lit (.int i a)) F = F true (.lit (.int .u64 a)) := cvtV_u64 (by kernel_rfl) (by kernel_rfl) h
@[go_sem ↓] theorem vcv_3_44 : cvsV Tryd.prog 3 44 (.lit (.int i a)) σ F = F true (.lit (.int .u64 (IntKind.wrap .u64 a))) := (cvsV_num (by kernel_rfl)).trans (cvtV_of (by kernel_rfl) (by kernel_rfl))
@[go_sem ↓ high] theorem vcvh_3_44 (h : 0 ≤ a ∧ a ≤ 18446744073709551615) : cvsV Tryd.prog 3 44 (.lit (.int i a)) σ F = F true (.lit (.int .u64 a)) := (cvsV_num (by kernel_rfl)).trans (cvtV_u64 (by kernel_rfl) (by kernel_rfl) h)
@[go_sem ↓] theorem vsy_3_44 : sbyV Tryd.prog 3 44 u σ kv = cvsV Tryd.prog 3 44 u σ fun τ u => kv τ u σ := sbyV_num (by kernel_rfl)
@[go_sem ↓ high] theorem vcvh_3_89 (h : 0 ≤ a ∧ a ≤ 18446744073709551615) : cvsV Tryd.prog 3 89 (.lit (.int i a)) σ F = F true (.lit (.int .u64 a)) := (cvsV_num (by kernel_rfl)).trans (cvtV_u64 (by kernel_rfl) (by kernel_rfl) h)
@[go_sem ↓] theorem vsy_3_89 : sbyV Tryd.prog 3 89 u σ kv = cvsV Tryd.prog 3 89 u σ fun τ u => kv τ u σ := sbyV_num (by kernel_rfl)
@[go_sem ↓ high] theorem vcvh_122_5 (h : 0 ≤ a ∧ a ≤ 255) : cvsV Tryd.prog 122 5 (.lit (.int i a)) σ F = F true (.lit (.int .u8 a)) := (cvsV_num (by kernel_rfl)).trans (cvtV_u8 (by kernel_rfl) (by kernel_rfl) h)
@[go_sem ↓] theorem vsy_122_5 : sbyV Tryd.prog 122 5 u σ kv = cvsV Tryd.prog 122 5 u σ fun τ u => kv τ u σ := sbyV_num (by kernel_rfl)
@[go_sem ↓] theorem vix_110 (h : 0 ≤ a ∧ a < len) : idxV Tryd.prog 110 (.sl o 1 off len) (.lit (.int i a)) F = F true (.ref o 1 (off + a.toNat) 0) := idxV_sl (et := 5) (by kernel_rfl) h
@[go_sem ↓] theorem vst_29 : stV Tryd.prog 29 u v σ ks = clK v fun c => lenK c 1 (wrV u σ c ks) := stV_of (by kernel_rfl)
@[go_sem ↓] theorem vfa_29_0 : fadV Tryd.prog 29 (.ref o z i' off) 0 F = F true (.ref o z i' off) := fadV_ref (x := 0) (ag := false) (m := 1) (by kernel_rfl)
@[go_sem ↓] theorem vld_24 : ldV Tryd.prog 24 u σ F = rdV u σ (none) F := ldV_of (by kernel_rfl)
@[go_sem ↓] theorem vsl_24 : slcV Tryd.prog 24 (.sl o 1 off len) lo hi none F = bdoK hi len len fun h => bdoK lo 0 h fun l => F true (.sl o 1 (off + l) (h - l)) := slcV_sl (et := 44) (by kernel_rfl)
@[go_sem ↓ high] theorem vslm_24 : slcV Tryd.prog 24 (.row 1 (L.map f)) lo hi none F = bdoK hi L.length L.length fun h => bdoK lo 0 h fun x => F true (.row 1 (((L.take h).drop x).map f)) := slcV_rowm (et := 44) (by kernel_rfl)
@[go_sem ↓] theorem vbd_29 {ps : List (Nat × V)} : bldV Tryd.prog 29 ps F = allOne ([.slice none 0 0] : List Value) (fillK (plOf Tryd.prog 29) ps (([.slice none 0 0] : List Value).map V.lit) fun l => F true (.agg l)) := bldV_of (by kernel_rfl) (by kernel_rfl) (by kernel_rfl)
@[go_sem ↓] theorem val_29 : alcV Tryd.prog 29 σ kv = allOne ([.slice none 0 0] : List Value) (newO σ (.cells (([.slice none 0 0] : List Value).map V.lit)) fun o σ' => kv true (.ref o 0 0 0) σ') := alcV_of (by kernel_rfl)
@[go_sem ↓] theorem vms_24 : mslV Tryd.prog 24 u v σ kv = mslU 1 8 [.int .u64 0] u v σ kv := mslV_of (et := 44) (by kernel_rfl) (by kernel_rfl) (by kernel_rfl)
@[go_sem ↓] theorem vmu_24 (h : 0 ≤ a ∧ a * 8 ≤ 140737488355328) : mslU 1 8 [.int .u64 0] (.lit (.int .i64 a)) (.lit (.int .i64 a)) σ kv = newO σ (.row 1 (zrow [.int .u64 0] a.toNat)) fun o σ' => kv true (.sl o 1 0 a.toNat) σ' := by
  rw [mslU_of (C := [.int .u64 0]) (z := 1) ⟨h.1, rfl, h.2, by omega, by decide⟩ rfl]
  simp [allOne, oneC]
@[go_sem ↓ high] theorem vmun_24 (h : m * 8 ≤ 140737488355328) : mslU 1 8 [.int .u64 0] (.lit (.int .i64 (m : Int))) (.lit (.int .i64 (m : Int))) σ kv = newO σ (.row 1 (zrow [.int .u64 0] m)) fun o σ' => kv true (.sl o 1 0 m) σ' := vmu_24 (by omega)
@[go_sem ↓] theorem val_124 : alcV Tryd.prog 124 σ kv = allOne ([.int .u8 0, .int .u8 0, .int .u8 0, .int .u8 0, .int .u8 0, .int .u8 0, .int .u8 0, .int .u8 0, .int .u8 0, .int .u8 0, .int .u8 0, .int .u8 0, .int .u8 0, .int .u8 0, .int .u8 0, .int .u8 0, .int .u8 0, .int .u8 0, .int .u8 0, .int .u8 0, .int .u8 0, .int .u8 0, .int .u8 0, .int .u8 0] : List Value) (newO σ (.cells (([.int .u8 0, .int .u8 0, .int .u8 0, .int .u8 0, .int .u8 0, .int .u8 0, .int .u8 0, .int .u8 0, .int .u8 0, .int .u8 0, .int .u8 0, .int .u8 0, .int .u8 0, .int .u8 0, .int .u8 0, .int .u8 0, .int .u8 0, .int .u8 0, .int .u8 0, .int .u8 0, .int .u8 0, .int .u8 0, .int .u8 0, .int .u8 0] : List Value).map V.lit)) fun o σ' => kv true (.ref o 0 0 0) σ') := alcV_of (by kernel_rfl)
@[go_sem ↓ high] theorem vmk_u64_4294967295 {P : Program} {t : TypeId} : binV P .and t (.lit (.int .u64 a)) (.lit (.int .u64 4294967295)) F = F true (.lit (.int .u64 (a % 4294967296))) := binV_mask 32 (by decide) (by decide) (by decide)
@[go_sem ↓ high] theorem vcvh_89_3 (h : -9223372036854775808 ≤ a ∧ a ≤ 9223372036854775807) : cvsV Tryd.prog 89 3 (.lit (.int i a)) σ F = F true (.lit (.int .i64 a)) := (cvsV_num (by kernel_rfl)).trans (cvtV_i64 (by kernel_rfl) (by kernel_rfl) h)
@[go_sem ↓] theorem vsy_89_3 : sbyV Tryd.prog 89 3 u σ kv = cvsV Tryd.prog 89 3 u σ fun τ u => kv τ u σ := sbyV_num (by kernel_rfl)
@[go_sem ↓ high] theorem vshr_u64_u64_1 {P : Program} {t : TypeId} : binV P .shr t (.lit (.int .u64 a)) (.lit (.int .u64 1)) F = F true (.lit (.int .u64 (a / 2))) := by rw [binV_shr_u64 (by decide)]; rfl
@[go_sem ↓ high] theorem vshl_i64_u64_1 {P : Program} {t : TypeId} : binV P .shl t (.lit (.int .i64 a)) (.lit (.int .u64 1)) F = F true (.lit (.int .i64 (IntKind.wrap .i64 (a * 2)))) := by rw [binV_shl_i64 (by decide)]; rfl
@[go_sem ↓ high] theorem vshl_u64_u64_2 {P : Program} {t : TypeId} : binV P .shl t (.lit (.int .u64 a)) (.lit (.int .u64 2)) F = F true (.lit (.int .u64 (IntKind.wrap .u64 (a * 4)))) := by rw [binV_shl_u64 (by decide)]; rfl
@[go_sem ↓ high] theorem vshr_u64_u64_62 {P : Program} {t : TypeId} : binV P .shr t (.lit (.int .u64 a)) (.lit (.int .u64 62)) F = F true (.lit (.int .u64 (a / 4611686018427387904))) := by rw [binV_shr_u64 (by decide)]; rfl
@[go_sem ↓] theorem vbs_24_0 {ps : List (Nat × V)} : bslV Tryd.prog 24 0 ps σ kv = prtK 1 0 ps fun l => lenK l 0 (newO σ (.row 1 l) fun o σ' => kv true (.sl o 1 0 0) σ') := bslV_of (et := 44) (by kernel_rfl) ⟨by kernel_rfl, by decide, by decide⟩
@[go_sem ↓] theorem vap_24_24 : apdV Tryd.prog e 24 24 u v σ kv = rowK v σ 1 fun m => apdU e 1 8 u m σ kv := apdV_of (et := 44) (ex := 44) (C := [.int .u64 0]) (by kernel_rfl) (by kernel_rfl) (by kernel_rfl) (by kernel_rfl) (by decide) rfl
@[go_sem ↓] theorem vseq_24 : binV Tryd.prog .eql 24 (.row 1 l) (.lit (.slice none 0 0)) F = nilB .eql l.isEmpty F := binV_seq ⟨by kernel_rfl, by decide⟩
@[go_sem ↓] theorem vpl_29_0 {r : List (Nat × V)} {G : List V → Prop} : fillK (plOf Tryd.prog 29) ((0, u) :: r) us G = clK u fun c => lenK c 1 (wrK us 0 c fun l' => fillK (plOf Tryd.prog 29) r l' G) := fillK_step (by kernel_rfl)
@[go_sem ↓] theorem vld_29 : ldV Tryd.prog 29 u σ F = rdV u σ (some 1) F := ldV_of (by kernel_rfl)
@[go_sem ↓] theorem vfa_31_1 : fadV Tryd.prog 31 (.ref o z i' off) 1 F = F true (.ref o z i' (off + 1)) := fadV_ref (x := 1) (ag := false) (m := 1) (by kernel_rfl)
@[go_sem ↓] theorem vld_4 : ldV Tryd.prog 4 u σ F = rdV u σ (none) F := ldV_of (by kernel_rfl)
@[go_sem ↓] theorem vbs_24_1 {ps : List (Nat × V)} : bslV Tryd.prog 24 1 ps σ kv = prtK 1 0 ps fun l => lenK l 1 (newO σ (.row 1 l) fun o σ' => kv true (.sl o 1 0 1) σ') := bslV_of (et := 44) (by kernel_rfl) ⟨by kernel_rfl, by decide, by decide⟩
@[go_sem ↓] theorem vfa_31_0 : fadV Tryd.prog 31 (.ref o z i' off) 0 F = F true (.ref o z i' off) := fadV_ref (x := 0) (ag := true) (m := 1) (by kernel_rfl)
@[go_sem ↓] theorem vst_31 : stV Tryd.prog 31 u v σ ks = clK v fun c => lenK c 2 (wrV u σ c ks) := stV_of (by kernel_rfl)
@[go_sem ↓] theorem val_31 : alcV Tryd.prog 31 σ kv = allOne ([.slice none 0 0, .bool false] : List Value) (newO σ (.cells (([.slice none 0 0, .bool false] : List Value).map V.lit)) fun o σ' => kv true (.ref o 0 0 0) σ') := alcV_of (by kernel_rfl)
@[go_sem ↓] theorem vfa_64_1 : fadV Tryd.prog 64 (.ref o z i' off) 1 F = F true (.ref o z i' (off + 2)) := fadV_ref (x := 2) (ag := false) (m := 1) (by kernel_rfl)
@[go_sem ↓] theorem vld_36 : ldV Tryd.prog 36 u σ F = rdV u σ (none) F := ldV_of (by kernel_rfl)
@[go_sem ↓] theorem vfa_64_0 : fadV Tryd.prog 64 (.ref o z i' off) 0 F = F true (.ref o z i' off) := fadV_ref (x := 0) (ag := true) (m := 2) (by kernel_rfl)
@[go_sem ↓] theorem vfa_62_0 : fadV Tryd.prog 62 (.ref o z i' off) 0 F = F true (.ref o z i' off) := fadV_ref (x := 0) (ag := false) (m := 1) (by kernel_rfl)
@[go_sem ↓] theorem vld_3 : ldV Tryd.prog 3 u σ F = rdV u σ (none) F := ldV_of (by kernel_rfl)
@[go_sem ↓ high] theorem vixm_36 (h : 0 ≤ a ∧ a < L.length) : idxV Tryd.prog 36 (.row 1 (L.map f)) (.lit (.int i a)) F = F true (.rref 1 (L.map f) a.toNat 0) := idxV_rowm (et := 4) (by kernel_rfl) (by decide) h
@[go_sem ↓] theorem vst_3 : stV Tryd.prog 3 u v σ ks = clK v fun c => lenK c 1 (wrV u σ c ks) := stV_of (by kernel_rfl)
@[go_sem ↓] theorem vfa_62_1 : fadV Tryd.prog 62 (.ref o z i' off) 1 F = F true (.ref o z i' (off + 1)) := fadV_ref (x := 1) (ag := false) (m := 1) (by kernel_rfl)
@[go_sem ↓] theorem vst_4 : stV Tryd.prog 4 u v σ ks = clK v fun c => lenK c 1 (wrV u σ c ks) := stV_of (by kernel_rfl)
@[go_sem ↓] theorem vln_36 : bltV Tryd.prog e .len [36] [.row m l] σ kv = lenV (.row m l) fun τ v => kv τ v σ := lenB_row (by kernel_rfl)
@[go_sem ↓ high] theorem vcvh_44_5 (h : 0 ≤ a ∧ a ≤ 255) : cvsV Tryd.prog 44 5 (.lit (.int i a)) σ F = F true (.lit (.int .u8 a)) := (cvsV_num (by kernel_rfl)).trans (cvtV_u8 (by kernel_rfl) (by kernel_rfl) h)
@[go_sem ↓] theorem vsy_44_5 : sbyV Tryd.prog 44 5 u σ kv = cvsV Tryd.prog 44 5 u σ fun τ u => kv τ u σ := sbyV_num (by kernel_rfl)
@[go_sem ↓ high] theorem vshr_u64_u64_8 {P : Program} {t : TypeId} : binV P .shr t (.lit (.int .u64 a)) (.lit (.int .u64 8)) F = F true (.lit (.int .u64 (a / 256))) := by rw [binV_shr_u64 (by decide)]; rfl
@[go_sem ↓ high] theorem vshr_u64_u64_16 {P : Program} {t : TypeId} : binV P .shr t (.lit (.int .u64 a)) (.lit (.int .u64 16)) F = F true (.lit (.int .u64 (a / 65536))) := by rw [binV_shr_u64 (by decide)]; rfl
@[go_sem ↓] theorem vbs_66_0 {ps : List (Nat × V)} : bslV Tryd.prog 66 0 ps σ kv = prtK 2 0 ps fun l => lenK l 0 (newO σ (.row 2 l) fun o σ' => kv true (.sl o 2 0 0) σ') := bslV_of (et := 55) (by kernel_rfl) ⟨by kernel_rfl, by decide, by decide⟩
@[go_sem ↓] theorem vap_66_66 : apdV Tryd.prog e 66 66 u v σ kv = rowK v σ 2 fun m => apdU e 2 16 u m σ kv := apdV_of (et := 55) (ex := 55) (C := [.int .u64 0, .int .i64 0]) (by kernel_rfl) (by kernel_rfl) (by kernel_rfl) (by kernel_rfl) (by decide) rfl
@[go_sem ↓] theorem vseq_66 : binV Tryd.prog .eql 66 (.row 2 l) (.lit (.slice none 0 0)) F = nilB .eql l.isEmpty F := binV_seq ⟨by kernel_rfl, by decide⟩
@[go_sem ↓] theorem vfd_29_0 : fldV Tryd.prog 29 (.agg us) 0 F = atK us 0 fun v => F true v := fldV_at (m := 1) (by kernel_rfl)
@[go_sem ↓] theorem vfa_33_1 : fadV Tryd.prog 33 (.ref o z i' off) 1 F = F true (.ref o z i' (off + 2)) := fadV_ref (x := 2) (ag := true) (m := 1) (by kernel_rfl)
@[go_sem ↓] theorem vld_31 : ldV Tryd.prog 31 u σ F = rdV u σ (some 2) F := ldV_of (by kernel_rfl)
@[go_sem ↓] theorem vbne_4 {x y : Bool} : binV Tryd.prog .neq 4 (.lit (.bool x)) (.lit (.bool y)) F = F true (.lit (.bool (!(x == y)))) := binV_bne (by kernel_rfl)
@[go_sem ↓] theorem vst_33 : stV Tryd.prog 33 u v σ ks = clK v fun c => lenK c 3 (wrV u σ c ks) := stV_of (by kernel_rfl)
@[go_sem ↓] theorem vbd_33 {ps : List (Nat × V)} : bldV Tryd.prog 33 ps F = allOne ([.slice none 0 0, .bool false, .slice none 0 0] : List Value) (fillK (plOf Tryd.prog 33) ps (([.slice none 0 0, .bool false, .slice none 0 0] : List Value).map V.lit) fun l => F true (.agg l)) := bldV_of (by kernel_rfl) (by kernel_rfl) (by kernel_rfl)
@[go_sem ↓] theorem val_33 : alcV Tryd.prog 33 σ kv = allOne ([.slice none 0 0, .bool false, .slice none 0 0] : List Value) (newO σ (.cells (([.slice none 0 0, .bool false, .slice none 0 0] : List Value).map V.lit)) fun o σ' => kv true (.ref o 0 0 0) σ') := alcV_of (by kernel_rfl)
@[go_sem ↓ high] theorem vshr_i64_u64_1 {P : Program} {t : TypeId} : binV P .shr t (.lit (.int .i64 a)) (.lit (.int .u64 1)) F = F true (.lit (.int .i64 (a / 2))) := by rw [binV_shr_i64 (by decide)]; rfl
@[go_sem ↓ high] theorem vmk_i64_1 {P : Program} {t : TypeId} : binV P .and t (.lit (.int .i64 a)) (.lit (.int .i64 1)) F = F true (.lit (.int .i64 (a % 2))) := binV_mask 1 (by decide) (by decide) (by decide)
@[go_sem ↓] theorem vbd_31 {ps : List (Nat × V)} : bldV Tryd.prog 31 ps F = allOne ([.slice none 0 0, .bool false] : List Value) (fillK (plOf Tryd.prog 31) ps (([.slice none 0 0, .bool false] : List Value).map V.lit) fun l => F true (.agg l)) := bldV_of (by kernel_rfl) (by kernel_rfl) (by kernel_rfl)
@[go_sem ↓] theorem vpl_31_0 {r : List (Nat × V)} {G : List V → Prop} : fillK (plOf Tryd.prog 31) ((0, u) :: r) us G = clK u fun c => lenK c 1 (wrK us 0 c fun l' => fillK (plOf Tryd.prog 31) r l' G) := fillK_step (by kernel_rfl)
@[go_sem ↓] theorem vpl_31_1 {r : List (Nat × V)} {G : List V → Prop} : fillK (plOf Tryd.prog 31) ((1, u) :: r) us G = clK u fun c => lenK c 1 (wrK us 1 c fun l' => fillK (plOf Tryd.prog 31) r l' G) := fillK_step (by kernel_rfl)
@[go_sem ↓] theorem vld_33 : ldV Tryd.prog 33 u σ F = rdV u σ (some 3) F := ldV_of (by kernel_rfl)
@[go_sem ↓] theorem vbeq_4 {x y : Bool} : binV Tryd.prog .eql 4 (.lit (.bool x)) (.lit (.bool y)) F = F true (.lit (.bool (x == y))) := binV_beq (by kernel_rfl)
@[go_sem ↓] theorem vpl_33_0 {r : List (Nat × V)} {G : List V → Prop} : fillK (plOf Tryd.prog 33) ((0, u) :: r) us G = clK u fun c => lenK c 2 (wrK us 0 c fun l' => fillK (plOf Tryd.prog 33) r l' G) := fillK_step (by kernel_rfl)
@[go_sem ↓] theorem vpl_33_1 {r : List (Nat × V)} {G : List V → Prop} : fillK (plOf Tryd.prog 33) ((1, u) :: r) us G = clK u fun c => lenK c 1 (wrK us 2 c fun l' => fillK (plOf Tryd.prog 33) r l' G) := fillK_step (by kernel_rfl)
@[go_sem ↓] theorem vfa_33_0 : fadV Tryd.prog 33 (.ref o z i' off) 0 F = F true (.ref o z i' off) := fadV_ref (x := 0) (ag := true) (m := 2) (by kernel_rfl)
@[go_sem ↓ high] theorem vshl_u64_u64_1 {P : Program} {t : TypeId} : binV P .shl t (.lit (.int .u64 a)) (.lit (.int .u64 1)) F = F true (.lit (.int .u64 (IntKind.wrap .u64 (a * 2)))) := by rw [binV_shl_u64 (by decide)]; rfl
@[go_sem ↓] theorem vfa_68_0 : fadV Tryd.prog 68 (.ref o z i' off) 0 F = F true (.ref o z i' off) := fadV_ref (x := 0) (ag := true) (m := 3) (by kernel_rfl)
@[go_sem ↓] theorem vfr_68_0 : fadV Tryd.prog 68 (.rref z l i' off) 0 F = F true (.rref z l i' off) := fadV_rref (x := 0) (ag := true) (m := 3) (by kernel_rfl)
@[go_sem ↓] theorem vld_26 : ldV Tryd.prog 26 u σ F = rdV u σ (some 3) F := ldV_of (by kernel_rfl)
@[go_sem ↓] theorem vfa_68_1 : fadV Tryd.prog 68 (.ref o z i' off) 1 F = F true (.ref o z i' (off + 3)) := fadV_ref (x := 3) (ag := false) (m := 1) (by kernel_rfl)
@[go_sem ↓] theorem vfr_68_1 : fadV Tryd.prog 68 (.rref z l i' off) 1 F = F true (.rref z l i' (off + 3)) := fadV_rref (x := 3) (ag := false) (m := 1) (by kernel_rfl)
@[go_sem ↓] theorem vld_66 : ldV Tryd.prog 66 u σ F = rdV u σ (none) F := ldV_of (by kernel_rfl)
@[go_sem ↓] theorem vfa_68_2 : fadV Tryd.prog 68 (.ref o z i' off) 2 F = F true (.ref o z i' (off + 4)) := fadV_ref (x := 4) (ag := false) (m := 1) (by kernel_rfl)
@[go_sem ↓] theorem vfr_68_2 : fadV Tryd.prog 68 (.rref z l i' off) 2 F = F true (.rref z l i' (off + 4)) := fadV_rref (x := 4) (ag := false) (m := 1) (by kernel_rfl)
@[go_sem ↓] theorem vbd_68 {ps : List (Nat × V)} : bldV Tryd.prog 68 ps F = allOne ([.int .i64 0, .int .i64 0, .int .i64 0, .slice none 0 0, .int .i64 0] : List Value) (fillK (plOf Tryd.prog 68) ps (([.int .i64 0, .int .i64 0, .int .i64 0, .slice none 0 0, .int .i64 0] : List Value).map V.lit) fun l => F true (.agg l)) := bldV_of (by kernel_rfl) (by kernel_rfl) (by kernel_rfl)
@[go_sem ↓] theorem vpl_68_0 {r : List (Nat × V)} {G : List V → Prop} : fillK (plOf Tryd.prog 68) ((0, u) :: r) us G = clK u fun c => lenK c 3 (wrK us 0 c fun l' => fillK (plOf Tryd.prog 68) r l' G) := fillK_step (by kernel_rfl)
@[go_sem ↓] theorem vpl_68_1 {r : List (Nat × V)} {G : List V → Prop} : fillK (plOf Tryd.prog 68) ((1, u) :: r) us G = clK u fun c => lenK c 1 (wrK us 3 c fun l' => fillK (plOf Tryd.prog 68) r l' G) := fillK_step (by kernel_rfl)
@[go_sem ↓] theorem vpl_68_2 {r : List (Nat × V)} {G : List V → Prop} : fillK (plOf Tryd.prog 68) ((2, u) :: r) us G = clK u fun c => lenK c 1 (wrK us 4 c fun l' => fillK (plOf Tryd.prog 68) r l' G) := fillK_step (by kernel_rfl)
@[go_sem ↓] theorem vfa_26_2 : fadV Tryd.prog 26 (.ref o z i' off) 2 F = F true (.ref o z i' (off + 2)) := fadV_ref (x := 2) (ag := false) (m := 1) (by kernel_rfl)
@[go_sem ↓] theorem vfa_26_0 : fadV Tryd.prog 26 (.ref o z i' off) 0 F = F true (.ref o z i' off) := fadV_ref (x := 0) (ag := false) (m := 1) (by kernel_rfl)
@[go_sem ↓] theorem vfa_26_1 : fadV Tryd.prog 26 (.ref o z i' off) 1 F = F true (.ref o z i' (off + 1)) := fadV_ref (x := 1) (ag := false) (m := 1) (by kernel_rfl)
@[go_sem ↓] theorem vbs_36_0 {ps : List (Nat × V)} : bslV Tryd.prog 36 0 ps σ kv = prtK 1 0 ps fun l => lenK l 0 (newO σ (.row 1 l) fun o σ' => kv true (.sl o 1 0 0) σ') := bslV_of (et := 4) (by kernel_rfl) ⟨by kernel_rfl, by decide, by decide⟩
@[go_sem ↓] theorem vap_36_36 : apdV Tryd.prog e 36 36 u v σ kv = rowK v σ 1 fun m => apdU e 1 1 u m σ kv := apdV_of (et := 4) (ex := 4) (C := [.bool false]) (by kernel_rfl) (by kernel_rfl) (by kernel_rfl) (by kernel_rfl) (by decide) rfl
@[go_sem ↓] theorem vseq_36 : binV Tryd.prog .eql 36 (.row 1 l) (.lit (.slice none 0 0)) F = nilB .eql l.isEmpty F := binV_seq ⟨by kernel_rfl, by decide⟩
@[go_sem ↓ high] theorem vixn_66 (h : m < len) : idxV Tryd.prog 66 (.sl o 2 off len) (.lit (.int i (m : Int))) F = F true (.ref o 2 (off + m) 0) := idxV_sln (et := 55) (by kernel_rfl) h
@[go_sem ↓ high] theorem vixrn_66 (h : m < l.length) : idxV Tryd.prog 66 (.row 2 l) (.lit (.int i (m : Int))) F = F true (.rref 2 l m 0) := idxV_rown (et := 55) (by kernel_rfl) (by decide) h
@[go_sem ↓] theorem vld_55 : ldV Tryd.prog 55 u σ F = rdV u σ (some 2) F := ldV_of (by kernel_rfl)
@[go_sem ↓] theorem vst_55 : stV Tryd.prog 55 u v σ ks = clK v fun c => lenK c 2 (wrV u σ c ks) := stV_of (by kernel_rfl)
@[go_sem ↓] theorem vbd_55 {ps : List (Nat × V)} : bldV Tryd.prog 55 ps F = allOne ([.int .u64 0, .int .i64 0] : List Value) (fillK (plOf Tryd.prog 55) ps (([.int .u64 0, .int .i64 0] : List Value).map V.lit) fun l => F true (.agg l)) := bldV_of (by kernel_rfl) (by kernel_rfl) (by kernel_rfl)
@[go_sem ↓] theorem vln_66 : bltV Tryd.prog e .len [66] [.row m l] σ kv = lenV (.row m l) fun τ v => kv τ v σ := lenB_row (by kernel_rfl)
@[go_sem ↓] theorem vlns_66 : bltV Tryd.prog e .len [66] [.sl o m off len] σ kv = lenV (.sl o m off len) fun τ v => kv τ v σ := lenB_sl (by kernel_rfl)
@[go_sem ↓] theorem val_55 : alcV Tryd.prog 55 σ kv = allOne ([.int .u64 0, .int .i64 0] : List Value) (newO σ (.cells (([.int .u64 0, .int .i64 0] : List Value).map V.lit)) fun o σ' => kv true (.ref o 0 0 0) σ') := alcV_of (by kernel_rfl)
@[go_sem ↓] theorem vfa_55_1 : fadV Tryd.prog 55 (.ref o z i' off) 1 F = F true (.ref o z i' (off + 1)) := fadV_ref (x := 1) (ag := false) (m := 1) (by kernel_rfl)
@[go_sem ↓] theorem vld_68 : ldV Tryd.prog 68 u σ F = rdV u σ (some 5) F := ldV_of (by kernel_rfl)
@[go_sem ↓] theorem vst_68 : stV Tryd.prog 68 u v σ ks = clK v fun c => lenK c 5 (wrV u σ c ks) := stV_of (by kernel_rfl)
@[go_sem ↓] theorem vfa_55_0 : fadV Tryd.prog 55 (.ref o z i' off) 0 F = F true (.ref o z i' off) := fadV_ref (x := 0) (ag := false) (m := 1) (by kernel_rfl)
@[go_sem ↓] theorem vpl_55_0 {r : List (Nat × V)} {G : List V → Prop} : fillK (plOf Tryd.prog 55) ((0, u) :: r) us G = clK u fun c => lenK c 1 (wrK us 0 c fun l' => fillK (plOf Tryd.prog 55) r l' G) := fillK_step (by kernel_rfl)
@[go_sem ↓] theorem vpl_55_1 {r : List (Nat × V)} {G : List V → Prop} : fillK (plOf Tryd.prog 55) ((1, u) :: r) us G = clK u fun c => lenK c 1 (wrK us 1 c fun l' => fillK (plOf Tryd.prog 55) r l' G) := fillK_step (by kernel_rfl)
@[go_sem ↓] theorem vms_66 : mslV Tryd.prog 66 u v σ kv = mslU 2 16 [.int .u64 0, .int .i64 0] u v σ kv := mslV_of (et := 55) (by kernel_rfl) (by kernel_rfl) (by kernel_rfl)
@[go_sem ↓] theorem vmu_66 (h : 0 ≤ a ∧ a * 16 ≤ 140737488355328) : mslU 2 16 [.int .u64 0, .int .i64 0] (.lit (.int .i64 a)) (.lit (.int .i64 a)) σ kv = newO σ (.row 2 (zrow [.int .u64 0, .int .i64 0] a.toNat)) fun o σ' => kv true (.sl o 2 0 a.toNat) σ' := by
  rw [mslU_of (C := [.int .u64 0, .int .i64 0]) (z := 2) ⟨h.1, rfl, h.2, by omega, by decide⟩ rfl]
  simp [allOne, oneC]
@[go_sem ↓ high] theorem vmun_66 (h : m * 16 ≤ 140737488355328) : mslU 2 16 [.int .u64 0, .int .i64 0] (.lit (.int .i64 (m : Int))) (.lit (.int .i64 (m : Int))) σ kv = newO σ (.row 2 (zrow [.int .u64 0, .int .i64 0] m)) fun o σ' => kv true (.sl o 2 0 m) σ' := vmu_66 (by omega)
@[go_sem ↓ high] theorem vslm_36 : slcV Tryd.prog 36 (.row 1 (L.map f)) lo hi none F = bdoK hi L.length L.length fun h => bdoK lo 0 h fun x => F true (.row 1 (((L.take h).drop x).map f)) := slcV_rowm (et := 4) (by kernel_rfl)
@[go_sem ↓] theorem vslf_36 : slcV Tryd.prog 36 (.row 1 (L.map f)) lo (some u) (some v) F = bdK v L.length fun m => bdK u m fun h => if m = h then bdoK lo 0 h fun x => F true (.xrow 1 (((L.take h).drop x).map f)) else False := slcV_full (et := 4) (by kernel_rfl)
@[go_sem ↓] theorem vbd_64 {ps : List (Nat × V)} : bldV Tryd.prog 64 ps F = allOne ([.int .i64 0, .bool false, .slice none 0 0] : List Value) (fillK (plOf Tryd.prog 64) ps (([.int .i64 0, .bool false, .slice none 0 0] : List Value).map V.lit) fun l => F true (.agg l)) := bldV_of (by kernel_rfl) (by kernel_rfl) (by kernel_rfl)
@[go_sem ↓] theorem vpl_64_1 {r : List (Nat × V)} {G : List V → Prop} : fillK (plOf Tryd.prog 64) ((1, u) :: r) us G = clK u fun c => lenK c 1 (wrK us 2 c fun l' => fillK (plOf Tryd.prog 64) r l' G) := fillK_step (by kernel_rfl)
@[go_sem ↓] theorem vld_35 : ldV Tryd.prog 35 u σ F = rdV u σ (none) F := ldV_of (by kernel_rfl)
@[go_sem ↓] theorem vbs_36_1 {ps : List (Nat × V)} : bslV Tryd.prog 36 1 ps σ kv = prtK 1 0 ps fun l => lenK l 1 (newO σ (.row 1 l) fun o σ' => kv true (.sl o 1 0 1) σ') := bslV_of (et := 4) (by kernel_rfl) ⟨by kernel_rfl, by decide, by decide⟩
@[go_sem ↓] theorem vst_26 : stV Tryd.prog 26 u v σ ks = clK v fun c => lenK c 3 (wrV u σ c ks) := stV_of (by kernel_rfl)
@[go_sem ↓] theorem vfa_23_0 : fadV Tryd.prog 23 (.ref o z i' off) 0 F = F true (.ref o z i' off) := fadV_ref (x := 0) (ag := false) (m := 1) (by kernel_rfl)
@[go_sem ↓] theorem vfa_23_1 : fadV Tryd.prog 23 (.ref o z i' off) 1 F = F true (.ref o z i' (off + 1)) := fadV_ref (x := 1) (ag := false) (m := 1) (by kernel_rfl)
@[go_sem ↓ high] theorem vmk_i64_3 {P : Program} {t : TypeId} : binV P .and t (.lit (.int .i64 a)) (.lit (.int .i64 3)) F = F true (.lit (.int .i64 (a % 4))) := binV_mask 2 (by decide) (by decide) (by decide)
@[go_sem ↓] theorem vfa_23_2 : fadV Tryd.prog 23 (.ref o z i' off) 2 F = F true (.ref o z i' (off + 2)) := fadV_ref (x := 2) (ag := false) (m := 1) (by kernel_rfl)
@[go_sem ↓ high] theorem vmk_i64_15 {P : Program} {t : TypeId} : binV P .and t (.lit (.int .i64 a)) (.lit (.int .i64 15)) F = F true (.lit (.int .i64 (a % 16))) := binV_mask 4 (by decide) (by decide) (by decide)
@[go_sem ↓] theorem vbd_26 {ps : List (Nat × V)} : bldV Tryd.prog 26 ps F = allOne ([.int .i64 0, .int .i64 0, .int .i64 0] : List Value) (fillK (plOf Tryd.prog 26) ps (([.int .i64 0, .int .i64 0, .int .i64 0] : List Value).map V.lit) fun l => F true (.agg l)) := bldV_of (by kernel_rfl) (by kernel_rfl) (by kernel_rfl)
@[go_sem ↓] theorem vpl_26_0 {r : List (Nat × V)} {G : List V → Prop} : fillK (plOf Tryd.prog 26) ((0, u) :: r) us G = clK u fun c => lenK c 1 (wrK us 0 c fun l' => fillK (plOf Tryd.prog 26) r l' G) := fillK_step (by kernel_rfl)
@[go_sem ↓] theorem vpl_26_1 {r : List (Nat × V)} {G : List V → Prop} : fillK (plOf Tryd.prog 26) ((1, u) :: r) us G = clK u fun c => lenK c 1 (wrK us 1 c fun l' => fillK (plOf Tryd.prog 26) r l' G) := fillK_step (by kernel_rfl)
@[go_sem ↓] theorem vpl_26_2 {r : List (Nat × V)} {G : List V → Prop} : fillK (plOf Tryd.prog 26) ((2, u) :: r) us G = clK u fun c => lenK c 1 (wrK us 2 c fun l' => fillK (plOf Tryd.prog 26) r l' G) := fillK_step (by kernel_rfl)
@[go_sem ↓] theorem val_26 : alcV Tryd.prog 26 σ kv = allOne ([.int .i64 0, .int .i64 0, .int .i64 0] : List Value) (newO σ (.cells (([.int .i64 0, .int .i64 0, .int .i64 0] : List Value).map V.lit)) fun o σ' => kv true (.ref o 0 0 0) σ') := alcV_of (by kernel_rfl)
@[go_sem ↓] theorem vqeq_55 {vs : List V} : binV Tryd.prog .eql 55 (.agg us) (.agg vs) F = eqK [true, true] us vs fun r => litI (eqI .eql r) F := binV_agg (by kernel_rfl)
@[go_sem ↓] theorem vreq_39 {o z i off : Nat} : binV Tryd.prog .eql 39 (.ref o z i off) (.lit (.pointer none)) F = F true (.lit (.bool false)) := binV_req (by kernel_rfl)
@[go_sem ↓] theorem vst_35 : stV Tryd.prog 35 u v σ ks = clK v fun c => lenK c 1 (wrV u σ c ks) := stV_of (by kernel_rfl)
@[go_sem ↓] theorem val_35 : alcV Tryd.prog 35 σ kv = allOne ([.nilFunc] : List Value) (newO σ (.cells (([.nilFunc] : List Value).map V.lit)) fun o σ' => kv true (.ref o 0 0 0) σ') := alcV_of (by kernel_rfl)
@[go_sem ↓] theorem val_3 : alcV Tryd.prog 3 σ kv = allOne ([.int .i64 0] : List Value) (newO σ (.cells (([.int .i64 0] : List Value).map V.lit)) fun o σ' => kv true (.ref o 0 0 0) σ') := alcV_of (by kernel_rfl)
@[go_sem ↓] theorem vld_23 : ldV Tryd.prog 23 u σ F = rdV u σ (some 3) F := ldV_of (by kernel_rfl)
end
end Go.Proofs.YtpkfddfkacijoaaDoor
