import Derived.Test.YthbcfjlalmhabaaVl
import Derived.Test.YthbcfjlalmhabaaProg
import Derived.KernelRfl
/-! Facts on the program's types and plans of its regions, printed by a program of the prover's own. -/
namespace Go.Proofs.Ythbcfjlalmhabaa
open Go.Eng Go.Vx
set_option linter.unusedVariables false
set_option linter.unusedSimpArgs false
set_option maxRecDepth 100000
section
variable {u v : V} {σ : St} {F : FV} {kv : KV} {ks : KS} {e : Bool} {i : IntKind} {a : Int} {o z i' off len m : Nat} {l : List (List PV)} {us : List V} {β : Type} {L : List β} {f : β → List PV} {lo hi : Option V}
def pl2 : Plans := fun id => match id with
  | _ => []
def pl3 : Plans := fun id => match id with
  | _ => []
def pl4 : Plans := fun id => match id with
  | _ => []
def pl5 : Plans := fun id => match id with
  | 18 => [(0, 0), (1, 0), (2, 0), (3, 0), (4, 0), (5, 0), (6, 0), (7, 0), (8, 0), (9, 0), (10, 0), (11, 0), (12, 0)]
  | _ => []
@[go_sem ↓] theorem pl5_18 : pl5 18 = [(0, 0), (1, 0), (2, 0), (3, 0), (4, 0), (5, 0), (6, 0), (7, 0), (8, 0), (9, 0), (10, 0), (11, 0), (12, 0)] := (rfl)
def pl6 : Plans := fun id => match id with
  | 8 => [(0, 0), (1, 0), (2, 0), (3, 0), (4, 0), (5, 0), (6, 0), (7, 0), (8, 0), (9, 0), (10, 2), (11, 0)]
  | _ => []
@[go_sem ↓] theorem pl6_8 : pl6 8 = [(0, 0), (1, 0), (2, 0), (3, 0), (4, 0), (5, 0), (6, 0), (7, 0), (8, 0), (9, 0), (10, 2), (11, 0)] := (rfl)
def pl7 : Plans := fun id => match id with
  | _ => []
def pl8 : Plans := fun id => match id with
  | _ => []
def pl9 : Plans := fun id => match id with
  | _ => []
def pl10 : Plans := fun id => match id with
  | 14 => [(0, 0), (1, 0), (2, 0), (3, 0), (4, 0), (5, 0), (6, 0), (7, 0), (8, 0), (9, 0), (10, 0), (11, 2), (12, 0)]
  | 22 => [(0, 0), (1, 0), (2, 0), (3, 0), (4, 0), (5, 0), (6, 0), (7, 0), (8, 0), (9, 0), (10, 0), (11, 0), (12, 0)]
  | _ => []
@[go_sem ↓] theorem pl10_14 : pl10 14 = [(0, 0), (1, 0), (2, 0), (3, 0), (4, 0), (5, 0), (6, 0), (7, 0), (8, 0), (9, 0), (10, 0), (11, 2), (12, 0)] := (rfl)
@[go_sem ↓] theorem pl10_22 : pl10 22 = [(0, 0), (1, 0), (2, 0), (3, 0), (4, 0), (5, 0), (6, 0), (7, 0), (8, 0), (9, 0), (10, 0), (11, 0), (12, 0)] := (rfl)
def pl11 : Plans := fun id => match id with
  | 3 => [(0, 0), (1, 0), (2, 0), (3, 0), (4, 0), (5, 0), (6, 0), (7, 0), (8, 0)]
  | _ => []
@[go_sem ↓] theorem pl11_3 : pl11 3 = [(0, 0), (1, 0), (2, 0), (3, 0), (4, 0), (5, 0), (6, 0), (7, 0), (8, 0)] := (rfl)
def pl12 : Plans := fun id => match id with
  | _ => []
def pl13 : Plans := fun id => match id with
  | 1 => [(0, 0), (1, 0), (2, 0), (3, 0), (4, 0), (5, 0), (6, 0), (7, 0), (8, 0), (9, 0), (10, 0), (11, 0), (12, 1), (13, 0), (14, 0), (15, 0), (16, 2)]
  | 8 => [(0, 0), (1, 0), (2, 0), (3, 0), (4, 0), (5, 0), (6, 0), (7, 0), (8, 0), (9, 0), (10, 2), (11, 0)]
  | 21 => [(0, 0), (1, 0), (2, 0), (3, 0), (4, 0), (5, 0), (6, 0), (7, 0), (8, 0), (9, 0), (10, 0), (11, 0), (12, 0), (13, 0), (14, 0), (15, 0), (16, 0), (17, 0), (18, 0), (19, 0), (20, 0), (21, 0), (22, 0), (23, 0)]
  | _ => []
@[go_sem ↓] theorem pl13_1 : pl13 1 = [(0, 0), (1, 0), (2, 0), (3, 0), (4, 0), (5, 0), (6, 0), (7, 0), (8, 0), (9, 0), (10, 0), (11, 0), (12, 1), (13, 0), (14, 0), (15, 0), (16, 2)] := (rfl)
@[go_sem ↓] theorem pl13_8 : pl13 8 = [(0, 0), (1, 0), (2, 0), (3, 0), (4, 0), (5, 0), (6, 0), (7, 0), (8, 0), (9, 0), (10, 2), (11, 0)] := (rfl)
@[go_sem ↓] theorem pl13_21 : pl13 21 = [(0, 0), (1, 0), (2, 0), (3, 0), (4, 0), (5, 0), (6, 0), (7, 0), (8, 0), (9, 0), (10, 0), (11, 0), (12, 0), (13, 0), (14, 0), (15, 0), (16, 0), (17, 0), (18, 0), (19, 0), (20, 0), (21, 0), (22, 0), (23, 0)] := (rfl)
def pl14 : Plans := fun id => match id with
  | _ => []
def pl15 : Plans := fun id => match id with
  | _ => []
def pl16 : Plans := fun id => match id with
  | _ => []
def pl17 : Plans := fun id => match id with
  | _ => []
def pl18 : Plans := fun id => match id with
  | _ => []
def pl19 : Plans := fun id => match id with
  | 6 => [(0, 0), (1, 0), (2, 0), (3, 0), (4, 0), (5, 0), (6, 0), (7, 0), (8, 0)]
  | _ => []
@[go_sem ↓] theorem pl19_6 : pl19 6 = [(0, 0), (1, 0), (2, 0), (3, 0), (4, 0), (5, 0), (6, 0), (7, 0), (8, 0)] := (rfl)
def pl20 : Plans := fun id => match id with
  | _ => []
def pl21 : Plans := fun id => match id with
  | _ => []
def pl22 : Plans := fun id => match id with
  | _ => []
def pl23 : Plans := fun id => match id with
  | _ => []
def pl24 : Plans := fun id => match id with
  | 1 => [(0, 0), (1, 0), (2, 0), (3, 0), (4, 0), (5, 0), (6, 0), (7, 0), (8, 0), (9, 0), (10, 0), (11, 0)]
  | _ => []
@[go_sem ↓] theorem pl24_1 : pl24 1 = [(0, 0), (1, 0), (2, 0), (3, 0), (4, 0), (5, 0), (6, 0), (7, 0), (8, 0), (9, 0), (10, 0), (11, 0)] := (rfl)
def pl25 : Plans := fun id => match id with
  | _ => []
def pl26 : Plans := fun id => match id with
  | _ => []
def pl27 : Plans := fun id => match id with
  | _ => []
def pl28 : Plans := fun id => match id with
  | _ => []
def pl29 : Plans := fun id => match id with
  | _ => []
def pl30 : Plans := fun id => match id with
  | _ => []
def pl31 : Plans := fun id => match id with
  | _ => []
def pl32 : Plans := fun id => match id with
  | _ => []
def pl33 : Plans := fun id => match id with
  | _ => []
def pl34 : Plans := fun id => match id with
  | _ => []
def pl35 : Plans := fun id => match id with
  | _ => []
def pl36 : Plans := fun id => match id with
  | _ => []
def pl37 : Plans := fun id => match id with
  | _ => []
def pl38 : Plans := fun id => match id with
  | _ => []
def pl39 : Plans := fun id => match id with
  | _ => []
def pl40 : Plans := fun id => match id with
  | _ => []
def pl41 : Plans := fun id => match id with
  | _ => []
def pl42 : Plans := fun id => match id with
  | _ => []
def pl43 : Plans := fun id => match id with
  | _ => []
def pl44 : Plans := fun id => match id with
  | 3 => [(0, 0), (1, 0), (2, 0), (3, 0), (4, 0), (5, 0), (6, 0), (7, 0), (8, 0), (9, 0), (10, 0), (11, 0), (12, 0), (13, 0), (14, 0), (15, 0), (16, 0), (17, 0), (18, 0), (19, 0), (20, 2)]
  | _ => []
@[go_sem ↓] theorem pl44_3 : pl44 3 = [(0, 0), (1, 0), (2, 0), (3, 0), (4, 0), (5, 0), (6, 0), (7, 0), (8, 0), (9, 0), (10, 0), (11, 0), (12, 0), (13, 0), (14, 0), (15, 0), (16, 0), (17, 0), (18, 0), (19, 0), (20, 2)] := (rfl)
def pl45 : Plans := fun id => match id with
  | _ => []
def pl46 : Plans := fun id => match id with
  | _ => []
def pl47 : Plans := fun id => match id with
  | _ => []
def pl48 : Plans := fun id => match id with
  | 1 => [(0, 0), (1, 0), (2, 0), (3, 0), (5, 0), (6, 0), (7, 0), (8, 0), (9, 0), (10, 0), (11, 0), (12, 0), (4, 1), (13, 2), (14, 2), (15, 0)]
  | _ => []
@[go_sem ↓] theorem pl48_1 : pl48 1 = [(0, 0), (1, 0), (2, 0), (3, 0), (5, 0), (6, 0), (7, 0), (8, 0), (9, 0), (10, 0), (11, 0), (12, 0), (4, 1), (13, 2), (14, 2), (15, 0)] := (rfl)
def pl49 : Plans := fun id => match id with
  | 6 => [(0, 0), (1, 0), (2, 0), (3, 0), (4, 0), (5, 0), (6, 0), (7, 0), (8, 0), (9, 0), (10, 0), (11, 0), (12, 0), (14, 0), (17, 0), (18, 0), (19, 0), (13, 1), (15, 0), (16, 0), (20, 0), (21, 0), (22, 2)]
  | 9 => [(0, 0), (1, 0), (2, 0), (3, 0), (4, 0), (5, 0), (6, 0), (7, 0), (8, 0), (9, 0), (10, 0), (11, 0), (12, 0), (13, 0), (14, 0), (16, 0), (19, 0), (20, 0), (21, 0), (15, 1), (17, 0), (18, 0), (22, 0), (23, 0), (24, 2)]
  | _ => []
@[go_sem ↓] theorem pl49_6 : pl49 6 = [(0, 0), (1, 0), (2, 0), (3, 0), (4, 0), (5, 0), (6, 0), (7, 0), (8, 0), (9, 0), (10, 0), (11, 0), (12, 0), (14, 0), (17, 0), (18, 0), (19, 0), (13, 1), (15, 0), (16, 0), (20, 0), (21, 0), (22, 2)] := (rfl)
@[go_sem ↓] theorem pl49_9 : pl49 9 = [(0, 0), (1, 0), (2, 0), (3, 0), (4, 0), (5, 0), (6, 0), (7, 0), (8, 0), (9, 0), (10, 0), (11, 0), (12, 0), (13, 0), (14, 0), (16, 0), (19, 0), (20, 0), (21, 0), (15, 1), (17, 0), (18, 0), (22, 0), (23, 0), (24, 2)] := (rfl)
def pl50 : Plans := fun id => match id with
  | _ => []
def pl51 : Plans := fun id => match id with
  | _ => []
def pl52 : Plans := fun id => match id with
  | 1 => [(0, 0), (1, 0), (2, 0), (3, 0), (4, 0), (5, 0), (6, 0), (7, 0), (8, 0), (9, 0), (10, 0), (11, 0), (12, 0), (13, 0), (14, 0), (15, 0), (16, 0), (17, 0), (18, 0), (19, 0), (20, 0), (21, 0), (22, 0), (23, 0), (24, 0), (25, 0), (26, 0), (27, 0), (28, 0), (29, 2), (30, 0), (31, 0)]
  | _ => []
@[go_sem ↓] theorem pl52_1 : pl52 1 = [(0, 0), (1, 0), (2, 0), (3, 0), (4, 0), (5, 0), (6, 0), (7, 0), (8, 0), (9, 0), (10, 0), (11, 0), (12, 0), (13, 0), (14, 0), (15, 0), (16, 0), (17, 0), (18, 0), (19, 0), (20, 0), (21, 0), (22, 0), (23, 0), (24, 0), (25, 0), (26, 0), (27, 0), (28, 0), (29, 2), (30, 0), (31, 0)] := (rfl)
def pl53 : Plans := fun id => match id with
  | _ => []
def pl54 : Plans := fun id => match id with
  | _ => []
def pl55 : Plans := fun id => match id with
  | _ => []
def pl56 : Plans := fun id => match id with
  | _ => []
def pl57 : Plans := fun id => match id with
  | _ => []
def pl58 : Plans := fun id => match id with
  | _ => []
def pl59 : Plans := fun id => match id with
  | _ => []
def pl60 : Plans := fun id => match id with
  | _ => []
def pl61 : Plans := fun id => match id with
  | _ => []
def pl62 : Plans := fun id => match id with
  | _ => []
def pl63 : Plans := fun id => match id with
  | _ => []
def pl64 : Plans := fun id => match id with
  | _ => []
def pl65 : Plans := fun id => match id with
  | 1 => [(0, 0), (1, 0), (2, 0), (3, 0), (4, 0), (5, 0), (6, 0), (7, 0), (8, 0), (9, 0), (10, 0), (11, 0), (12, 0), (13, 0), (14, 0), (15, 0), (16, 0), (17, 0), (18, 0), (19, 0)]
  | _ => []
@[go_sem ↓] theorem pl65_1 : pl65 1 = [(0, 0), (1, 0), (2, 0), (3, 0), (4, 0), (5, 0), (6, 0), (7, 0), (8, 0), (9, 0), (10, 0), (11, 0), (12, 0), (13, 0), (14, 0), (15, 0), (16, 0), (17, 0), (18, 0), (19, 0)] := (rfl)
def pl66 : Plans := fun id => match id with
  | _ => []
def pl67 : Plans := fun id => match id with
  | _ => []
def pl68 : Plans := fun id => match id with
  | _ => []
def pl69 : Plans := fun id => match id with
  | _ => []
def pl70 : Plans := fun id => match id with
  | _ => []
def pl71 : Plans := fun id => match id with
  | 1 => [(0, 0), (1, 0), (2, 0), (3, 0), (4, 0), (5, 0), (6, 0), (7, 0), (8, 0), (9, 0), (10, 0), (11, 0), (12, 0), (13, 0), (14, 0), (15, 0)]
  | _ => []
@[go_sem ↓] theorem pl71_1 : pl71 1 = [(0, 0), (1, 0), (2, 0), (3, 0), (4, 0), (5, 0), (6, 0), (7, 0), (8, 0), (9, 0), (10, 0), (11, 0), (12, 0), (13, 0), (14, 0), (15, 0)] := (rfl)
def pl72 : Plans := fun id => match id with
  | _ => []
def pl73 : Plans := fun id => match id with
  | 6 => [(0, 0), (1, 0), (2, 0), (3, 0), (4, 0), (5, 0), (6, 0), (7, 0), (8, 0)]
  | _ => []
@[go_sem ↓] theorem pl73_6 : pl73 6 = [(0, 0), (1, 0), (2, 0), (3, 0), (4, 0), (5, 0), (6, 0), (7, 0), (8, 0)] := (rfl)
def pl74 : Plans := fun id => match id with
  | _ => []
def pl75 : Plans := fun id => match id with
  | 6 => [(0, 0), (1, 0), (2, 0), (3, 0), (4, 0), (5, 0), (6, 0), (7, 0), (8, 0)]
  | _ => []
@[go_sem ↓] theorem pl75_6 : pl75 6 = [(0, 0), (1, 0), (2, 0), (3, 0), (4, 0), (5, 0), (6, 0), (7, 0), (8, 0)] := (rfl)
def pl76 : Plans := fun id => match id with
  | _ => []
def pl77 : Plans := fun id => match id with
  | _ => []
@[go_sem ↓] theorem vld_107 : ldV Try.prog 107 u σ F = rdV u σ (some 256) F := ldV_of (by kernel_rfl)
@[go_sem ↓] theorem vst_107 : stV Try.prog 107 u v σ ks = clK v fun c => lenK c 256 (wrV u σ c ks) := stV_of (by kernel_rfl)
@[go_sem ↓] theorem via_107 (h : 0 ≤ a ∧ a < 256) : idxV Try.prog 107 (.ref o 0 0 off) (.lit (.int i a)) F = F true (.ref o 1 a.toNat off) := idxV_ar (et := 104) (by kernel_rfl) h
@[go_sem ↓ high] theorem vian_107 (h : m < 256) : idxV Try.prog 107 (.ref o 0 0 off) (.lit (.int i (m : Int))) F = F true (.ref o 1 m off) := idxV_arn (et := 104) (by kernel_rfl) h
@[go_sem ↓] theorem vst_104 : stV Try.prog 104 u v σ ks = clK v fun c => lenK c 1 (wrV u σ c ks) := stV_of (by kernel_rfl)
@[go_sem ↓ high] theorem vshr_u32_u64_1 {P : Program} {t : TypeId} : binV P .shr t (.lit (.int .u32 a)) (.lit (.int .u64 1)) F = F true (.lit (.int .u32 (a / 2))) := by rw [binV_shr_u32 (by decide)]; rfl
@[go_sem ↓ high] theorem vmk_u32_1 {P : Program} {t : TypeId} : binV P .and t (.lit (.int .u32 a)) (.lit (.int .u32 1)) F = F true (.lit (.int .u32 (a % 2))) := binV_mask 1 (by decide) (by decide) (by decide)
@[go_sem ↓] theorem vcv_3_104 : cvtV Try.prog 3 104 (.lit (.int i a)) F = F true (.lit (.int .u32 (IntKind.wrap .u32 a))) := cvtV_of (by kernel_rfl) (by kernel_rfl)
@[go_sem ↓ high] theorem vcvh_3_104 (h : 0 ≤ a ∧ a ≤ 4294967295) : cvtV Try.prog 3 104 (.lit (.int i a)) F = F true (.lit (.int .u32 a)) := cvtV_u32 (by kernel_rfl) (by kernel_rfl) h
@[go_sem ↓] theorem val_107 : alcV Try.prog 107 σ kv = allOne ((List.replicate 256 (.int .u32 0)) : List Value) (newO σ (.cells (((List.replicate 256 (.int .u32 0)) : List Value).map V.lit)) fun o σ' => kv true (.ref o 0 0 0) σ') := alcV_of (by kernel_rfl)
@[go_sem ↓] theorem vcv_104_5 : cvtV Try.prog 104 5 (.lit (.int i a)) F = F true (.lit (.int .u8 (IntKind.wrap .u8 a))) := cvtV_of (by kernel_rfl) (by kernel_rfl)
@[go_sem ↓ high] theorem vcvh_104_5 (h : 0 ≤ a ∧ a ≤ 255) : cvtV Try.prog 104 5 (.lit (.int i a)) F = F true (.lit (.int .u8 a)) := cvtV_u8 (by kernel_rfl) (by kernel_rfl) h
@[go_sem ↓] theorem vld_104 : ldV Try.prog 104 u σ F = rdV u σ (none) F := ldV_of (by kernel_rfl)
@[go_sem ↓ high] theorem vshr_u32_u64_8 {P : Program} {t : TypeId} : binV P .shr t (.lit (.int .u32 a)) (.lit (.int .u64 8)) F = F true (.lit (.int .u32 (a / 256))) := by rw [binV_shr_u32 (by decide)]; rfl
@[go_sem ↓] theorem vix_24 (h : 0 ≤ a ∧ a < len) : idxV Try.prog 24 (.sl o 1 off len) (.lit (.int i a)) F = F true (.ref o 1 (off + a.toNat) 0) := idxV_sl (et := 5) (by kernel_rfl) h
@[go_sem ↓ high] theorem vixn_24 (h : m < len) : idxV Try.prog 24 (.sl o 1 off len) (.lit (.int i (m : Int))) F = F true (.ref o 1 (off + m) 0) := idxV_sln (et := 5) (by kernel_rfl) h
@[go_sem ↓] theorem vixr_24 (h : 0 ≤ a ∧ a < l.length) : idxV Try.prog 24 (.row 1 l) (.lit (.int i a)) F = F true (.rref 1 l a.toNat 0) := idxV_row (et := 5) (by kernel_rfl) (by decide) h
@[go_sem ↓ high] theorem vixrn_24 (h : m < l.length) : idxV Try.prog 24 (.row 1 l) (.lit (.int i (m : Int))) F = F true (.rref 1 l m 0) := idxV_rown (et := 5) (by kernel_rfl) (by decide) h
@[go_sem ↓ high] theorem vixm_24 (h : 0 ≤ a ∧ a < L.length) : idxV Try.prog 24 (.row 1 (L.map f)) (.lit (.int i a)) F = F true (.rref 1 (L.map f) a.toNat 0) := idxV_rowm (et := 5) (by kernel_rfl) (by decide) h
@[go_sem ↓ high] theorem vixmn_24 (h : m < L.length) : idxV Try.prog 24 (.row 1 (L.map f)) (.lit (.int i (m : Int))) F = F true (.rref 1 (L.map f) m 0) := idxV_rowmn (et := 5) (by kernel_rfl) (by decide) h
@[go_sem ↓] theorem vld_5 : ldV Try.prog 5 u σ F = rdV u σ (none) F := ldV_of (by kernel_rfl)
@[go_sem ↓] theorem vln_24 : bltV Try.prog e .len [24] [u] σ kv = lenV u fun τ v => kv τ v σ := lenB_of (et := 5) (z := 1) (by kernel_rfl)
@[go_sem ↓] theorem vix_59 (h : 0 ≤ a ∧ a < len) : idxV Try.prog 59 (.sl o 1 off len) (.lit (.int i a)) F = F true (.ref o 1 (off + a.toNat) 0) := idxV_sl (et := 28) (by kernel_rfl) h
@[go_sem ↓ high] theorem vixn_59 (h : m < len) : idxV Try.prog 59 (.sl o 1 off len) (.lit (.int i (m : Int))) F = F true (.ref o 1 (off + m) 0) := idxV_sln (et := 28) (by kernel_rfl) h
@[go_sem ↓] theorem vixr_59 (h : 0 ≤ a ∧ a < l.length) : idxV Try.prog 59 (.row 1 l) (.lit (.int i a)) F = F true (.rref 1 l a.toNat 0) := idxV_row (et := 28) (by kernel_rfl) (by decide) h
@[go_sem ↓ high] theorem vixrn_59 (h : m < l.length) : idxV Try.prog 59 (.row 1 l) (.lit (.int i (m : Int))) F = F true (.rref 1 l m 0) := idxV_rown (et := 28) (by kernel_rfl) (by decide) h
@[go_sem ↓ high] theorem vixm_59 (h : 0 ≤ a ∧ a < L.length) : idxV Try.prog 59 (.row 1 (L.map f)) (.lit (.int i a)) F = F true (.rref 1 (L.map f) a.toNat 0) := idxV_rowm (et := 28) (by kernel_rfl) (by decide) h
@[go_sem ↓ high] theorem vixmn_59 (h : m < L.length) : idxV Try.prog 59 (.row 1 (L.map f)) (.lit (.int i (m : Int))) F = F true (.rref 1 (L.map f) m 0) := idxV_rowmn (et := 28) (by kernel_rfl) (by decide) h
@[go_sem ↓] theorem vld_28 : ldV Try.prog 28 u σ F = rdV u σ (none) F := ldV_of (by kernel_rfl)
@[go_sem ↓] theorem vln_59 : bltV Try.prog e .len [59] [u] σ kv = lenV u fun τ v => kv τ v σ := lenB_of (et := 28) (z := 1) (by kernel_rfl)
@[go_sem ↓] theorem vfa_99_2 : fadV Try.prog 99 (.ref o z i' off) 2 F = F true (.ref o z i' (off + 2)) := fadV_ref (x := 2) (ag := false) (m := 1) (by kernel_rfl)
@[go_sem ↓] theorem vfr_99_2 : fadV Try.prog 99 (.rref z l i' off) 2 F = F true (.rref z l i' (off + 2)) := fadV_rref (x := 2) (ag := false) (m := 1) (by kernel_rfl)
@[go_sem ↓] theorem vld_3 : ldV Try.prog 3 u σ F = rdV u σ (none) F := ldV_of (by kernel_rfl)
@[go_sem ↓] theorem vbs_59_0 {ps : List (Nat × V)} : bslV Try.prog 59 0 ps σ kv = prtK 1 0 ps fun l => lenK l 0 (newO σ (.row 1 l) fun o σ' => kv true (.sl o 1 0 0) σ') := bslV_of (et := 28) (by kernel_rfl) ⟨by kernel_rfl, by decide, by decide⟩
@[go_sem ↓] theorem vap_59_59 : apdV Try.prog e 59 59 u v σ kv = rowK v σ 1 fun m => apdU e 1 8 u m σ kv := apdV_of (et := 28) (ex := 28) (C := [.int .u64 0]) (by kernel_rfl) (by kernel_rfl) (by kernel_rfl) (by kernel_rfl) (by decide) rfl
@[go_sem ↓] theorem vseq_59 : binV Try.prog .eql 59 (.row 1 l) (.lit (.slice none 0 0)) F = nilB .eql l.isEmpty F := binV_seq ⟨by kernel_rfl, by decide⟩
@[go_sem ↓] theorem vsleq_59 : binV Try.prog .eql 59 (.sl o 1 off len) (.lit (.slice none 0 0)) F = nilB .eql (decide (len = 0)) F := binV_leq0 (by kernel_rfl)
@[go_sem ↓] theorem vsneq_59 : binV Try.prog .eql 59 (.lit (.slice none 0 0)) (.lit (.slice none 0 0)) F = F true (.lit (.bool true)) := binV_neq0 (by kernel_rfl)
@[go_sem ↓] theorem vfa_99_0 : fadV Try.prog 99 (.ref o z i' off) 0 F = F true (.ref o z i' off) := fadV_ref (x := 0) (ag := false) (m := 1) (by kernel_rfl)
@[go_sem ↓] theorem vfr_99_0 : fadV Try.prog 99 (.rref z l i' off) 0 F = F true (.rref z l i' off) := fadV_rref (x := 0) (ag := false) (m := 1) (by kernel_rfl)
@[go_sem ↓] theorem vld_59 : ldV Try.prog 59 u σ F = rdV u σ (none) F := ldV_of (by kernel_rfl)
@[go_sem ↓] theorem vfa_99_1 : fadV Try.prog 99 (.ref o z i' off) 1 F = F true (.ref o z i' (off + 1)) := fadV_ref (x := 1) (ag := false) (m := 1) (by kernel_rfl)
@[go_sem ↓] theorem vfr_99_1 : fadV Try.prog 99 (.rref z l i' off) 1 F = F true (.rref z l i' (off + 1)) := fadV_rref (x := 1) (ag := false) (m := 1) (by kernel_rfl)
@[go_sem ↓] theorem vcv_28_5 : cvtV Try.prog 28 5 (.lit (.int i a)) F = F true (.lit (.int .u8 (IntKind.wrap .u8 a))) := cvtV_of (by kernel_rfl) (by kernel_rfl)
@[go_sem ↓ high] theorem vcvh_28_5 (h : 0 ≤ a ∧ a ≤ 255) : cvtV Try.prog 28 5 (.lit (.int i a)) F = F true (.lit (.int .u8 a)) := cvtV_u8 (by kernel_rfl) (by kernel_rfl) h
@[go_sem ↓] theorem vis_9 {s : ByteArray} (h : 0 ≤ a ∧ a < s.size) : ixvV Try.prog 9 (.lit (.string s)) (.lit (.int i a)) F = F true (.lit (.int .u8 (strAt s a.toNat))) := ixvV_str (by kernel_rfl) h
@[go_sem ↓] theorem vcv_5_3 : cvtV Try.prog 5 3 (.lit (.int i a)) F = F true (.lit (.int .i64 (IntKind.wrap .i64 a))) := cvtV_of (by kernel_rfl) (by kernel_rfl)
@[go_sem ↓ high] theorem vcvh_5_3 (h : -9223372036854775808 ≤ a ∧ a ≤ 9223372036854775807) : cvtV Try.prog 5 3 (.lit (.int i a)) F = F true (.lit (.int .i64 a)) := cvtV_i64 (by kernel_rfl) (by kernel_rfl) h
@[go_sem ↓ high] theorem vshr_u64_u64_8 {P : Program} {t : TypeId} : binV P .shr t (.lit (.int .u64 a)) (.lit (.int .u64 8)) F = F true (.lit (.int .u64 (a / 256))) := by rw [binV_shr_u64 (by decide)]; rfl
@[go_sem ↓ high] theorem vshr_u64_u64_16 {P : Program} {t : TypeId} : binV P .shr t (.lit (.int .u64 a)) (.lit (.int .u64 16)) F = F true (.lit (.int .u64 (a / 65536))) := by rw [binV_shr_u64 (by decide)]; rfl
@[go_sem ↓ high] theorem vshr_u64_u64_32 {P : Program} {t : TypeId} : binV P .shr t (.lit (.int .u64 a)) (.lit (.int .u64 32)) F = F true (.lit (.int .u64 (a / 4294967296))) := by rw [binV_shr_u64 (by decide)]; rfl
@[go_sem ↓] theorem vcv_5_28 : cvtV Try.prog 5 28 (.lit (.int i a)) F = F true (.lit (.int .u64 (IntKind.wrap .u64 a))) := cvtV_of (by kernel_rfl) (by kernel_rfl)
@[go_sem ↓ high] theorem vcvh_5_28 (h : 0 ≤ a ∧ a ≤ 18446744073709551615) : cvtV Try.prog 5 28 (.lit (.int i a)) F = F true (.lit (.int .u64 a)) := cvtV_u64 (by kernel_rfl) (by kernel_rfl) h
@[go_sem ↓] theorem vfa_96_1 : fadV Try.prog 96 (.ref o z i' off) 1 F = F true (.ref o z i' (off + 1)) := fadV_ref (x := 1) (ag := false) (m := 1) (by kernel_rfl)
@[go_sem ↓] theorem vfr_96_1 : fadV Try.prog 96 (.rref z l i' off) 1 F = F true (.rref z l i' (off + 1)) := fadV_rref (x := 1) (ag := false) (m := 1) (by kernel_rfl)
@[go_sem ↓] theorem vst_3 : stV Try.prog 3 u v σ ks = clK v fun c => lenK c 1 (wrV u σ c ks) := stV_of (by kernel_rfl)
@[go_sem ↓] theorem vfa_96_0 : fadV Try.prog 96 (.ref o z i' off) 0 F = F true (.ref o z i' off) := fadV_ref (x := 0) (ag := false) (m := 1) (by kernel_rfl)
@[go_sem ↓] theorem vfr_96_0 : fadV Try.prog 96 (.rref z l i' off) 0 F = F true (.rref z l i' off) := fadV_rref (x := 0) (ag := false) (m := 1) (by kernel_rfl)
@[go_sem ↓] theorem vld_24 : ldV Try.prog 24 u σ F = rdV u σ (none) F := ldV_of (by kernel_rfl)
@[go_sem ↓ high] theorem vmk_u8_1 {P : Program} {t : TypeId} : binV P .and t (.lit (.int .u8 a)) (.lit (.int .u8 1)) F = F true (.lit (.int .u8 (a % 2))) := binV_mask 1 (by decide) (by decide) (by decide)
@[go_sem ↓] theorem vbs_24_0 {ps : List (Nat × V)} : bslV Try.prog 24 0 ps σ kv = prtK 1 0 ps fun l => lenK l 0 (newO σ (.row 1 l) fun o σ' => kv true (.sl o 1 0 0) σ') := bslV_of (et := 5) (by kernel_rfl) ⟨by kernel_rfl, by decide, by decide⟩
@[go_sem ↓] theorem vap_24_24 : apdV Try.prog e 24 24 u v σ kv = rowK v σ 1 fun m => apdU e 1 1 u m σ kv := apdV_of (et := 5) (ex := 5) (C := [.int .u8 0]) (by kernel_rfl) (by kernel_rfl) (by kernel_rfl) (by kernel_rfl) (by decide) rfl
@[go_sem ↓] theorem vseq_24 : binV Try.prog .eql 24 (.row 1 l) (.lit (.slice none 0 0)) F = nilB .eql l.isEmpty F := binV_seq ⟨by kernel_rfl, by decide⟩
@[go_sem ↓] theorem vsleq_24 : binV Try.prog .eql 24 (.sl o 1 off len) (.lit (.slice none 0 0)) F = nilB .eql (decide (len = 0)) F := binV_leq0 (by kernel_rfl)
@[go_sem ↓] theorem vsneq_24 : binV Try.prog .eql 24 (.lit (.slice none 0 0)) (.lit (.slice none 0 0)) F = F true (.lit (.bool true)) := binV_neq0 (by kernel_rfl)
@[go_sem ↓] theorem vsl_24 : slcV Try.prog 24 (.sl o 1 off len) lo hi none F = bdoK hi len len fun h => bdoK lo 0 h fun l => F true (.sl o 1 (off + l) (h - l)) := slcV_sl (et := 5) (by kernel_rfl)
@[go_sem ↓] theorem vslr_24 : slcV Try.prog 24 (.row 1 l) lo hi none F = bdoK hi l.length l.length fun h => bdoK lo 0 h fun x => F true (.row 1 ((l.take h).drop x)) := slcV_row (et := 5) (by kernel_rfl)
@[go_sem ↓ high] theorem vslm_24 : slcV Try.prog 24 (.row 1 (L.map f)) lo hi none F = bdoK hi L.length L.length fun h => bdoK lo 0 h fun x => F true (.row 1 (((L.take h).drop x).map f)) := slcV_rowm (et := 5) (by kernel_rfl)
@[go_sem ↓] theorem vslx_24 : slcV Try.prog 24 (.xrow 1 (L.map f)) lo hi none F = bdoK hi L.length L.length fun h => bdoK lo 0 h fun x => F true (.row 1 (((L.take h).drop x).map f)) := slcV_xrowm (et := 5) (by kernel_rfl)
@[go_sem ↓] theorem vslf_24 : slcV Try.prog 24 (.row 1 (L.map f)) lo (some u) (some v) F = bdK v L.length fun m => bdK u m fun h => if m = h then bdoK lo 0 h fun x => F true (.xrow 1 (((L.take h).drop x).map f)) else False := slcV_full (et := 5) (by kernel_rfl)
@[go_sem ↓] theorem vsln_24 : slcV Try.prog 24 (.lit (.slice none 0 0)) lo hi none F = bdoK hi 0 0 fun h => bdoK lo 0 h fun _ => F true (.lit (.slice none 0 0)) := slcV_nil (et := 5) (z := 1) (by kernel_rfl)
@[go_sem ↓] theorem vbs_24_1 {ps : List (Nat × V)} : bslV Try.prog 24 1 ps σ kv = prtK 1 0 ps fun l => lenK l 1 (newO σ (.row 1 l) fun o σ' => kv true (.sl o 1 0 1) σ') := bslV_of (et := 5) (by kernel_rfl) ⟨by kernel_rfl, by decide, by decide⟩
@[go_sem ↓] theorem vcv_3_91 : cvtV Try.prog 3 91 (.lit (.int i a)) F = F true (.lit (.int .u64 (IntKind.wrap .u64 a))) := cvtV_of (by kernel_rfl) (by kernel_rfl)
@[go_sem ↓ high] theorem vcvh_3_91 (h : 0 ≤ a ∧ a ≤ 18446744073709551615) : cvtV Try.prog 3 91 (.lit (.int i a)) F = F true (.lit (.int .u64 a)) := cvtV_u64 (by kernel_rfl) (by kernel_rfl) h
@[go_sem ↓] theorem vcv_28_3 : cvtV Try.prog 28 3 (.lit (.int i a)) F = F true (.lit (.int .i64 (IntKind.wrap .i64 a))) := cvtV_of (by kernel_rfl) (by kernel_rfl)
@[go_sem ↓ high] theorem vcvh_28_3 (h : -9223372036854775808 ≤ a ∧ a ≤ 9223372036854775807) : cvtV Try.prog 28 3 (.lit (.int i a)) F = F true (.lit (.int .i64 a)) := cvtV_i64 (by kernel_rfl) (by kernel_rfl) h
@[go_sem ↓] theorem vln_27 : bltV Try.prog e .len [27] [u] σ kv = lenV u fun τ v => kv τ v σ := lenB_of (et := 4) (z := 1) (by kernel_rfl)
@[go_sem ↓] theorem vix_27 (h : 0 ≤ a ∧ a < len) : idxV Try.prog 27 (.sl o 1 off len) (.lit (.int i a)) F = F true (.ref o 1 (off + a.toNat) 0) := idxV_sl (et := 4) (by kernel_rfl) h
@[go_sem ↓ high] theorem vixn_27 (h : m < len) : idxV Try.prog 27 (.sl o 1 off len) (.lit (.int i (m : Int))) F = F true (.ref o 1 (off + m) 0) := idxV_sln (et := 4) (by kernel_rfl) h
@[go_sem ↓] theorem vixr_27 (h : 0 ≤ a ∧ a < l.length) : idxV Try.prog 27 (.row 1 l) (.lit (.int i a)) F = F true (.rref 1 l a.toNat 0) := idxV_row (et := 4) (by kernel_rfl) (by decide) h
@[go_sem ↓ high] theorem vixrn_27 (h : m < l.length) : idxV Try.prog 27 (.row 1 l) (.lit (.int i (m : Int))) F = F true (.rref 1 l m 0) := idxV_rown (et := 4) (by kernel_rfl) (by decide) h
@[go_sem ↓ high] theorem vixm_27 (h : 0 ≤ a ∧ a < L.length) : idxV Try.prog 27 (.row 1 (L.map f)) (.lit (.int i a)) F = F true (.rref 1 (L.map f) a.toNat 0) := idxV_rowm (et := 4) (by kernel_rfl) (by decide) h
@[go_sem ↓ high] theorem vixmn_27 (h : m < L.length) : idxV Try.prog 27 (.row 1 (L.map f)) (.lit (.int i (m : Int))) F = F true (.rref 1 (L.map f) m 0) := idxV_rowmn (et := 4) (by kernel_rfl) (by decide) h
@[go_sem ↓] theorem vld_4 : ldV Try.prog 4 u σ F = rdV u σ (none) F := ldV_of (by kernel_rfl)
@[go_sem ↓] theorem vfa_73_0 : fadV Try.prog 73 (.ref o z i' off) 0 F = F true (.ref o z i' off) := fadV_ref (x := 0) (ag := false) (m := 1) (by kernel_rfl)
@[go_sem ↓] theorem vfr_73_0 : fadV Try.prog 73 (.rref z l i' off) 0 F = F true (.rref z l i' off) := fadV_rref (x := 0) (ag := false) (m := 1) (by kernel_rfl)
@[go_sem ↓] theorem vfa_73_1 : fadV Try.prog 73 (.ref o z i' off) 1 F = F true (.ref o z i' (off + 1)) := fadV_ref (x := 1) (ag := false) (m := 1) (by kernel_rfl)
@[go_sem ↓] theorem vfr_73_1 : fadV Try.prog 73 (.rref z l i' off) 1 F = F true (.rref z l i' (off + 1)) := fadV_rref (x := 1) (ag := false) (m := 1) (by kernel_rfl)
@[go_sem ↓] theorem vst_28 : stV Try.prog 28 u v σ ks = clK v fun c => lenK c 1 (wrV u σ c ks) := stV_of (by kernel_rfl)
@[go_sem ↓] theorem vbd_99 {ps : List (Nat × V)} : bldV Try.prog 99 ps F = allOne ([.slice none 0 0, .int .i64 0, .int .i64 0] : List Value) (fillK (plOf Try.prog 99) ps (([.slice none 0 0, .int .i64 0, .int .i64 0] : List Value).map V.lit) fun l => F true (.agg l)) := bldV_of (by kernel_rfl) (by kernel_rfl) (by kernel_rfl)
@[go_sem ↓] theorem vpl_99_0 {r : List (Nat × V)} {G : List V → Prop} : fillK (plOf Try.prog 99) ((0, u) :: r) us G = clK u fun c => lenK c 1 (wrK us 0 c fun l' => fillK (plOf Try.prog 99) r l' G) := fillK_step (by kernel_rfl)
@[go_sem ↓] theorem vpl_99_1 {r : List (Nat × V)} {G : List V → Prop} : fillK (plOf Try.prog 99) ((1, u) :: r) us G = clK u fun c => lenK c 1 (wrK us 1 c fun l' => fillK (plOf Try.prog 99) r l' G) := fillK_step (by kernel_rfl)
@[go_sem ↓] theorem vpl_99_2 {r : List (Nat × V)} {G : List V → Prop} : fillK (plOf Try.prog 99) ((2, u) :: r) us G = clK u fun c => lenK c 1 (wrK us 2 c fun l' => fillK (plOf Try.prog 99) r l' G) := fillK_step (by kernel_rfl)
@[go_sem ↓] theorem vms_59 : mslV Try.prog 59 u v σ kv = mslU 1 8 [.int .u64 0] u v σ kv := mslV_of (et := 28) (by kernel_rfl) (by kernel_rfl) (by kernel_rfl)
@[go_sem ↓] theorem vmu_59 (h : 0 ≤ a ∧ a * 8 ≤ 140737488355328) : mslU 1 8 [.int .u64 0] (.lit (.int .i64 a)) (.lit (.int .i64 a)) σ kv = newO σ (.row 1 (zrow [.int .u64 0] a.toNat)) fun o σ' => kv true (.sl o 1 0 a.toNat) σ' := by
  rw [mslU_of (C := [.int .u64 0]) (z := 1) ⟨h.1, rfl, h.2, by omega, by decide⟩ rfl]
  simp [allOne, oneC]
@[go_sem ↓ high] theorem vmun_59 (h : m * 8 ≤ 140737488355328) : mslU 1 8 [.int .u64 0] (.lit (.int .i64 (m : Int))) (.lit (.int .i64 (m : Int))) σ kv = newO σ (.row 1 (zrow [.int .u64 0] m)) fun o σ' => kv true (.sl o 1 0 m) σ' := vmu_59 (by omega)
@[go_sem ↓] theorem val_26 : alcV Try.prog 26 σ kv = allOne ([.slice none 0 0, .int .i64 0] : List Value) (newO σ (.cells (([.slice none 0 0, .int .i64 0] : List Value).map V.lit)) fun o σ' => kv true (.ref o 0 0 0) σ') := alcV_of (by kernel_rfl)
@[go_sem ↓] theorem vpeq_67 {x : Option Addr} : binV Try.prog .eql 67 (.lit (.pointer x)) (.lit (.pointer none)) F = F true (.lit (.bool (x.isNone))) := binV_peq (by kernel_rfl)
@[go_sem ↓] theorem vreq_67 {o z i off : Nat} : binV Try.prog .eql 67 (.ref o z i off) (.lit (.pointer none)) F = F true (.lit (.bool false)) := binV_req (by kernel_rfl)
@[go_sem ↓] theorem vfa_26_1 : fadV Try.prog 26 (.ref o z i' off) 1 F = F true (.ref o z i' (off + 1)) := fadV_ref (x := 1) (ag := false) (m := 1) (by kernel_rfl)
@[go_sem ↓] theorem vfr_26_1 : fadV Try.prog 26 (.rref z l i' off) 1 F = F true (.rref z l i' (off + 1)) := fadV_rref (x := 1) (ag := false) (m := 1) (by kernel_rfl)
@[go_sem ↓] theorem vfa_26_0 : fadV Try.prog 26 (.ref o z i' off) 0 F = F true (.ref o z i' off) := fadV_ref (x := 0) (ag := false) (m := 1) (by kernel_rfl)
@[go_sem ↓] theorem vfr_26_0 : fadV Try.prog 26 (.rref z l i' off) 0 F = F true (.rref z l i' off) := fadV_rref (x := 0) (ag := false) (m := 1) (by kernel_rfl)
@[go_sem ↓] theorem vst_5 : stV Try.prog 5 u v σ ks = clK v fun c => lenK c 1 (wrV u σ c ks) := stV_of (by kernel_rfl)
@[go_sem ↓] theorem vst_24 : stV Try.prog 24 u v σ ks = clK v fun c => lenK c 1 (wrV u σ c ks) := stV_of (by kernel_rfl)
@[go_sem ↓ high] theorem vmk_u64_127 {P : Program} {t : TypeId} : binV P .and t (.lit (.int .u64 a)) (.lit (.int .u64 127)) F = F true (.lit (.int .u64 (a % 128))) := binV_mask 7 (by decide) (by decide) (by decide)
@[go_sem ↓] theorem vcv_3_28 : cvtV Try.prog 3 28 (.lit (.int i a)) F = F true (.lit (.int .u64 (IntKind.wrap .u64 a))) := cvtV_of (by kernel_rfl) (by kernel_rfl)
@[go_sem ↓ high] theorem vcvh_3_28 (h : 0 ≤ a ∧ a ≤ 18446744073709551615) : cvtV Try.prog 3 28 (.lit (.int i a)) F = F true (.lit (.int .u64 a)) := cvtV_u64 (by kernel_rfl) (by kernel_rfl) h
@[go_sem ↓] theorem vbs_27_1 {ps : List (Nat × V)} : bslV Try.prog 27 1 ps σ kv = prtK 1 0 ps fun l => lenK l 1 (newO σ (.row 1 l) fun o σ' => kv true (.sl o 1 0 1) σ') := bslV_of (et := 4) (by kernel_rfl) ⟨by kernel_rfl, by decide, by decide⟩
@[go_sem ↓] theorem vap_27_27 : apdV Try.prog e 27 27 u v σ kv = rowK v σ 1 fun m => apdU e 1 1 u m σ kv := apdV_of (et := 4) (ex := 4) (C := [.bool false]) (by kernel_rfl) (by kernel_rfl) (by kernel_rfl) (by kernel_rfl) (by decide) rfl
@[go_sem ↓] theorem vld_96 : ldV Try.prog 96 u σ F = rdV u σ (some 2) F := ldV_of (by kernel_rfl)
@[go_sem ↓] theorem val_96 : alcV Try.prog 96 σ kv = allOne ([.slice none 0 0, .int .i64 0] : List Value) (newO σ (.cells (([.slice none 0 0, .int .i64 0] : List Value).map V.lit)) fun o σ' => kv true (.ref o 0 0 0) σ') := alcV_of (by kernel_rfl)
@[go_sem ↓] theorem vst_96 : stV Try.prog 96 u v σ ks = clK v fun c => lenK c 2 (wrV u σ c ks) := stV_of (by kernel_rfl)
@[go_sem ↓ high] theorem vshr_u64_u64_7 {P : Program} {t : TypeId} : binV P .shr t (.lit (.int .u64 a)) (.lit (.int .u64 7)) F = F true (.lit (.int .u64 (a / 128))) := by rw [binV_shr_u64 (by decide)]; rfl
@[go_sem ↓] theorem vsl_27 : slcV Try.prog 27 (.sl o 1 off len) lo hi none F = bdoK hi len len fun h => bdoK lo 0 h fun l => F true (.sl o 1 (off + l) (h - l)) := slcV_sl (et := 4) (by kernel_rfl)
@[go_sem ↓] theorem vslr_27 : slcV Try.prog 27 (.row 1 l) lo hi none F = bdoK hi l.length l.length fun h => bdoK lo 0 h fun x => F true (.row 1 ((l.take h).drop x)) := slcV_row (et := 4) (by kernel_rfl)
@[go_sem ↓ high] theorem vslm_27 : slcV Try.prog 27 (.row 1 (L.map f)) lo hi none F = bdoK hi L.length L.length fun h => bdoK lo 0 h fun x => F true (.row 1 (((L.take h).drop x).map f)) := slcV_rowm (et := 4) (by kernel_rfl)
@[go_sem ↓] theorem vslx_27 : slcV Try.prog 27 (.xrow 1 (L.map f)) lo hi none F = bdoK hi L.length L.length fun h => bdoK lo 0 h fun x => F true (.row 1 (((L.take h).drop x).map f)) := slcV_xrowm (et := 4) (by kernel_rfl)
@[go_sem ↓] theorem vslf_27 : slcV Try.prog 27 (.row 1 (L.map f)) lo (some u) (some v) F = bdK v L.length fun m => bdK u m fun h => if m = h then bdoK lo 0 h fun x => F true (.xrow 1 (((L.take h).drop x).map f)) else False := slcV_full (et := 4) (by kernel_rfl)
@[go_sem ↓] theorem vsln_27 : slcV Try.prog 27 (.lit (.slice none 0 0)) lo hi none F = bdoK hi 0 0 fun h => bdoK lo 0 h fun _ => F true (.lit (.slice none 0 0)) := slcV_nil (et := 4) (z := 1) (by kernel_rfl)
@[go_sem ↓ high] theorem vshl_u64_u64_1 {P : Program} {t : TypeId} : binV P .shl t (.lit (.int .u64 a)) (.lit (.int .u64 1)) F = F true (.lit (.int .u64 (IntKind.wrap .u64 (a * 2)))) := by rw [binV_shl_u64 (by decide)]; rfl
@[go_sem ↓] theorem vbd_96 {ps : List (Nat × V)} : bldV Try.prog 96 ps F = allOne ([.slice none 0 0, .int .i64 0] : List Value) (fillK (plOf Try.prog 96) ps (([.slice none 0 0, .int .i64 0] : List Value).map V.lit) fun l => F true (.agg l)) := bldV_of (by kernel_rfl) (by kernel_rfl) (by kernel_rfl)
@[go_sem ↓] theorem vpl_96_0 {r : List (Nat × V)} {G : List V → Prop} : fillK (plOf Try.prog 96) ((0, u) :: r) us G = clK u fun c => lenK c 1 (wrK us 0 c fun l' => fillK (plOf Try.prog 96) r l' G) := fillK_step (by kernel_rfl)
@[go_sem ↓] theorem vcv_3_5 : cvtV Try.prog 3 5 (.lit (.int i a)) F = F true (.lit (.int .u8 (IntKind.wrap .u8 a))) := cvtV_of (by kernel_rfl) (by kernel_rfl)
@[go_sem ↓ high] theorem vcvh_3_5 (h : 0 ≤ a ∧ a ≤ 255) : cvtV Try.prog 3 5 (.lit (.int i a)) F = F true (.lit (.int .u8 a)) := cvtV_u8 (by kernel_rfl) (by kernel_rfl) h
@[go_sem ↓] theorem vcp_24_24 : cpyV Try.prog 24 24 u v σ kv = rowK v σ 1 fun m => cpyU 1 u m σ kv := cpyV_of (et := 5) (ex := 5) (by kernel_rfl) (by kernel_rfl)
@[go_sem ↓] theorem vms_24 : mslV Try.prog 24 u v σ kv = mslU 1 1 [.int .u8 0] u v σ kv := mslV_of (et := 5) (by kernel_rfl) (by kernel_rfl) (by kernel_rfl)
@[go_sem ↓] theorem vmu_24 (h : 0 ≤ a ∧ a * 1 ≤ 140737488355328) : mslU 1 1 [.int .u8 0] (.lit (.int .i64 a)) (.lit (.int .i64 a)) σ kv = newO σ (.row 1 (zrow [.int .u8 0] a.toNat)) fun o σ' => kv true (.sl o 1 0 a.toNat) σ' := by
  rw [mslU_of (C := [.int .u8 0]) (z := 1) ⟨h.1, rfl, h.2, by omega, by decide⟩ rfl]
  simp [allOne, oneC]
@[go_sem ↓ high] theorem vmun_24 (h : m * 1 ≤ 140737488355328) : mslU 1 1 [.int .u8 0] (.lit (.int .i64 (m : Int))) (.lit (.int .i64 (m : Int))) σ kv = newO σ (.row 1 (zrow [.int .u8 0] m)) fun o σ' => kv true (.sl o 1 0 m) σ' := vmu_24 (by omega)
@[go_sem ↓] theorem vbs_27_0 {ps : List (Nat × V)} : bslV Try.prog 27 0 ps σ kv = prtK 1 0 ps fun l => lenK l 0 (newO σ (.row 1 l) fun o σ' => kv true (.sl o 1 0 0) σ') := bslV_of (et := 4) (by kernel_rfl) ⟨by kernel_rfl, by decide, by decide⟩
@[go_sem ↓ high] theorem vmk_u64_1 {P : Program} {t : TypeId} : binV P .and t (.lit (.int .u64 a)) (.lit (.int .u64 1)) F = F true (.lit (.int .u64 (a % 2))) := binV_mask 1 (by decide) (by decide) (by decide)
@[go_sem ↓] theorem vix_51 (h : 0 ≤ a ∧ a < len) : idxV Try.prog 51 (.sl o 1 off len) (.lit (.int i a)) F = F true (.ref o 1 (off + a.toNat) 0) := idxV_sl (et := 3) (by kernel_rfl) h
@[go_sem ↓ high] theorem vixn_51 (h : m < len) : idxV Try.prog 51 (.sl o 1 off len) (.lit (.int i (m : Int))) F = F true (.ref o 1 (off + m) 0) := idxV_sln (et := 3) (by kernel_rfl) h
@[go_sem ↓] theorem vixr_51 (h : 0 ≤ a ∧ a < l.length) : idxV Try.prog 51 (.row 1 l) (.lit (.int i a)) F = F true (.rref 1 l a.toNat 0) := idxV_row (et := 3) (by kernel_rfl) (by decide) h
@[go_sem ↓ high] theorem vixrn_51 (h : m < l.length) : idxV Try.prog 51 (.row 1 l) (.lit (.int i (m : Int))) F = F true (.rref 1 l m 0) := idxV_rown (et := 3) (by kernel_rfl) (by decide) h
@[go_sem ↓ high] theorem vixm_51 (h : 0 ≤ a ∧ a < L.length) : idxV Try.prog 51 (.row 1 (L.map f)) (.lit (.int i a)) F = F true (.rref 1 (L.map f) a.toNat 0) := idxV_rowm (et := 3) (by kernel_rfl) (by decide) h
@[go_sem ↓ high] theorem vixmn_51 (h : m < L.length) : idxV Try.prog 51 (.row 1 (L.map f)) (.lit (.int i (m : Int))) F = F true (.rref 1 (L.map f) m 0) := idxV_rowmn (et := 3) (by kernel_rfl) (by decide) h
@[go_sem ↓ high] theorem vmk_i64_3 {P : Program} {t : TypeId} : binV P .and t (.lit (.int .i64 a)) (.lit (.int .i64 3)) F = F true (.lit (.int .i64 (a % 4))) := binV_mask 2 (by decide) (by decide) (by decide)
@[go_sem ↓ high] theorem vshr_u64_u64_1 {P : Program} {t : TypeId} : binV P .shr t (.lit (.int .u64 a)) (.lit (.int .u64 1)) F = F true (.lit (.int .u64 (a / 2))) := by rw [binV_shr_u64 (by decide)]; rfl
@[go_sem ↓] theorem vln_51 : bltV Try.prog e .len [51] [u] σ kv = lenV u fun τ v => kv τ v σ := lenB_of (et := 3) (z := 1) (by kernel_rfl)
@[go_sem ↓] theorem via_84 (h : 0 ≤ a ∧ a < 2) : idxV Try.prog 84 (.ref o 0 0 off) (.lit (.int i a)) F = F true (.ref o 1 a.toNat off) := idxV_ar (et := 3) (by kernel_rfl) h
@[go_sem ↓ high] theorem vian_84 (h : m < 2) : idxV Try.prog 84 (.ref o 0 0 off) (.lit (.int i (m : Int))) F = F true (.ref o 1 m off) := idxV_arn (et := 3) (by kernel_rfl) h
@[go_sem ↓] theorem vfa_86_0 : fadV Try.prog 86 (.ref o z i' off) 0 F = F true (.ref o z i' off) := fadV_ref (x := 0) (ag := false) (m := 1) (by kernel_rfl)
@[go_sem ↓] theorem vfr_86_0 : fadV Try.prog 86 (.rref z l i' off) 0 F = F true (.rref z l i' off) := fadV_rref (x := 0) (ag := false) (m := 1) (by kernel_rfl)
@[go_sem ↓ high] theorem vmk_i64_63 {P : Program} {t : TypeId} : binV P .and t (.lit (.int .i64 a)) (.lit (.int .i64 63)) F = F true (.lit (.int .i64 (a % 64))) := binV_mask 6 (by decide) (by decide) (by decide)
@[go_sem ↓] theorem vfa_86_1 : fadV Try.prog 86 (.ref o z i' off) 1 F = F true (.ref o z i' (off + 1)) := fadV_ref (x := 1) (ag := false) (m := 1) (by kernel_rfl)
@[go_sem ↓] theorem vfr_86_1 : fadV Try.prog 86 (.rref z l i' off) 1 F = F true (.rref z l i' (off + 1)) := fadV_rref (x := 1) (ag := false) (m := 1) (by kernel_rfl)
@[go_sem ↓ high] theorem vmk_i64_31 {P : Program} {t : TypeId} : binV P .and t (.lit (.int .i64 a)) (.lit (.int .i64 31)) F = F true (.lit (.int .i64 (a % 32))) := binV_mask 5 (by decide) (by decide) (by decide)
@[go_sem ↓] theorem vfa_86_2 : fadV Try.prog 86 (.ref o z i' off) 2 F = F true (.ref o z i' (off + 2)) := fadV_ref (x := 2) (ag := false) (m := 1) (by kernel_rfl)
@[go_sem ↓] theorem vfr_86_2 : fadV Try.prog 86 (.rref z l i' off) 2 F = F true (.rref z l i' (off + 2)) := fadV_rref (x := 2) (ag := false) (m := 1) (by kernel_rfl)
@[go_sem ↓] theorem vfa_86_3 : fadV Try.prog 86 (.ref o z i' off) 3 F = F true (.ref o z i' (off + 3)) := fadV_ref (x := 3) (ag := true) (m := 2) (by kernel_rfl)
@[go_sem ↓] theorem vfr_86_3 : fadV Try.prog 86 (.rref z l i' off) 3 F = F true (.rref z l i' (off + 3)) := fadV_rref (x := 3) (ag := true) (m := 2) (by kernel_rfl)
@[go_sem ↓] theorem vld_84 : ldV Try.prog 84 u σ F = rdV u σ (some 2) F := ldV_of (by kernel_rfl)
@[go_sem ↓] theorem val_84 : alcV Try.prog 84 σ kv = allOne ([.int .i64 0, .int .i64 0] : List Value) (newO σ (.cells (([.int .i64 0, .int .i64 0] : List Value).map V.lit)) fun o σ' => kv true (.ref o 0 0 0) σ') := alcV_of (by kernel_rfl)
@[go_sem ↓] theorem vst_84 : stV Try.prog 84 u v σ ks = clK v fun c => lenK c 2 (wrV u σ c ks) := stV_of (by kernel_rfl)
@[go_sem ↓] theorem via_79 (h : 0 ≤ a ∧ a < 3) : idxV Try.prog 79 (.ref o 0 0 off) (.lit (.int i a)) F = F true (.ref o 1 a.toNat off) := idxV_ar (et := 3) (by kernel_rfl) h
@[go_sem ↓ high] theorem vian_79 (h : m < 3) : idxV Try.prog 79 (.ref o 0 0 off) (.lit (.int i (m : Int))) F = F true (.ref o 1 m off) := idxV_arn (et := 3) (by kernel_rfl) h
@[go_sem ↓] theorem vbne_4 {x y : Bool} : binV Try.prog .neq 4 (.lit (.bool x)) (.lit (.bool y)) F = F true (.lit (.bool (!(x == y)))) := binV_bne (by kernel_rfl)
@[go_sem ↓] theorem vix_66 (h : 0 ≤ a ∧ a < len) : idxV Try.prog 66 (.sl o 2 off len) (.lit (.int i a)) F = F true (.ref o 2 (off + a.toNat) 0) := idxV_sl (et := 73) (by kernel_rfl) h
@[go_sem ↓ high] theorem vixn_66 (h : m < len) : idxV Try.prog 66 (.sl o 2 off len) (.lit (.int i (m : Int))) F = F true (.ref o 2 (off + m) 0) := idxV_sln (et := 73) (by kernel_rfl) h
@[go_sem ↓] theorem vixr_66 (h : 0 ≤ a ∧ a < l.length) : idxV Try.prog 66 (.row 2 l) (.lit (.int i a)) F = F true (.rref 2 l a.toNat 0) := idxV_row (et := 73) (by kernel_rfl) (by decide) h
@[go_sem ↓ high] theorem vixrn_66 (h : m < l.length) : idxV Try.prog 66 (.row 2 l) (.lit (.int i (m : Int))) F = F true (.rref 2 l m 0) := idxV_rown (et := 73) (by kernel_rfl) (by decide) h
@[go_sem ↓ high] theorem vixm_66 (h : 0 ≤ a ∧ a < L.length) : idxV Try.prog 66 (.row 2 (L.map f)) (.lit (.int i a)) F = F true (.rref 2 (L.map f) a.toNat 0) := idxV_rowm (et := 73) (by kernel_rfl) (by decide) h
@[go_sem ↓ high] theorem vixmn_66 (h : m < L.length) : idxV Try.prog 66 (.row 2 (L.map f)) (.lit (.int i (m : Int))) F = F true (.rref 2 (L.map f) m 0) := idxV_rowmn (et := 73) (by kernel_rfl) (by decide) h
@[go_sem ↓] theorem vld_73 : ldV Try.prog 73 u σ F = rdV u σ (some 2) F := ldV_of (by kernel_rfl)
@[go_sem ↓] theorem vln_66 : bltV Try.prog e .len [66] [u] σ kv = lenV u fun τ v => kv τ v σ := lenB_of (et := 73) (z := 2) (by kernel_rfl)
@[go_sem ↓] theorem vbeq_4 {x y : Bool} : binV Try.prog .eql 4 (.lit (.bool x)) (.lit (.bool y)) F = F true (.lit (.bool (x == y))) := binV_beq (by kernel_rfl)
@[go_sem ↓] theorem vfa_30_0 : fadV Try.prog 30 (.ref o z i' off) 0 F = F true (.ref o z i' off) := fadV_ref (x := 0) (ag := false) (m := 1) (by kernel_rfl)
@[go_sem ↓] theorem vfr_30_0 : fadV Try.prog 30 (.rref z l i' off) 0 F = F true (.rref z l i' off) := fadV_rref (x := 0) (ag := false) (m := 1) (by kernel_rfl)
@[go_sem ↓] theorem vfa_30_1 : fadV Try.prog 30 (.ref o z i' off) 1 F = F true (.ref o z i' (off + 1)) := fadV_ref (x := 1) (ag := false) (m := 1) (by kernel_rfl)
@[go_sem ↓] theorem vfr_30_1 : fadV Try.prog 30 (.rref z l i' off) 1 F = F true (.rref z l i' (off + 1)) := fadV_rref (x := 1) (ag := false) (m := 1) (by kernel_rfl)
@[go_sem ↓] theorem vix_22 (h : 0 ≤ a ∧ a < len) : idxV Try.prog 22 (.sl o 2 off len) (.lit (.int i a)) F = F true (.ref o 2 (off + a.toNat) 0) := idxV_sl (et := 30) (by kernel_rfl) h
@[go_sem ↓ high] theorem vixn_22 (h : m < len) : idxV Try.prog 22 (.sl o 2 off len) (.lit (.int i (m : Int))) F = F true (.ref o 2 (off + m) 0) := idxV_sln (et := 30) (by kernel_rfl) h
@[go_sem ↓] theorem vixr_22 (h : 0 ≤ a ∧ a < l.length) : idxV Try.prog 22 (.row 2 l) (.lit (.int i a)) F = F true (.rref 2 l a.toNat 0) := idxV_row (et := 30) (by kernel_rfl) (by decide) h
@[go_sem ↓ high] theorem vixrn_22 (h : m < l.length) : idxV Try.prog 22 (.row 2 l) (.lit (.int i (m : Int))) F = F true (.rref 2 l m 0) := idxV_rown (et := 30) (by kernel_rfl) (by decide) h
@[go_sem ↓ high] theorem vixm_22 (h : 0 ≤ a ∧ a < L.length) : idxV Try.prog 22 (.row 2 (L.map f)) (.lit (.int i a)) F = F true (.rref 2 (L.map f) a.toNat 0) := idxV_rowm (et := 30) (by kernel_rfl) (by decide) h
@[go_sem ↓ high] theorem vixmn_22 (h : m < L.length) : idxV Try.prog 22 (.row 2 (L.map f)) (.lit (.int i (m : Int))) F = F true (.rref 2 (L.map f) m 0) := idxV_rowmn (et := 30) (by kernel_rfl) (by decide) h
@[go_sem ↓] theorem vld_30 : ldV Try.prog 30 u σ F = rdV u σ (some 2) F := ldV_of (by kernel_rfl)
@[go_sem ↓] theorem val_30 : alcV Try.prog 30 σ kv = allOne ([.int .u64 0, .int .i64 0] : List Value) (newO σ (.cells (([.int .u64 0, .int .i64 0] : List Value).map V.lit)) fun o σ' => kv true (.ref o 0 0 0) σ') := alcV_of (by kernel_rfl)
@[go_sem ↓] theorem vst_30 : stV Try.prog 30 u v σ ks = clK v fun c => lenK c 2 (wrV u σ c ks) := stV_of (by kernel_rfl)
@[go_sem ↓] theorem vln_22 : bltV Try.prog e .len [22] [u] σ kv = lenV u fun τ v => kv τ v σ := lenB_of (et := 30) (z := 2) (by kernel_rfl)
@[go_sem ↓] theorem vbs_22_1 {ps : List (Nat × V)} : bslV Try.prog 22 1 ps σ kv = prtK 2 0 ps fun l => lenK l 1 (newO σ (.row 2 l) fun o σ' => kv true (.sl o 2 0 1) σ') := bslV_of (et := 30) (by kernel_rfl) ⟨by kernel_rfl, by decide, by decide⟩
@[go_sem ↓] theorem vap_22_22 : apdV Try.prog e 22 22 u v σ kv = rowK v σ 2 fun m => apdU e 2 16 u m σ kv := apdV_of (et := 30) (ex := 30) (C := [.int .u64 0, .int .i64 0]) (by kernel_rfl) (by kernel_rfl) (by kernel_rfl) (by kernel_rfl) (by decide) rfl
end
end Go.Proofs.Ythbcfjlalmhabaa
