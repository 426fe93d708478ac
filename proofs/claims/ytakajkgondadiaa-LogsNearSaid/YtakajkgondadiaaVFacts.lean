import Derived.Test.YtakajkgondadiaaVl
import Derived.Test.YtakajkgondadiaaProg
import Derived.KernelRfl
/-! Facts on the program's types and plans of its regions, printed by a program of the prover's own. -/
namespace Go.Proofs.Ytakajkgondadiaa
open Go.Eng Go.Vx
set_option linter.unusedVariables false
set_option linter.unusedSimpArgs false
set_option maxRecDepth 100000
section
variable {u v : V} {σ : St} {F : FV} {kv : KV} {ks : KS} {e : Bool} {i : IntKind} {a : Int} {o z i' off len m : Nat} {l : List (List PV)} {us : List V} {β : Type} {L : List β} {f : β → List PV} {lo hi : Option V}
def pl2 : Plans := fun id => match id with
  | _ => []
def pl3 : Plans := fun id => match id with
  | _ => []
def pl4 : Plans := fun id => match id with
  | 11 => [(0, (5, 0)), (3, (5, 0)), (1, (0, 0)), (2, (5, 0)), (6, (5, 0)), (4, (0, 0)), (5, (5, 0)), (7, (5, 0))]
  | _ => []
@[go_sem ↓] theorem pl4_11 : pl4 11 = [(0, (5, 0)), (3, (5, 0)), (1, (0, 0)), (2, (5, 0)), (6, (5, 0)), (4, (0, 0)), (5, (5, 0)), (7, (5, 0))] := (rfl)
def pl5 : Plans := fun id => match id with
  | _ => []
def pl6 : Plans := fun id => match id with
  | _ => []
def pl7 : Plans := fun id => match id with
  | _ => []
def pl8 : Plans := fun id => match id with
  | 4 => [(0, (0, 0)), (1, (0, 0)), (2, (0, 0)), (3, (1, 0)), (4, (1, 0)), (5, (2, 0))]
  | _ => []
@[go_sem ↓] theorem pl8_4 : pl8 4 = [(0, (0, 0)), (1, (0, 0)), (2, (0, 0)), (3, (1, 0)), (4, (1, 0)), (5, (2, 0))] := (rfl)
def pl9 : Plans := fun id => match id with
  | _ => []
def pl10 : Plans := fun id => match id with
  | _ => []
def pl11 : Plans := fun id => match id with
  | 1 => [(0, (5, 0)), (1, (0, 0)), (2, (5, 0)), (5, (0, 0)), (6, (5, 0)), (3, (4, 0)), (7, (4, 0)), (3, (3, 0)), (4, (1, 0)), (7, (3, 0)), (8, (2, 0)), (9, (2, 0)), (10, (5, 0)), (11, (5, 0)), (12, (5, 0)), (13, (5, 0))]
  | _ => []
@[go_sem ↓] theorem pl11_1 : pl11 1 = [(0, (5, 0)), (1, (0, 0)), (2, (5, 0)), (5, (0, 0)), (6, (5, 0)), (3, (4, 0)), (7, (4, 0)), (3, (3, 0)), (4, (1, 0)), (7, (3, 0)), (8, (2, 0)), (9, (2, 0)), (10, (5, 0)), (11, (5, 0)), (12, (5, 0)), (13, (5, 0))] := (rfl)
def pl12 : Plans := fun id => match id with
  | _ => []
def pl13 : Plans := fun id => match id with
  | _ => []
def pl14 : Plans := fun id => match id with
  | 1 => [(0, (5, 0)), (1, (0, 0)), (2, (5, 0)), (5, (0, 0)), (6, (5, 0)), (9, (0, 0)), (3, (4, 0)), (7, (4, 0)), (3, (3, 0)), (4, (1, 0)), (7, (3, 0)), (8, (1, 0)), (10, (2, 0)), (11, (5, 0)), (12, (5, 0)), (13, (5, 0)), (14, (5, 0))]
  | _ => []
@[go_sem ↓] theorem pl14_1 : pl14 1 = [(0, (5, 0)), (1, (0, 0)), (2, (5, 0)), (5, (0, 0)), (6, (5, 0)), (9, (0, 0)), (3, (4, 0)), (7, (4, 0)), (3, (3, 0)), (4, (1, 0)), (7, (3, 0)), (8, (1, 0)), (10, (2, 0)), (11, (5, 0)), (12, (5, 0)), (13, (5, 0)), (14, (5, 0))] := (rfl)
def pl15 : Plans := fun id => match id with
  | _ => []
def pl16 : Plans := fun id => match id with
  | _ => []
def pl17 : Plans := fun id => match id with
  | 2 => [(0, (5, 0)), (1, (0, 0)), (2, (5, 0)), (5, (0, 0)), (6, (5, 0)), (9, (0, 0)), (3, (4, 0)), (7, (4, 0)), (3, (3, 0)), (4, (1, 0)), (7, (3, 0)), (8, (1, 0)), (10, (2, 0)), (11, (5, 0)), (12, (5, 0)), (13, (5, 0)), (14, (5, 0)), (15, (5, 0))]
  | _ => []
@[go_sem ↓] theorem pl17_2 : pl17 2 = [(0, (5, 0)), (1, (0, 0)), (2, (5, 0)), (5, (0, 0)), (6, (5, 0)), (9, (0, 0)), (3, (4, 0)), (7, (4, 0)), (3, (3, 0)), (4, (1, 0)), (7, (3, 0)), (8, (1, 0)), (10, (2, 0)), (11, (5, 0)), (12, (5, 0)), (13, (5, 0)), (14, (5, 0)), (15, (5, 0))] := (rfl)
def pl18 : Plans := fun id => match id with
  | _ => []
def pl19 : Plans := fun id => match id with
  | _ => []
def pl20 : Plans := fun id => match id with
  | _ => []
def pl21 : Plans := fun id => match id with
  | _ => []
def pl22 : Plans := fun id => match id with
  | _ => []
def pl23 : Plans := fun id => match id with
  | _ => []
def pl24 : Plans := fun id => match id with
  | _ => []
def pl25 : Plans := fun id => match id with
  | 5 => [(1, (5, 0)), (2, (5, 0)), (4, (5, 0)), (0, (0, 0)), (3, (0, 0)), (5, (0, 0)), (6, (5, 0)), (7, (1, 0)), (8, (1, 0)), (9, (2, 0))]
  | 6 => [(1, (5, 0)), (2, (5, 0)), (4, (5, 0)), (0, (0, 0)), (3, (0, 0)), (5, (0, 0)), (6, (5, 0)), (7, (1, 0)), (8, (1, 0)), (9, (2, 0))]
  | _ => []
@[go_sem ↓] theorem pl25_5 : pl25 5 = [(1, (5, 0)), (2, (5, 0)), (4, (5, 0)), (0, (0, 0)), (3, (0, 0)), (5, (0, 0)), (6, (5, 0)), (7, (1, 0)), (8, (1, 0)), (9, (2, 0))] := (rfl)
@[go_sem ↓] theorem pl25_6 : pl25 6 = [(1, (5, 0)), (2, (5, 0)), (4, (5, 0)), (0, (0, 0)), (3, (0, 0)), (5, (0, 0)), (6, (5, 0)), (7, (1, 0)), (8, (1, 0)), (9, (2, 0))] := (rfl)
def pl26 : Plans := fun id => match id with
  | 1 => [(0, (5, 0)), (1, (5, 0)), (2, (5, 0)), (3, (5, 0)), (4, (0, 0)), (5, (5, 0)), (6, (0, 0)), (7, (0, 0)), (8, (0, 0)), (9, (0, 0)), (10, (0, 0)), (11, (0, 0)), (12, (0, 0)), (13, (0, 0)), (14, (0, 0)), (15, (0, 0)), (16, (0, 0)), (17, (5, 0))]
  | 5 => [(0, (5, 0)), (1, (5, 0)), (2, (5, 0)), (4, (5, 0)), (5, (5, 0)), (6, (5, 0)), (7, (5, 0)), (3, (0, 0)), (8, (0, 0)), (9, (5, 0)), (10, (5, 0)), (11, (0, 0)), (12, (5, 0)), (13, (5, 0))]
  | _ => []
@[go_sem ↓] theorem pl26_1 : pl26 1 = [(0, (5, 0)), (1, (5, 0)), (2, (5, 0)), (3, (5, 0)), (4, (0, 0)), (5, (5, 0)), (6, (0, 0)), (7, (0, 0)), (8, (0, 0)), (9, (0, 0)), (10, (0, 0)), (11, (0, 0)), (12, (0, 0)), (13, (0, 0)), (14, (0, 0)), (15, (0, 0)), (16, (0, 0)), (17, (5, 0))] := (rfl)
@[go_sem ↓] theorem pl26_5 : pl26 5 = [(0, (5, 0)), (1, (5, 0)), (2, (5, 0)), (4, (5, 0)), (5, (5, 0)), (6, (5, 0)), (7, (5, 0)), (3, (0, 0)), (8, (0, 0)), (9, (5, 0)), (10, (5, 0)), (11, (0, 0)), (12, (5, 0)), (13, (5, 0))] := (rfl)
def pl27 : Plans := fun id => match id with
  | _ => []
def pl28 : Plans := fun id => match id with
  | _ => []
def pl29 : Plans := fun id => match id with
  | 7 => [(0, (5, 0)), (2, (5, 0)), (5, (5, 0)), (7, (5, 0)), (1, (0, 0)), (3, (5, 0)), (4, (0, 0)), (10, (5, 0)), (6, (0, 0)), (8, (5, 0)), (9, (0, 0)), (11, (5, 0))]
  | _ => []
@[go_sem ↓] theorem pl29_7 : pl29 7 = [(0, (5, 0)), (2, (5, 0)), (5, (5, 0)), (7, (5, 0)), (1, (0, 0)), (3, (5, 0)), (4, (0, 0)), (10, (5, 0)), (6, (0, 0)), (8, (5, 0)), (9, (0, 0)), (11, (5, 0))] := (rfl)
def pl30 : Plans := fun id => match id with
  | _ => []
def pl31 : Plans := fun id => match id with
  | _ => []
def pl32 : Plans := fun id => match id with
  | _ => []
def pl33 : Plans := fun id => match id with
  | _ => []
def pl34 : Plans := fun id => match id with
  | _ => []
def pl35 : Plans := fun id => match id with
  | _ => []
def pl36 : Plans := fun id => match id with
  | _ => []
def pl37 : Plans := fun id => match id with
  | _ => []
def pl38 : Plans := fun id => match id with
  | _ => []
def pl41 : Plans := fun id => match id with
  | _ => []
@[go_sem ↓] theorem vct_72_5 : cvtV Try.prog 72 5 (.lit (.int i a)) F = F true (.lit (.int .u8 (IntKind.wrap .u8 a))) := cvtV_of (by kernel_rfl) (by kernel_rfl)
@[go_sem ↓ high] theorem vcth_72_5 (h : 0 ≤ a ∧ a ≤ 255) : cvtV Try.prog 72 5 (.lit (.int i a)) F = F true (.lit (.int .u8 a)) := cvtV_u8 (by kernel_rfl) (by kernel_rfl) h
@[go_sem ↓] theorem vcv_72_5 : cvsV Try.prog 72 5 (.lit (.int i a)) σ F = F true (.lit (.int .u8 (IntKind.wrap .u8 a))) := (cvsV_num (by kernel_rfl)).trans (cvtV_of (by kernel_rfl) (by kernel_rfl))
@[go_sem ↓ high] theorem vcvh_72_5 (h : 0 ≤ a ∧ a ≤ 255) : cvsV Try.prog 72 5 (.lit (.int i a)) σ F = F true (.lit (.int .u8 a)) := (cvsV_num (by kernel_rfl)).trans (cvtV_u8 (by kernel_rfl) (by kernel_rfl) h)
@[go_sem ↓] theorem visb_9 {s : List UInt8} (h : 0 ≤ a ∧ a < s.length) : ixvV Try.prog 9 (.lit (.string (bs s))) (.lit (.int i a)) F = F true (.lit (.int .u8 ((s.getD a.toNat 0).toNat : Int))) := ixvV_bs (by kernel_rfl) h
@[go_sem ↓ high] theorem visn_9 {s : List UInt8} (h : m < s.length) : ixvV Try.prog 9 (.lit (.string (bs s))) (.lit (.int i (m : Int))) F = F true (.lit (.int .u8 ((s.getD m 0).toNat : Int))) := ixvV_bsn (by kernel_rfl) h
@[go_sem ↓] theorem vis_9 {s : ByteArray} (h : 0 ≤ a ∧ a < s.size) : ixvV Try.prog 9 (.lit (.string s)) (.lit (.int i a)) F = F true (.lit (.int .u8 (strAt s a.toNat))) := ixvV_str (by kernel_rfl) h
@[go_sem ↓] theorem vct_5_3 : cvtV Try.prog 5 3 (.lit (.int i a)) F = F true (.lit (.int .i64 (IntKind.wrap .i64 a))) := cvtV_of (by kernel_rfl) (by kernel_rfl)
@[go_sem ↓ high] theorem vcth_5_3 (h : -9223372036854775808 ≤ a ∧ a ≤ 9223372036854775807) : cvtV Try.prog 5 3 (.lit (.int i a)) F = F true (.lit (.int .i64 a)) := cvtV_i64 (by kernel_rfl) (by kernel_rfl) h
@[go_sem ↓] theorem vcv_5_3 : cvsV Try.prog 5 3 (.lit (.int i a)) σ F = F true (.lit (.int .i64 (IntKind.wrap .i64 a))) := (cvsV_num (by kernel_rfl)).trans (cvtV_of (by kernel_rfl) (by kernel_rfl))
@[go_sem ↓ high] theorem vcvh_5_3 (h : -9223372036854775808 ≤ a ∧ a ≤ 9223372036854775807) : cvsV Try.prog 5 3 (.lit (.int i a)) σ F = F true (.lit (.int .i64 a)) := (cvsV_num (by kernel_rfl)).trans (cvtV_i64 (by kernel_rfl) (by kernel_rfl) h)
@[go_sem ↓ high] theorem vshr_u32_u64_8 {P : Program} {t : TypeId} : binV P .shr t (.lit (.int .u32 a)) (.lit (.int .u64 8)) F = F true (.lit (.int .u32 (a / 256))) := by rw [binV_shr_u32 (by decide)]; rfl
@[go_sem ↓ high] theorem vshr_u32_u64_16 {P : Program} {t : TypeId} : binV P .shr t (.lit (.int .u32 a)) (.lit (.int .u64 16)) F = F true (.lit (.int .u32 (a / 65536))) := by rw [binV_shr_u32 (by decide)]; rfl
@[go_sem ↓ high] theorem vshr_u64_u64_32 {P : Program} {t : TypeId} : binV P .shr t (.lit (.int .u64 a)) (.lit (.int .u64 32)) F = F true (.lit (.int .u64 (a / 4294967296))) := by rw [binV_shr_u64 (by decide)]; rfl
@[go_sem ↓ high] theorem vmk_u64_4294967295 {P : Program} {t : TypeId} : binV P .and t (.lit (.int .u64 a)) (.lit (.int .u64 4294967295)) F = F true (.lit (.int .u64 (a % 4294967296))) := binV_mask 32 (by decide) (by decide) (by decide)
@[go_sem ↓] theorem vct_37_72 : cvtV Try.prog 37 72 (.lit (.int i a)) F = F true (.lit (.int .u32 (IntKind.wrap .u32 a))) := cvtV_of (by kernel_rfl) (by kernel_rfl)
@[go_sem ↓ high] theorem vcth_37_72 (h : 0 ≤ a ∧ a ≤ 4294967295) : cvtV Try.prog 37 72 (.lit (.int i a)) F = F true (.lit (.int .u32 a)) := cvtV_u32 (by kernel_rfl) (by kernel_rfl) h
@[go_sem ↓] theorem vcv_37_72 : cvsV Try.prog 37 72 (.lit (.int i a)) σ F = F true (.lit (.int .u32 (IntKind.wrap .u32 a))) := (cvsV_num (by kernel_rfl)).trans (cvtV_of (by kernel_rfl) (by kernel_rfl))
@[go_sem ↓ high] theorem vcvh_37_72 (h : 0 ≤ a ∧ a ≤ 4294967295) : cvsV Try.prog 37 72 (.lit (.int i a)) σ F = F true (.lit (.int .u32 a)) := (cvsV_num (by kernel_rfl)).trans (cvtV_u32 (by kernel_rfl) (by kernel_rfl) h)
@[go_sem ↓] theorem vct_36_5 : cvtV Try.prog 36 5 (.lit (.int i a)) F = F true (.lit (.int .u8 (IntKind.wrap .u8 a))) := cvtV_of (by kernel_rfl) (by kernel_rfl)
@[go_sem ↓ high] theorem vcth_36_5 (h : 0 ≤ a ∧ a ≤ 255) : cvtV Try.prog 36 5 (.lit (.int i a)) F = F true (.lit (.int .u8 a)) := cvtV_u8 (by kernel_rfl) (by kernel_rfl) h
@[go_sem ↓] theorem vcv_36_5 : cvsV Try.prog 36 5 (.lit (.int i a)) σ F = F true (.lit (.int .u8 (IntKind.wrap .u8 a))) := (cvsV_num (by kernel_rfl)).trans (cvtV_of (by kernel_rfl) (by kernel_rfl))
@[go_sem ↓ high] theorem vcvh_36_5 (h : 0 ≤ a ∧ a ≤ 255) : cvsV Try.prog 36 5 (.lit (.int i a)) σ F = F true (.lit (.int .u8 a)) := (cvsV_num (by kernel_rfl)).trans (cvtV_u8 (by kernel_rfl) (by kernel_rfl) h)
@[go_sem ↓ high] theorem vshr_u64_u64_8 {P : Program} {t : TypeId} : binV P .shr t (.lit (.int .u64 a)) (.lit (.int .u64 8)) F = F true (.lit (.int .u64 (a / 256))) := by rw [binV_shr_u64 (by decide)]; rfl
@[go_sem ↓ high] theorem vshr_u64_u64_16 {P : Program} {t : TypeId} : binV P .shr t (.lit (.int .u64 a)) (.lit (.int .u64 16)) F = F true (.lit (.int .u64 (a / 65536))) := by rw [binV_shr_u64 (by decide)]; rfl
@[go_sem ↓] theorem vst_34 : stV Try.prog 34 u v σ ks = clK v fun c => lenK c 1 (wrV u σ c ks) := stV_of (by kernel_rfl)
@[go_sem ↓] theorem vfa_34_0 : fadV Try.prog 34 (.ref o z i' off) 0 F = F true (.ref o z i' off) := fadV_ref (x := 0) (ag := false) (m := 1) (by kernel_rfl)
@[go_sem ↓] theorem vfr_34_0 : fadV Try.prog 34 (.rref z l i' off) 0 F = F true (.rref z l i' off) := fadV_rref (x := 0) (ag := false) (m := 1) (by kernel_rfl)
@[go_sem ↓] theorem vld_32 : ldV Try.prog 32 u σ F = rdV u σ (none) F := ldV_of (by kernel_rfl)
@[go_sem ↓] theorem vln_32 : bltV Try.prog e .len [32] [.row m l] σ kv = lenV (.row m l) fun τ v => kv τ v σ := lenB_row (by kernel_rfl)
@[go_sem ↓] theorem vlnx_32 : bltV Try.prog e .len [32] [.xrow m l] σ kv = lenV (.xrow m l) fun τ v => kv τ v σ := lenB_xrow (by kernel_rfl)
@[go_sem ↓] theorem vlns_32 : bltV Try.prog e .len [32] [.sl o m off len] σ kv = lenV (.sl o m off len) fun τ v => kv τ v σ := lenB_sl (by kernel_rfl)
@[go_sem ↓] theorem vlnn_32 : bltV Try.prog e .len [32] [.lit (.slice none 0 0)] σ kv = lenV (.lit (.slice none 0 0)) fun τ v => kv τ v σ := lenB_nil (by kernel_rfl)
@[go_sem ↓] theorem vix_32 (h : 0 ≤ a ∧ a < len) : idxV Try.prog 32 (.sl o 1 off len) (.lit (.int i a)) F = F true (.ref o 1 (off + a.toNat) 0) := idxV_sl (et := 36) (by kernel_rfl) h
@[go_sem ↓ high] theorem vixn_32 (h : m < len) : idxV Try.prog 32 (.sl o 1 off len) (.lit (.int i (m : Int))) F = F true (.ref o 1 (off + m) 0) := idxV_sln (et := 36) (by kernel_rfl) h
@[go_sem ↓] theorem vixr_32 (h : 0 ≤ a ∧ a < l.length) : idxV Try.prog 32 (.row 1 l) (.lit (.int i a)) F = F true (.rref 1 l a.toNat 0) := idxV_row (et := 36) (by kernel_rfl) (by decide) h
@[go_sem ↓ high] theorem vixrn_32 (h : m < l.length) : idxV Try.prog 32 (.row 1 l) (.lit (.int i (m : Int))) F = F true (.rref 1 l m 0) := idxV_rown (et := 36) (by kernel_rfl) (by decide) h
@[go_sem ↓ high] theorem vixm_32 (h : 0 ≤ a ∧ a < L.length) : idxV Try.prog 32 (.row 1 (L.map f)) (.lit (.int i a)) F = F true (.rref 1 (L.map f) a.toNat 0) := idxV_rowm (et := 36) (by kernel_rfl) (by decide) h
@[go_sem ↓ high] theorem vixmn_32 (h : m < L.length) : idxV Try.prog 32 (.row 1 (L.map f)) (.lit (.int i (m : Int))) F = F true (.rref 1 (L.map f) m 0) := idxV_rowmn (et := 36) (by kernel_rfl) (by decide) h
@[go_sem ↓] theorem vst_36 : stV Try.prog 36 u v σ ks = clK v fun c => lenK c 1 (wrV u σ c ks) := stV_of (by kernel_rfl)
@[go_sem ↓] theorem vld_36 : ldV Try.prog 36 u σ F = rdV u σ (none) F := ldV_of (by kernel_rfl)
@[go_sem ↓] theorem vms_32 : mslV Try.prog 32 u v σ kv = mslU 1 8 [.int .u64 0] u v σ kv := mslV_of (et := 36) (by kernel_rfl) (by kernel_rfl) (by kernel_rfl)
@[go_sem ↓] theorem vmu_32 (h : 0 ≤ a ∧ a * 8 ≤ 140737488355328) : mslU 1 8 [.int .u64 0] (.lit (.int .i64 a)) (.lit (.int .i64 a)) σ kv = newO σ (.row 1 (zrow [.int .u64 0] a.toNat)) fun o σ' => kv true (.sl o 1 0 a.toNat) σ' := by
  rw [mslU_of (C := [.int .u64 0]) (z := 1) ⟨h.1, rfl, h.2, by omega, by decide⟩ rfl]
  simp [allOne, oneC]
@[go_sem ↓ high] theorem vmun_32 (h : m * 8 ≤ 140737488355328) : mslU 1 8 [.int .u64 0] (.lit (.int .i64 (m : Int))) (.lit (.int .i64 (m : Int))) σ kv = newO σ (.row 1 (zrow [.int .u64 0] m)) fun o σ' => kv true (.sl o 1 0 m) σ' := vmu_32 (by omega)
@[go_sem ↓] theorem val_34 : alcV Try.prog 34 σ kv = allOne ([.slice none 0 0] : List Value) (newO σ (.cells (([.slice none 0 0] : List Value).map V.lit)) fun o σ' => kv true (.ref o 0 0 0) σ') := alcV_of (by kernel_rfl)
@[go_sem ↓] theorem vbs_40_0 {ps : List (Nat × V)} : bslV Try.prog 40 0 ps σ kv = prtK 1 0 ps fun l => lenK l 0 (newO σ (.row 1 l) fun o σ' => kv true (.sl o 1 0 0) σ') := bslV_of (et := 4) (by kernel_rfl) ⟨by kernel_rfl, by decide, by decide⟩
@[go_sem ↓] theorem vap_40_40 : apdV Try.prog e 40 40 u v σ kv = rowK v σ 1 fun m => apdU e 1 1 u m σ kv := apdV_of (et := 4) (ex := 4) (C := [.bool false]) (by kernel_rfl) (by kernel_rfl) (by kernel_rfl) (by kernel_rfl) (by decide) rfl
@[go_sem ↓] theorem vseq_40 : binV Try.prog .eql 40 (.row 1 l) (.lit (.slice none 0 0)) F = nilB .eql l.isEmpty F := binV_seq ⟨by kernel_rfl, by decide⟩
@[go_sem ↓] theorem vsleq_40 : binV Try.prog .eql 40 (.sl o 1 off len) (.lit (.slice none 0 0)) F = nilB .eql (decide (len = 0)) F := binV_leq0 (by kernel_rfl)
@[go_sem ↓] theorem vsneq_40 : binV Try.prog .eql 40 (.lit (.slice none 0 0)) (.lit (.slice none 0 0)) F = F true (.lit (.bool true)) := binV_neq0 (by kernel_rfl)
@[go_sem ↓] theorem vbs_32_0 {ps : List (Nat × V)} : bslV Try.prog 32 0 ps σ kv = prtK 1 0 ps fun l => lenK l 0 (newO σ (.row 1 l) fun o σ' => kv true (.sl o 1 0 0) σ') := bslV_of (et := 36) (by kernel_rfl) ⟨by kernel_rfl, by decide, by decide⟩
@[go_sem ↓] theorem vap_32_32 : apdV Try.prog e 32 32 u v σ kv = rowK v σ 1 fun m => apdU e 1 8 u m σ kv := apdV_of (et := 36) (ex := 36) (C := [.int .u64 0]) (by kernel_rfl) (by kernel_rfl) (by kernel_rfl) (by kernel_rfl) (by decide) rfl
@[go_sem ↓] theorem vseq_32 : binV Try.prog .eql 32 (.row 1 l) (.lit (.slice none 0 0)) F = nilB .eql l.isEmpty F := binV_seq ⟨by kernel_rfl, by decide⟩
@[go_sem ↓] theorem vsleq_32 : binV Try.prog .eql 32 (.sl o 1 off len) (.lit (.slice none 0 0)) F = nilB .eql (decide (len = 0)) F := binV_leq0 (by kernel_rfl)
@[go_sem ↓] theorem vsneq_32 : binV Try.prog .eql 32 (.lit (.slice none 0 0)) (.lit (.slice none 0 0)) F = F true (.lit (.bool true)) := binV_neq0 (by kernel_rfl)
@[go_sem ↓] theorem vsl_32 : slcV Try.prog 32 (.sl o 1 off len) lo hi none F = bdoK hi len len fun h => bdoK lo 0 h fun l => F true (.sl o 1 (off + l) (h - l)) := slcV_sl (et := 36) (by kernel_rfl)
@[go_sem ↓] theorem vslr_32 : slcV Try.prog 32 (.row 1 l) lo hi none F = bdoK hi l.length l.length fun h => bdoK lo 0 h fun x => F true (.row 1 ((l.take h).drop x)) := slcV_row (et := 36) (by kernel_rfl)
@[go_sem ↓ high] theorem vslm_32 : slcV Try.prog 32 (.row 1 (L.map f)) lo hi none F = bdoK hi L.length L.length fun h => bdoK lo 0 h fun x => F true (.row 1 (((L.take h).drop x).map f)) := slcV_rowm (et := 36) (by kernel_rfl)
@[go_sem ↓] theorem vslx_32 : slcV Try.prog 32 (.xrow 1 (L.map f)) lo hi none F = bdoK hi L.length L.length fun h => bdoK lo 0 h fun x => F true (.row 1 (((L.take h).drop x).map f)) := slcV_xrowm (et := 36) (by kernel_rfl)
@[go_sem ↓] theorem vslf_32 : slcV Try.prog 32 (.row 1 (L.map f)) lo (some u) (some v) F = bdK v L.length fun m => bdK u m fun h => if m = h then bdoK lo 0 h fun x => F true (.xrow 1 (((L.take h).drop x).map f)) else False := slcV_full (et := 36) (by kernel_rfl)
@[go_sem ↓] theorem vsln_32 : slcV Try.prog 32 (.lit (.slice none 0 0)) lo hi none F = bdoK hi 0 0 fun h => bdoK lo 0 h fun _ => F true (.lit (.slice none 0 0)) := slcV_nil (et := 36) (z := 1) (by kernel_rfl)
@[go_sem ↓] theorem vbd_34 {ps : List (Nat × V)} : bldV Try.prog 34 ps F = allOne ([.slice none 0 0] : List Value) (fillK (plOf Try.prog 34) ps (([.slice none 0 0] : List Value).map V.lit) fun l => F true (.agg l)) := bldV_of (by kernel_rfl) (by kernel_rfl) (by kernel_rfl)
@[go_sem ↓] theorem vpl_34_0 {r : List (Nat × V)} {G : List V → Prop} : fillK (plOf Try.prog 34) ((0, u) :: r) us G = clK u fun c => lenK c 1 (wrK us 0 c fun l' => fillK (plOf Try.prog 34) r l' G) := fillK_step (by kernel_rfl)
@[go_sem ↓] theorem vld_34 : ldV Try.prog 34 u σ F = rdV u σ (some 1) F := ldV_of (by kernel_rfl)
@[go_sem ↓] theorem vfa_65_1 : fadV Try.prog 65 (.ref o z i' off) 1 F = F true (.ref o z i' (off + 2)) := fadV_ref (x := 2) (ag := false) (m := 1) (by kernel_rfl)
@[go_sem ↓] theorem vfr_65_1 : fadV Try.prog 65 (.rref z l i' off) 1 F = F true (.rref z l i' (off + 2)) := fadV_rref (x := 2) (ag := false) (m := 1) (by kernel_rfl)
@[go_sem ↓] theorem vld_40 : ldV Try.prog 40 u σ F = rdV u σ (none) F := ldV_of (by kernel_rfl)
@[go_sem ↓] theorem vfa_65_0 : fadV Try.prog 65 (.ref o z i' off) 0 F = F true (.ref o z i' off) := fadV_ref (x := 0) (ag := true) (m := 2) (by kernel_rfl)
@[go_sem ↓] theorem vfr_65_0 : fadV Try.prog 65 (.rref z l i' off) 0 F = F true (.rref z l i' off) := fadV_rref (x := 0) (ag := true) (m := 2) (by kernel_rfl)
@[go_sem ↓] theorem vfa_63_0 : fadV Try.prog 63 (.ref o z i' off) 0 F = F true (.ref o z i' off) := fadV_ref (x := 0) (ag := false) (m := 1) (by kernel_rfl)
@[go_sem ↓] theorem vfr_63_0 : fadV Try.prog 63 (.rref z l i' off) 0 F = F true (.rref z l i' off) := fadV_rref (x := 0) (ag := false) (m := 1) (by kernel_rfl)
@[go_sem ↓] theorem vld_3 : ldV Try.prog 3 u σ F = rdV u σ (none) F := ldV_of (by kernel_rfl)
@[go_sem ↓] theorem vix_40 (h : 0 ≤ a ∧ a < len) : idxV Try.prog 40 (.sl o 1 off len) (.lit (.int i a)) F = F true (.ref o 1 (off + a.toNat) 0) := idxV_sl (et := 4) (by kernel_rfl) h
@[go_sem ↓ high] theorem vixn_40 (h : m < len) : idxV Try.prog 40 (.sl o 1 off len) (.lit (.int i (m : Int))) F = F true (.ref o 1 (off + m) 0) := idxV_sln (et := 4) (by kernel_rfl) h
@[go_sem ↓] theorem vixr_40 (h : 0 ≤ a ∧ a < l.length) : idxV Try.prog 40 (.row 1 l) (.lit (.int i a)) F = F true (.rref 1 l a.toNat 0) := idxV_row (et := 4) (by kernel_rfl) (by decide) h
@[go_sem ↓ high] theorem vixrn_40 (h : m < l.length) : idxV Try.prog 40 (.row 1 l) (.lit (.int i (m : Int))) F = F true (.rref 1 l m 0) := idxV_rown (et := 4) (by kernel_rfl) (by decide) h
@[go_sem ↓ high] theorem vixm_40 (h : 0 ≤ a ∧ a < L.length) : idxV Try.prog 40 (.row 1 (L.map f)) (.lit (.int i a)) F = F true (.rref 1 (L.map f) a.toNat 0) := idxV_rowm (et := 4) (by kernel_rfl) (by decide) h
@[go_sem ↓ high] theorem vixmn_40 (h : m < L.length) : idxV Try.prog 40 (.row 1 (L.map f)) (.lit (.int i (m : Int))) F = F true (.rref 1 (L.map f) m 0) := idxV_rowmn (et := 4) (by kernel_rfl) (by decide) h
@[go_sem ↓] theorem vld_4 : ldV Try.prog 4 u σ F = rdV u σ (none) F := ldV_of (by kernel_rfl)
@[go_sem ↓] theorem vst_3 : stV Try.prog 3 u v σ ks = clK v fun c => lenK c 1 (wrV u σ c ks) := stV_of (by kernel_rfl)
@[go_sem ↓] theorem vfa_63_1 : fadV Try.prog 63 (.ref o z i' off) 1 F = F true (.ref o z i' (off + 1)) := fadV_ref (x := 1) (ag := false) (m := 1) (by kernel_rfl)
@[go_sem ↓] theorem vfr_63_1 : fadV Try.prog 63 (.rref z l i' off) 1 F = F true (.rref z l i' (off + 1)) := fadV_rref (x := 1) (ag := false) (m := 1) (by kernel_rfl)
@[go_sem ↓] theorem vst_4 : stV Try.prog 4 u v σ ks = clK v fun c => lenK c 1 (wrV u σ c ks) := stV_of (by kernel_rfl)
@[go_sem ↓] theorem vln_40 : bltV Try.prog e .len [40] [.row m l] σ kv = lenV (.row m l) fun τ v => kv τ v σ := lenB_row (by kernel_rfl)
@[go_sem ↓] theorem vlnx_40 : bltV Try.prog e .len [40] [.xrow m l] σ kv = lenV (.xrow m l) fun τ v => kv τ v σ := lenB_xrow (by kernel_rfl)
@[go_sem ↓] theorem vlns_40 : bltV Try.prog e .len [40] [.sl o m off len] σ kv = lenV (.sl o m off len) fun τ v => kv τ v σ := lenB_sl (by kernel_rfl)
@[go_sem ↓] theorem vlnn_40 : bltV Try.prog e .len [40] [.lit (.slice none 0 0)] σ kv = lenV (.lit (.slice none 0 0)) fun τ v => kv τ v σ := lenB_nil (by kernel_rfl)
@[go_sem ↓] theorem vld_53 : ldV Try.prog 53 u σ F = rdV u σ (none) F := ldV_of (by kernel_rfl)
@[go_sem ↓] theorem vsl_40 : slcV Try.prog 40 (.sl o 1 off len) lo hi none F = bdoK hi len len fun h => bdoK lo 0 h fun l => F true (.sl o 1 (off + l) (h - l)) := slcV_sl (et := 4) (by kernel_rfl)
@[go_sem ↓] theorem vslr_40 : slcV Try.prog 40 (.row 1 l) lo hi none F = bdoK hi l.length l.length fun h => bdoK lo 0 h fun x => F true (.row 1 ((l.take h).drop x)) := slcV_row (et := 4) (by kernel_rfl)
@[go_sem ↓ high] theorem vslm_40 : slcV Try.prog 40 (.row 1 (L.map f)) lo hi none F = bdoK hi L.length L.length fun h => bdoK lo 0 h fun x => F true (.row 1 (((L.take h).drop x).map f)) := slcV_rowm (et := 4) (by kernel_rfl)
@[go_sem ↓] theorem vslx_40 : slcV Try.prog 40 (.xrow 1 (L.map f)) lo hi none F = bdoK hi L.length L.length fun h => bdoK lo 0 h fun x => F true (.row 1 (((L.take h).drop x).map f)) := slcV_xrowm (et := 4) (by kernel_rfl)
@[go_sem ↓] theorem vslf_40 : slcV Try.prog 40 (.row 1 (L.map f)) lo (some u) (some v) F = bdK v L.length fun m => bdK u m fun h => if m = h then bdoK lo 0 h fun x => F true (.xrow 1 (((L.take h).drop x).map f)) else False := slcV_full (et := 4) (by kernel_rfl)
@[go_sem ↓] theorem vsln_40 : slcV Try.prog 40 (.lit (.slice none 0 0)) lo hi none F = bdoK hi 0 0 fun h => bdoK lo 0 h fun _ => F true (.lit (.slice none 0 0)) := slcV_nil (et := 4) (z := 1) (by kernel_rfl)
@[go_sem ↓] theorem vbs_40_1 {ps : List (Nat × V)} : bslV Try.prog 40 1 ps σ kv = prtK 1 0 ps fun l => lenK l 1 (newO σ (.row 1 l) fun o σ' => kv true (.sl o 1 0 1) σ') := bslV_of (et := 4) (by kernel_rfl) ⟨by kernel_rfl, by decide, by decide⟩
@[go_sem ↓] theorem vld_30 : ldV Try.prog 30 u σ F = rdV u σ (none) F := ldV_of (by kernel_rfl)
@[go_sem ↓] theorem vbs_32_1 {ps : List (Nat × V)} : bslV Try.prog 32 1 ps σ kv = prtK 1 0 ps fun l => lenK l 1 (newO σ (.row 1 l) fun o σ' => kv true (.sl o 1 0 1) σ') := bslV_of (et := 36) (by kernel_rfl) ⟨by kernel_rfl, by decide, by decide⟩
@[go_sem ↓] theorem vpeq_26 {x : Option Addr} : binV Try.prog .eql 26 (.lit (.pointer x)) (.lit (.pointer none)) F = F true (.lit (.bool (x.isNone))) := binV_peq (by kernel_rfl)
@[go_sem ↓] theorem vreq_26 {o z i off : Nat} : binV Try.prog .eql 26 (.ref o z i off) (.lit (.pointer none)) F = F true (.lit (.bool false)) := binV_req (by kernel_rfl)
@[go_sem ↓ high] theorem vshr_u64_u64_1 {P : Program} {t : TypeId} : binV P .shr t (.lit (.int .u64 a)) (.lit (.int .u64 1)) F = F true (.lit (.int .u64 (a / 2))) := by rw [binV_shr_u64 (by decide)]; rfl
@[go_sem ↓ high] theorem vshl_i64_u64_1 {P : Program} {t : TypeId} : binV P .shl t (.lit (.int .i64 a)) (.lit (.int .u64 1)) F = F true (.lit (.int .i64 (IntKind.wrap .i64 (a * 2)))) := by rw [binV_shl_i64 (by decide)]; rfl
@[go_sem ↓ high] theorem vshl_u64_u64_2 {P : Program} {t : TypeId} : binV P .shl t (.lit (.int .u64 a)) (.lit (.int .u64 2)) F = F true (.lit (.int .u64 (IntKind.wrap .u64 (a * 4)))) := by rw [binV_shl_u64 (by decide)]; rfl
@[go_sem ↓ high] theorem vshr_u64_u64_62 {P : Program} {t : TypeId} : binV P .shr t (.lit (.int .u64 a)) (.lit (.int .u64 62)) F = F true (.lit (.int .u64 (a / 4611686018427387904))) := by rw [binV_shr_u64 (by decide)]; rfl
@[go_sem ↓] theorem vct_3_36 : cvtV Try.prog 3 36 (.lit (.int i a)) F = F true (.lit (.int .u64 (IntKind.wrap .u64 a))) := cvtV_of (by kernel_rfl) (by kernel_rfl)
@[go_sem ↓ high] theorem vcth_3_36 (h : 0 ≤ a ∧ a ≤ 18446744073709551615) : cvtV Try.prog 3 36 (.lit (.int i a)) F = F true (.lit (.int .u64 a)) := cvtV_u64 (by kernel_rfl) (by kernel_rfl) h
@[go_sem ↓] theorem vcv_3_36 : cvsV Try.prog 3 36 (.lit (.int i a)) σ F = F true (.lit (.int .u64 (IntKind.wrap .u64 a))) := (cvsV_num (by kernel_rfl)).trans (cvtV_of (by kernel_rfl) (by kernel_rfl))
@[go_sem ↓ high] theorem vcvh_3_36 (h : 0 ≤ a ∧ a ≤ 18446744073709551615) : cvsV Try.prog 3 36 (.lit (.int i a)) σ F = F true (.lit (.int .u64 a)) := (cvsV_num (by kernel_rfl)).trans (cvtV_u64 (by kernel_rfl) (by kernel_rfl) h)
@[go_sem ↓] theorem vct_3_37 : cvtV Try.prog 3 37 (.lit (.int i a)) F = F true (.lit (.int .u64 (IntKind.wrap .u64 a))) := cvtV_of (by kernel_rfl) (by kernel_rfl)
@[go_sem ↓ high] theorem vcth_3_37 (h : 0 ≤ a ∧ a ≤ 18446744073709551615) : cvtV Try.prog 3 37 (.lit (.int i a)) F = F true (.lit (.int .u64 a)) := cvtV_u64 (by kernel_rfl) (by kernel_rfl) h
@[go_sem ↓] theorem vcv_3_37 : cvsV Try.prog 3 37 (.lit (.int i a)) σ F = F true (.lit (.int .u64 (IntKind.wrap .u64 a))) := (cvsV_num (by kernel_rfl)).trans (cvtV_of (by kernel_rfl) (by kernel_rfl))
@[go_sem ↓ high] theorem vcvh_3_37 (h : 0 ≤ a ∧ a ≤ 18446744073709551615) : cvsV Try.prog 3 37 (.lit (.int i a)) σ F = F true (.lit (.int .u64 a)) := (cvsV_num (by kernel_rfl)).trans (cvtV_u64 (by kernel_rfl) (by kernel_rfl) h)
@[go_sem ↓ high] theorem vshr_i64_u64_1 {P : Program} {t : TypeId} : binV P .shr t (.lit (.int .i64 a)) (.lit (.int .u64 1)) F = F true (.lit (.int .i64 (a / 2))) := by rw [binV_shr_i64 (by decide)]; rfl
@[go_sem ↓ high] theorem vmk_i64_1 {P : Program} {t : TypeId} : binV P .and t (.lit (.int .i64 a)) (.lit (.int .i64 1)) F = F true (.lit (.int .i64 (a % 2))) := binV_mask 1 (by decide) (by decide) (by decide)
@[go_sem ↓] theorem vbd_65 {ps : List (Nat × V)} : bldV Try.prog 65 ps F = allOne ([.int .i64 0, .bool false, .slice none 0 0] : List Value) (fillK (plOf Try.prog 65) ps (([.int .i64 0, .bool false, .slice none 0 0] : List Value).map V.lit) fun l => F true (.agg l)) := bldV_of (by kernel_rfl) (by kernel_rfl) (by kernel_rfl)
@[go_sem ↓] theorem vpl_65_1 {r : List (Nat × V)} {G : List V → Prop} : fillK (plOf Try.prog 65) ((1, u) :: r) us G = clK u fun c => lenK c 1 (wrK us 2 c fun l' => fillK (plOf Try.prog 65) r l' G) := fillK_step (by kernel_rfl)
@[go_sem ↓] theorem vbne_4 {x y : Bool} : binV Try.prog .neq 4 (.lit (.bool x)) (.lit (.bool y)) F = F true (.lit (.bool (!(x == y)))) := binV_bne (by kernel_rfl)
@[go_sem ↓] theorem vst_53 : stV Try.prog 53 u v σ ks = clK v fun c => lenK c 1 (wrV u σ c ks) := stV_of (by kernel_rfl)
@[go_sem ↓] theorem val_53 : alcV Try.prog 53 σ kv = allOne ([.nilFunc] : List Value) (newO σ (.cells (([.nilFunc] : List Value).map V.lit)) fun o σ' => kv true (.ref o 0 0 0) σ') := alcV_of (by kernel_rfl)
@[go_sem ↓] theorem val_3 : alcV Try.prog 3 σ kv = allOne ([.int .i64 0] : List Value) (newO σ (.cells (([.int .i64 0] : List Value).map V.lit)) fun o σ' => kv true (.ref o 0 0 0) σ') := alcV_of (by kernel_rfl)
@[go_sem ↓] theorem vbs_40_3 {ps : List (Nat × V)} : bslV Try.prog 40 3 ps σ kv = prtK 1 0 ps fun l => lenK l 3 (newO σ (.row 1 l) fun o σ' => kv true (.sl o 1 0 3) σ') := bslV_of (et := 4) (by kernel_rfl) ⟨by kernel_rfl, by decide, by decide⟩
@[go_sem ↓] theorem vbs_40_2 {ps : List (Nat × V)} : bslV Try.prog 40 2 ps σ kv = prtK 1 0 ps fun l => lenK l 2 (newO σ (.row 1 l) fun o σ' => kv true (.sl o 1 0 2) σ') := bslV_of (et := 4) (by kernel_rfl) ⟨by kernel_rfl, by decide, by decide⟩
@[go_sem ↓ high] theorem vshr_i64_u64_20 {P : Program} {t : TypeId} : binV P .shr t (.lit (.int .i64 a)) (.lit (.int .u64 20)) F = F true (.lit (.int .i64 (a / 1048576))) := by rw [binV_shr_i64 (by decide)]; rfl
@[go_sem ↓] theorem via_22 (h : 0 ≤ a ∧ a < 3) : idxV Try.prog 22 (.ref o 0 0 off) (.lit (.int i a)) F = F true (.ref o 1 a.toNat off) := idxV_ar (et := 3) (by kernel_rfl) h
@[go_sem ↓ high] theorem vian_22 (h : m < 3) : idxV Try.prog 22 (.ref o 0 0 off) (.lit (.int i (m : Int))) F = F true (.ref o 1 m off) := idxV_arn (et := 3) (by kernel_rfl) h
@[go_sem ↓ high] theorem vmk_i64_4095 {P : Program} {t : TypeId} : binV P .and t (.lit (.int .i64 a)) (.lit (.int .i64 4095)) F = F true (.lit (.int .i64 (a % 4096))) := binV_mask 12 (by decide) (by decide) (by decide)
@[go_sem ↓ high] theorem vmk_i64_1023 {P : Program} {t : TypeId} : binV P .and t (.lit (.int .i64 a)) (.lit (.int .i64 1023)) F = F true (.lit (.int .i64 (a % 1024))) := binV_mask 10 (by decide) (by decide) (by decide)
@[go_sem ↓ high] theorem vshl_i64_u64_12 {P : Program} {t : TypeId} : binV P .shl t (.lit (.int .i64 a)) (.lit (.int .u64 12)) F = F true (.lit (.int .i64 (IntKind.wrap .i64 (a * 4096)))) := by rw [binV_shl_i64 (by decide)]; rfl
@[go_sem ↓ high] theorem vmk_i64_7 {P : Program} {t : TypeId} : binV P .and t (.lit (.int .i64 a)) (.lit (.int .i64 7)) F = F true (.lit (.int .i64 (a % 8))) := binV_mask 3 (by decide) (by decide) (by decide)
@[go_sem ↓ high] theorem vmk_i64_15 {P : Program} {t : TypeId} : binV P .and t (.lit (.int .i64 a)) (.lit (.int .i64 15)) F = F true (.lit (.int .i64 (a % 16))) := binV_mask 4 (by decide) (by decide) (by decide)
@[go_sem ↓ high] theorem vmk_i64_3 {P : Program} {t : TypeId} : binV P .and t (.lit (.int .i64 a)) (.lit (.int .i64 3)) F = F true (.lit (.int .i64 (a % 4))) := binV_mask 2 (by decide) (by decide) (by decide)
@[go_sem ↓ high] theorem vshl_i64_u64_10 {P : Program} {t : TypeId} : binV P .shl t (.lit (.int .i64 a)) (.lit (.int .u64 10)) F = F true (.lit (.int .i64 (IntKind.wrap .i64 (a * 1024)))) := by rw [binV_shl_i64 (by decide)]; rfl
end
end Go.Proofs.Ytakajkgondadiaa
