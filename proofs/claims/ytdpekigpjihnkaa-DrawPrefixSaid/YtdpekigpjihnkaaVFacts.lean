import Derived.Test.YtdpekigpjihnkaaVl
import Derived.Test.YtdpekigpjihnkaaProg
import Derived.KernelRfl
/-! Facts on the program's types and plans of its regions, printed by a program of the prover's own. -/
namespace Go.Proofs.Ytdpekigpjihnkaa
open Go.Eng Go.Vx
set_option linter.unusedVariables false
set_option linter.unusedSimpArgs false
set_option maxRecDepth 100000
section
variable {u v : V} {σ : St} {F : FV} {kv : KV} {ks : KS} {e : Bool} {i : IntKind} {a : Int} {o z i' off len m : Nat} {l : List (List PV)} {us : List V} {β : Type} {L : List β} {f : β → List PV} {lo hi : Option V}
def pl2 : Plans := fun id => match id with
  | _ => []
def pl3 : Plans := fun id => match id with
  | 5 => [(0, (5, 0)), (2, (5, 0)), (4, (5, 0)), (6, (5, 0)), (1, (0, 0)), (5, (0, 0)), (3, (1, 0)), (7, (2, 0)), (8, (5, 0))]
  | _ => []
@[go_sem ↓] theorem pl3_5 : pl3 5 = [(0, (5, 0)), (2, (5, 0)), (4, (5, 0)), (6, (5, 0)), (1, (0, 0)), (5, (0, 0)), (3, (1, 0)), (7, (2, 0)), (8, (5, 0))] := (rfl)
def pl4 : Plans := fun id => match id with
  | 3 => [(0, (5, 0)), (3, (5, 0)), (1, (0, 0)), (2, (5, 0)), (6, (5, 0)), (4, (0, 0)), (5, (5, 0)), (7, (5, 0))]
  | 4 => [(0, (5, 0)), (3, (5, 0)), (1, (0, 0)), (2, (5, 0)), (6, (5, 0)), (4, (0, 0)), (5, (5, 0)), (7, (5, 0))]
  | _ => []
@[go_sem ↓] theorem pl4_3 : pl4 3 = [(0, (5, 0)), (3, (5, 0)), (1, (0, 0)), (2, (5, 0)), (6, (5, 0)), (4, (0, 0)), (5, (5, 0)), (7, (5, 0))] := (rfl)
@[go_sem ↓] theorem pl4_4 : pl4 4 = [(0, (5, 0)), (3, (5, 0)), (1, (0, 0)), (2, (5, 0)), (6, (5, 0)), (4, (0, 0)), (5, (5, 0)), (7, (5, 0))] := (rfl)
def pl5 : Plans := fun id => match id with
  | _ => []
def pl6 : Plans := fun id => match id with
  | _ => []
def pl7 : Plans := fun id => match id with
  | _ => []
def pl8 : Plans := fun id => match id with
  | _ => []
def pl9 : Plans := fun id => match id with
  | _ => []
def pl10 : Plans := fun id => match id with
  | 9 => [(0, (5, 0)), (1, (5, 0)), (3, (5, 0)), (2, (0, 0)), (4, (0, 0)), (5, (5, 0)), (6, (5, 0)), (7, (5, 0))]
  | _ => []
@[go_sem ↓] theorem pl10_9 : pl10 9 = [(0, (5, 0)), (1, (5, 0)), (3, (5, 0)), (2, (0, 0)), (4, (0, 0)), (5, (5, 0)), (6, (5, 0)), (7, (5, 0))] := (rfl)
def pl11 : Plans := fun id => match id with
  | 4 => [(0, (5, 0)), (5, (5, 0)), (1, (0, 0)), (2, (5, 0)), (3, (5, 0)), (4, (5, 0)), (8, (4, 0)), (9, (4, 0)), (10, (6, 8)), (6, (1, 0)), (7, (5, 0)), (9, (3, 0)), (10, (7, 8)), (11, (2, 0))]
  | _ => []
@[go_sem ↓] theorem pl11_4 : pl11 4 = [(0, (5, 0)), (5, (5, 0)), (1, (0, 0)), (2, (5, 0)), (3, (5, 0)), (4, (5, 0)), (8, (4, 0)), (9, (4, 0)), (10, (6, 8)), (6, (1, 0)), (7, (5, 0)), (9, (3, 0)), (10, (7, 8)), (11, (2, 0))] := (rfl)
def pl12 : Plans := fun id => match id with
  | 12 => [(0, (5, 0)), (1, (5, 0)), (2, (5, 0)), (3, (0, 0)), (4, (0, 0)), (5, (0, 0)), (6, (0, 0)), (7, (0, 0)), (8, (1, 0)), (9, (0, 0)), (10, (5, 0)), (11, (5, 0)), (12, (0, 0)), (14, (0, 0)), (15, (0, 0)), (16, (0, 0)), (17, (0, 0)), (18, (0, 0)), (13, (1, 0)), (19, (0, 0)), (20, (5, 0)), (21, (5, 0)), (22, (0, 0)), (23, (2, 0)), (24, (0, 0)), (25, (5, 0)), (26, (5, 0))]
  | _ => []
@[go_sem ↓] theorem pl12_12 : pl12 12 = [(0, (5, 0)), (1, (5, 0)), (2, (5, 0)), (3, (0, 0)), (4, (0, 0)), (5, (0, 0)), (6, (0, 0)), (7, (0, 0)), (8, (1, 0)), (9, (0, 0)), (10, (5, 0)), (11, (5, 0)), (12, (0, 0)), (14, (0, 0)), (15, (0, 0)), (16, (0, 0)), (17, (0, 0)), (18, (0, 0)), (13, (1, 0)), (19, (0, 0)), (20, (5, 0)), (21, (5, 0)), (22, (0, 0)), (23, (2, 0)), (24, (0, 0)), (25, (5, 0)), (26, (5, 0))] := (rfl)
def pl13 : Plans := fun id => match id with
  | _ => []
def pl14 : Plans := fun id => match id with
  | _ => []
def pl15 : Plans := fun id => match id with
  | _ => []
def pl16 : Plans := fun id => match id with
  | _ => []
def pl17 : Plans := fun id => match id with
  | _ => []
def pl18 : Plans := fun id => match id with
  | _ => []
def pl19 : Plans := fun id => match id with
  | _ => []
def pl20 : Plans := fun id => match id with
  | _ => []
def pl21 : Plans := fun id => match id with
  | 4 => [(0, (0, 0)), (1, (8, 2)), (3, (2, 0))]
  | _ => []
@[go_sem ↓] theorem pl21_4 : pl21 4 = [(0, (0, 0)), (1, (8, 2)), (3, (2, 0))] := (rfl)
def pl22 : Plans := fun id => match id with
  | _ => []
def pl23 : Plans := fun id => match id with
  | _ => []
def pl24 : Plans := fun id => match id with
  | _ => []
def pl25 : Plans := fun id => match id with
  | _ => []
def pl26 : Plans := fun id => match id with
  | _ => []
def pl27 : Plans := fun id => match id with
  | _ => []
def pl28 : Plans := fun id => match id with
  | _ => []
def pl29 : Plans := fun id => match id with
  | _ => []
def pl30 : Plans := fun id => match id with
  | _ => []
def pl31 : Plans := fun id => match id with
  | _ => []
def pl32 : Plans := fun id => match id with
  | _ => []
def pl33 : Plans := fun id => match id with
  | _ => []
def pl34 : Plans := fun id => match id with
  | _ => []
def pl35 : Plans := fun id => match id with
  | _ => []
def pl36 : Plans := fun id => match id with
  | _ => []
def pl37 : Plans := fun id => match id with
  | _ => []
def pl38 : Plans := fun id => match id with
  | _ => []
def pl39 : Plans := fun id => match id with
  | 1 => [(0, (5, 0)), (2, (5, 0)), (4, (5, 0)), (1, (0, 0)), (5, (0, 0)), (3, (1, 0)), (6, (5, 0)), (7, (5, 0)), (8, (5, 0))]
  | _ => []
@[go_sem ↓] theorem pl39_1 : pl39 1 = [(0, (5, 0)), (2, (5, 0)), (4, (5, 0)), (1, (0, 0)), (5, (0, 0)), (3, (1, 0)), (6, (5, 0)), (7, (5, 0)), (8, (5, 0))] := (rfl)
def pl40 : Plans := fun id => match id with
  | _ => []
def pl41 : Plans := fun id => match id with
  | _ => []
def pl42 : Plans := fun id => match id with
  | 11 => [(0, (5, 0)), (1, (5, 0)), (2, (5, 0)), (3, (5, 0)), (5, (5, 0)), (6, (5, 0)), (7, (5, 0)), (4, (0, 0)), (8, (0, 0)), (9, (5, 0)), (10, (5, 0)), (11, (5, 0))]
  | _ => []
@[go_sem ↓] theorem pl42_11 : pl42 11 = [(0, (5, 0)), (1, (5, 0)), (2, (5, 0)), (3, (5, 0)), (5, (5, 0)), (6, (5, 0)), (7, (5, 0)), (4, (0, 0)), (8, (0, 0)), (9, (5, 0)), (10, (5, 0)), (11, (5, 0))] := (rfl)
def pl43 : Plans := fun id => match id with
  | _ => []
def pl44 : Plans := fun id => match id with
  | _ => []
def pl45 : Plans := fun id => match id with
  | 4 => [(1, (5, 0)), (2, (5, 0)), (4, (5, 0)), (0, (0, 0)), (3, (0, 0)), (5, (0, 0)), (6, (5, 0)), (7, (1, 0)), (8, (1, 0)), (9, (2, 0))]
  | 5 => [(1, (5, 0)), (2, (5, 0)), (4, (5, 0)), (0, (0, 0)), (3, (0, 0)), (5, (0, 0)), (6, (5, 0)), (7, (1, 0)), (8, (1, 0)), (9, (2, 0))]
  | _ => []
@[go_sem ↓] theorem pl45_4 : pl45 4 = [(1, (5, 0)), (2, (5, 0)), (4, (5, 0)), (0, (0, 0)), (3, (0, 0)), (5, (0, 0)), (6, (5, 0)), (7, (1, 0)), (8, (1, 0)), (9, (2, 0))] := (rfl)
@[go_sem ↓] theorem pl45_5 : pl45 5 = [(1, (5, 0)), (2, (5, 0)), (4, (5, 0)), (0, (0, 0)), (3, (0, 0)), (5, (0, 0)), (6, (5, 0)), (7, (1, 0)), (8, (1, 0)), (9, (2, 0))] := (rfl)
def pl46 : Plans := fun id => match id with
  | _ => []
def pl47 : Plans := fun id => match id with
  | 1 => [(0, (5, 0)), (1, (5, 0)), (2, (5, 0)), (3, (5, 0)), (4, (0, 0)), (5, (5, 0)), (6, (0, 0)), (7, (0, 0)), (8, (0, 0)), (9, (0, 0)), (10, (0, 0)), (11, (0, 0)), (12, (0, 0)), (13, (0, 0)), (14, (0, 0)), (15, (0, 0)), (16, (0, 0)), (17, (5, 0))]
  | 5 => [(0, (5, 0)), (1, (5, 0)), (2, (5, 0)), (4, (5, 0)), (5, (5, 0)), (6, (5, 0)), (7, (5, 0)), (3, (0, 0)), (8, (0, 0)), (9, (5, 0)), (10, (5, 0)), (11, (0, 0)), (12, (5, 0)), (13, (5, 0))]
  | _ => []
@[go_sem ↓] theorem pl47_1 : pl47 1 = [(0, (5, 0)), (1, (5, 0)), (2, (5, 0)), (3, (5, 0)), (4, (0, 0)), (5, (5, 0)), (6, (0, 0)), (7, (0, 0)), (8, (0, 0)), (9, (0, 0)), (10, (0, 0)), (11, (0, 0)), (12, (0, 0)), (13, (0, 0)), (14, (0, 0)), (15, (0, 0)), (16, (0, 0)), (17, (5, 0))] := (rfl)
@[go_sem ↓] theorem pl47_5 : pl47 5 = [(0, (5, 0)), (1, (5, 0)), (2, (5, 0)), (4, (5, 0)), (5, (5, 0)), (6, (5, 0)), (7, (5, 0)), (3, (0, 0)), (8, (0, 0)), (9, (5, 0)), (10, (5, 0)), (11, (0, 0)), (12, (5, 0)), (13, (5, 0))] := (rfl)
def pl48 : Plans := fun id => match id with
  | _ => []
def pl49 : Plans := fun id => match id with
  | _ => []
def pl50 : Plans := fun id => match id with
  | _ => []
def pl51 : Plans := fun id => match id with
  | _ => []
def pl52 : Plans := fun id => match id with
  | _ => []
def pl53 : Plans := fun id => match id with
  | 8 => [(0, (5, 0)), (1, (5, 0)), (2, (5, 0)), (4, (5, 0)), (5, (5, 0)), (6, (5, 0)), (3, (0, 0)), (7, (0, 0)), (8, (5, 0))]
  | 10 => [(0, (5, 0)), (1, (5, 0)), (2, (5, 0)), (4, (5, 0)), (5, (5, 0)), (6, (5, 0)), (3, (0, 0)), (7, (0, 0)), (8, (5, 0))]
  | _ => []
@[go_sem ↓] theorem pl53_8 : pl53 8 = [(0, (5, 0)), (1, (5, 0)), (2, (5, 0)), (4, (5, 0)), (5, (5, 0)), (6, (5, 0)), (3, (0, 0)), (7, (0, 0)), (8, (5, 0))] := (rfl)
@[go_sem ↓] theorem pl53_10 : pl53 10 = [(0, (5, 0)), (1, (5, 0)), (2, (5, 0)), (4, (5, 0)), (5, (5, 0)), (6, (5, 0)), (3, (0, 0)), (7, (0, 0)), (8, (5, 0))] := (rfl)
def pl54 : Plans := fun id => match id with
  | _ => []
def pl55 : Plans := fun id => match id with
  | _ => []
def pl56 : Plans := fun id => match id with
  | _ => []
def pl57 : Plans := fun id => match id with
  | _ => []
@[go_sem ↓] theorem vbs_67_1 {ps : List (Nat × V)} : bslV Try.prog 67 1 ps σ kv = prtK 1 0 ps fun l => lenK l 1 (newO σ (.row 1 l) fun o σ' => kv true (.sl o 1 0 1) σ') := bslV_of (et := 3) (by kernel_rfl) ⟨by kernel_rfl, by decide, by decide⟩
@[go_sem ↓] theorem vap_67_67 : apdV Try.prog e 67 67 u v σ kv = rowK v σ 1 fun m => apdU e 1 8 u m σ kv := apdV_of (et := 3) (ex := 3) (C := [.int .i64 0]) (by kernel_rfl) (by kernel_rfl) (by kernel_rfl) (by kernel_rfl) (by decide) rfl
@[go_sem ↓] theorem vix_67 (h : 0 ≤ a ∧ a < len) : idxV Try.prog 67 (.sl o 1 off len) (.lit (.int i a)) F = F true (.ref o 1 (off + a.toNat) 0) := idxV_sl (et := 3) (by kernel_rfl) h
@[go_sem ↓ high] theorem vixn_67 (h : m < len) : idxV Try.prog 67 (.sl o 1 off len) (.lit (.int i (m : Int))) F = F true (.ref o 1 (off + m) 0) := idxV_sln (et := 3) (by kernel_rfl) h
@[go_sem ↓] theorem vixr_67 (h : 0 ≤ a ∧ a < l.length) : idxV Try.prog 67 (.row 1 l) (.lit (.int i a)) F = F true (.rref 1 l a.toNat 0) := idxV_row (et := 3) (by kernel_rfl) (by decide) h
@[go_sem ↓ high] theorem vixrn_67 (h : m < l.length) : idxV Try.prog 67 (.row 1 l) (.lit (.int i (m : Int))) F = F true (.rref 1 l m 0) := idxV_rown (et := 3) (by kernel_rfl) (by decide) h
@[go_sem ↓ high] theorem vixm_67 (h : 0 ≤ a ∧ a < L.length) : idxV Try.prog 67 (.row 1 (L.map f)) (.lit (.int i a)) F = F true (.rref 1 (L.map f) a.toNat 0) := idxV_rowm (et := 3) (by kernel_rfl) (by decide) h
@[go_sem ↓ high] theorem vixmn_67 (h : m < L.length) : idxV Try.prog 67 (.row 1 (L.map f)) (.lit (.int i (m : Int))) F = F true (.rref 1 (L.map f) m 0) := idxV_rowmn (et := 3) (by kernel_rfl) (by decide) h
@[go_sem ↓] theorem vld_3 : ldV Try.prog 3 u σ F = rdV u σ (none) F := ldV_of (by kernel_rfl)
@[go_sem ↓] theorem vln_67 : bltV Try.prog e .len [67] [.row m l] σ kv = lenV (.row m l) fun τ v => kv τ v σ := lenB_row (by kernel_rfl)
@[go_sem ↓] theorem vlnx_67 : bltV Try.prog e .len [67] [.xrow m l] σ kv = lenV (.xrow m l) fun τ v => kv τ v σ := lenB_xrow (by kernel_rfl)
@[go_sem ↓] theorem vlns_67 : bltV Try.prog e .len [67] [.sl o m off len] σ kv = lenV (.sl o m off len) fun τ v => kv τ v σ := lenB_sl (by kernel_rfl)
@[go_sem ↓] theorem vlnn_67 : bltV Try.prog e .len [67] [.lit (.slice none 0 0)] σ kv = lenV (.lit (.slice none 0 0)) fun τ v => kv τ v σ := lenB_nil (by kernel_rfl)
@[go_sem ↓] theorem vct_89_5 : cvtV Try.prog 89 5 (.lit (.int i a)) F = F true (.lit (.int .u8 (IntKind.wrap .u8 a))) := cvtV_of (by kernel_rfl) (by kernel_rfl)
@[go_sem ↓ high] theorem vcth_89_5 (h : 0 ≤ a ∧ a ≤ 255) : cvtV Try.prog 89 5 (.lit (.int i a)) F = F true (.lit (.int .u8 a)) := cvtV_u8 (by kernel_rfl) (by kernel_rfl) h
@[go_sem ↓] theorem vcv_89_5 : cvsV Try.prog 89 5 (.lit (.int i a)) σ F = F true (.lit (.int .u8 (IntKind.wrap .u8 a))) := (cvsV_num (by kernel_rfl)).trans (cvtV_of (by kernel_rfl) (by kernel_rfl))
@[go_sem ↓ high] theorem vcvh_89_5 (h : 0 ≤ a ∧ a ≤ 255) : cvsV Try.prog 89 5 (.lit (.int i a)) σ F = F true (.lit (.int .u8 a)) := (cvsV_num (by kernel_rfl)).trans (cvtV_u8 (by kernel_rfl) (by kernel_rfl) h)
@[go_sem ↓] theorem visb_9 {s : List UInt8} (h : 0 ≤ a ∧ a < s.length) : ixvV Try.prog 9 (.lit (.string (bs s))) (.lit (.int i a)) F = F true (.lit (.int .u8 ((s.getD a.toNat 0).toNat : Int))) := ixvV_bs (by kernel_rfl) h
@[go_sem ↓ high] theorem visn_9 {s : List UInt8} (h : m < s.length) : ixvV Try.prog 9 (.lit (.string (bs s))) (.lit (.int i (m : Int))) F = F true (.lit (.int .u8 ((s.getD m 0).toNat : Int))) := ixvV_bsn (by kernel_rfl) h
@[go_sem ↓] theorem vis_9 {s : ByteArray} (h : 0 ≤ a ∧ a < s.size) : ixvV Try.prog 9 (.lit (.string s)) (.lit (.int i a)) F = F true (.lit (.int .u8 (strAt s a.toNat))) := ixvV_str (by kernel_rfl) h
@[go_sem ↓] theorem vct_5_3 : cvtV Try.prog 5 3 (.lit (.int i a)) F = F true (.lit (.int .i64 (IntKind.wrap .i64 a))) := cvtV_of (by kernel_rfl) (by kernel_rfl)
@[go_sem ↓ high] theorem vcth_5_3 (h : -9223372036854775808 ≤ a ∧ a ≤ 9223372036854775807) : cvtV Try.prog 5 3 (.lit (.int i a)) F = F true (.lit (.int .i64 a)) := cvtV_i64 (by kernel_rfl) (by kernel_rfl) h
@[go_sem ↓] theorem vcv_5_3 : cvsV Try.prog 5 3 (.lit (.int i a)) σ F = F true (.lit (.int .i64 (IntKind.wrap .i64 a))) := (cvsV_num (by kernel_rfl)).trans (cvtV_of (by kernel_rfl) (by kernel_rfl))
@[go_sem ↓ high] theorem vcvh_5_3 (h : -9223372036854775808 ≤ a ∧ a ≤ 9223372036854775807) : cvsV Try.prog 5 3 (.lit (.int i a)) σ F = F true (.lit (.int .i64 a)) := (cvsV_num (by kernel_rfl)).trans (cvtV_i64 (by kernel_rfl) (by kernel_rfl) h)
@[go_sem ↓ high] theorem vshr_u32_u64_8 {P : Program} {t : TypeId} : binV P .shr t (.lit (.int .u32 a)) (.lit (.int .u64 8)) F = F true (.lit (.int .u32 (a / 256))) := by rw [binV_shr_u32 (by decide)]; rfl
@[go_sem ↓ high] theorem vshr_u32_u64_16 {P : Program} {t : TypeId} : binV P .shr t (.lit (.int .u32 a)) (.lit (.int .u64 16)) F = F true (.lit (.int .u32 (a / 65536))) := by rw [binV_shr_u32 (by decide)]; rfl
@[go_sem ↓] theorem vsl_67 : slcV Try.prog 67 (.sl o 1 off len) lo hi none F = bdoK hi len len fun h => bdoK lo 0 h fun l => F true (.sl o 1 (off + l) (h - l)) := slcV_sl (et := 3) (by kernel_rfl)
@[go_sem ↓] theorem vslr_67 : slcV Try.prog 67 (.row 1 l) lo hi none F = bdoK hi l.length l.length fun h => bdoK lo 0 h fun x => F true (.row 1 ((l.take h).drop x)) := slcV_row (et := 3) (by kernel_rfl)
@[go_sem ↓ high] theorem vslm_67 : slcV Try.prog 67 (.row 1 (L.map f)) lo hi none F = bdoK hi L.length L.length fun h => bdoK lo 0 h fun x => F true (.row 1 (((L.take h).drop x).map f)) := slcV_rowm (et := 3) (by kernel_rfl)
@[go_sem ↓] theorem vslx_67 : slcV Try.prog 67 (.xrow 1 (L.map f)) lo hi none F = bdoK hi L.length L.length fun h => bdoK lo 0 h fun x => F true (.row 1 (((L.take h).drop x).map f)) := slcV_xrowm (et := 3) (by kernel_rfl)
@[go_sem ↓] theorem vslf_67 : slcV Try.prog 67 (.row 1 (L.map f)) lo (some u) (some v) F = bdK v L.length fun m => bdK u m fun h => if m = h then bdoK lo 0 h fun x => F true (.xrow 1 (((L.take h).drop x).map f)) else False := slcV_full (et := 3) (by kernel_rfl)
@[go_sem ↓] theorem vsln_67 : slcV Try.prog 67 (.lit (.slice none 0 0)) lo hi none F = bdoK hi 0 0 fun h => bdoK lo 0 h fun _ => F true (.lit (.slice none 0 0)) := slcV_nil (et := 3) (z := 1) (by kernel_rfl)
@[go_sem ↓] theorem vbs_48_0 {ps : List (Nat × V)} : bslV Try.prog 48 0 ps σ kv = prtK 1 0 ps fun l => lenK l 0 (newO σ (.row 1 l) fun o σ' => kv true (.sl o 1 0 0) σ') := bslV_of (et := 4) (by kernel_rfl) ⟨by kernel_rfl, by decide, by decide⟩
@[go_sem ↓] theorem vap_48_48 : apdV Try.prog e 48 48 u v σ kv = rowK v σ 1 fun m => apdU e 1 1 u m σ kv := apdV_of (et := 4) (ex := 4) (C := [.bool false]) (by kernel_rfl) (by kernel_rfl) (by kernel_rfl) (by kernel_rfl) (by decide) rfl
@[go_sem ↓] theorem vseq_48 : binV Try.prog .eql 48 (.row 1 l) (.lit (.slice none 0 0)) F = nilB .eql l.isEmpty F := binV_seq ⟨by kernel_rfl, by decide⟩
@[go_sem ↓] theorem vsleq_48 : binV Try.prog .eql 48 (.sl o 1 off len) (.lit (.slice none 0 0)) F = nilB .eql (decide (len = 0)) F := binV_leq0 (by kernel_rfl)
@[go_sem ↓] theorem vsneq_48 : binV Try.prog .eql 48 (.lit (.slice none 0 0)) (.lit (.slice none 0 0)) F = F true (.lit (.bool true)) := binV_neq0 (by kernel_rfl)
@[go_sem ↓] theorem vst_3 : stV Try.prog 3 u v σ ks = clK v fun c => lenK c 1 (wrV u σ c ks) := stV_of (by kernel_rfl)
@[go_sem ↓] theorem vms_67 : mslV Try.prog 67 u v σ kv = mslU 1 8 [.int .i64 0] u v σ kv := mslV_of (et := 3) (by kernel_rfl) (by kernel_rfl) (by kernel_rfl)
@[go_sem ↓] theorem vmu_67 (h : 0 ≤ a ∧ a * 8 ≤ 140737488355328) : mslU 1 8 [.int .i64 0] (.lit (.int .i64 a)) (.lit (.int .i64 a)) σ kv = newO σ (.row 1 (zrow [.int .i64 0] a.toNat)) fun o σ' => kv true (.sl o 1 0 a.toNat) σ' := by
  rw [mslU_of (C := [.int .i64 0]) (z := 1) ⟨h.1, rfl, h.2, by omega, by decide⟩ rfl]
  simp [allOne, oneC]
@[go_sem ↓ high] theorem vmun_67 (h : m * 8 ≤ 140737488355328) : mslU 1 8 [.int .i64 0] (.lit (.int .i64 (m : Int))) (.lit (.int .i64 (m : Int))) σ kv = newO σ (.row 1 (zrow [.int .i64 0] m)) fun o σ' => kv true (.sl o 1 0 m) σ' := vmu_67 (by omega)
@[go_sem ↓] theorem vct_53_89 : cvtV Try.prog 53 89 (.lit (.int i a)) F = F true (.lit (.int .u32 (IntKind.wrap .u32 a))) := cvtV_of (by kernel_rfl) (by kernel_rfl)
@[go_sem ↓ high] theorem vcth_53_89 (h : 0 ≤ a ∧ a ≤ 4294967295) : cvtV Try.prog 53 89 (.lit (.int i a)) F = F true (.lit (.int .u32 a)) := cvtV_u32 (by kernel_rfl) (by kernel_rfl) h
@[go_sem ↓] theorem vcv_53_89 : cvsV Try.prog 53 89 (.lit (.int i a)) σ F = F true (.lit (.int .u32 (IntKind.wrap .u32 a))) := (cvsV_num (by kernel_rfl)).trans (cvtV_of (by kernel_rfl) (by kernel_rfl))
@[go_sem ↓ high] theorem vcvh_53_89 (h : 0 ≤ a ∧ a ≤ 4294967295) : cvsV Try.prog 53 89 (.lit (.int i a)) σ F = F true (.lit (.int .u32 a)) := (cvsV_num (by kernel_rfl)).trans (cvtV_u32 (by kernel_rfl) (by kernel_rfl) h)
@[go_sem ↓] theorem vfa_86_1 : fadV Try.prog 86 (.ref o z i' off) 1 F = F true (.ref o z i' (off + 2)) := fadV_ref (x := 2) (ag := false) (m := 1) (by kernel_rfl)
@[go_sem ↓] theorem vfr_86_1 : fadV Try.prog 86 (.rref z l i' off) 1 F = F true (.rref z l i' (off + 2)) := fadV_rref (x := 2) (ag := false) (m := 1) (by kernel_rfl)
@[go_sem ↓] theorem vld_48 : ldV Try.prog 48 u σ F = rdV u σ (none) F := ldV_of (by kernel_rfl)
@[go_sem ↓] theorem vfa_86_0 : fadV Try.prog 86 (.ref o z i' off) 0 F = F true (.ref o z i' off) := fadV_ref (x := 0) (ag := true) (m := 2) (by kernel_rfl)
@[go_sem ↓] theorem vfr_86_0 : fadV Try.prog 86 (.rref z l i' off) 0 F = F true (.rref z l i' off) := fadV_rref (x := 0) (ag := true) (m := 2) (by kernel_rfl)
@[go_sem ↓] theorem vfa_84_0 : fadV Try.prog 84 (.ref o z i' off) 0 F = F true (.ref o z i' off) := fadV_ref (x := 0) (ag := false) (m := 1) (by kernel_rfl)
@[go_sem ↓] theorem vfr_84_0 : fadV Try.prog 84 (.rref z l i' off) 0 F = F true (.rref z l i' off) := fadV_rref (x := 0) (ag := false) (m := 1) (by kernel_rfl)
@[go_sem ↓] theorem vix_48 (h : 0 ≤ a ∧ a < len) : idxV Try.prog 48 (.sl o 1 off len) (.lit (.int i a)) F = F true (.ref o 1 (off + a.toNat) 0) := idxV_sl (et := 4) (by kernel_rfl) h
@[go_sem ↓ high] theorem vixn_48 (h : m < len) : idxV Try.prog 48 (.sl o 1 off len) (.lit (.int i (m : Int))) F = F true (.ref o 1 (off + m) 0) := idxV_sln (et := 4) (by kernel_rfl) h
@[go_sem ↓] theorem vixr_48 (h : 0 ≤ a ∧ a < l.length) : idxV Try.prog 48 (.row 1 l) (.lit (.int i a)) F = F true (.rref 1 l a.toNat 0) := idxV_row (et := 4) (by kernel_rfl) (by decide) h
@[go_sem ↓ high] theorem vixrn_48 (h : m < l.length) : idxV Try.prog 48 (.row 1 l) (.lit (.int i (m : Int))) F = F true (.rref 1 l m 0) := idxV_rown (et := 4) (by kernel_rfl) (by decide) h
@[go_sem ↓ high] theorem vixm_48 (h : 0 ≤ a ∧ a < L.length) : idxV Try.prog 48 (.row 1 (L.map f)) (.lit (.int i a)) F = F true (.rref 1 (L.map f) a.toNat 0) := idxV_rowm (et := 4) (by kernel_rfl) (by decide) h
@[go_sem ↓ high] theorem vixmn_48 (h : m < L.length) : idxV Try.prog 48 (.row 1 (L.map f)) (.lit (.int i (m : Int))) F = F true (.rref 1 (L.map f) m 0) := idxV_rowmn (et := 4) (by kernel_rfl) (by decide) h
@[go_sem ↓] theorem vld_4 : ldV Try.prog 4 u σ F = rdV u σ (none) F := ldV_of (by kernel_rfl)
@[go_sem ↓] theorem vfa_84_1 : fadV Try.prog 84 (.ref o z i' off) 1 F = F true (.ref o z i' (off + 1)) := fadV_ref (x := 1) (ag := false) (m := 1) (by kernel_rfl)
@[go_sem ↓] theorem vfr_84_1 : fadV Try.prog 84 (.rref z l i' off) 1 F = F true (.rref z l i' (off + 1)) := fadV_rref (x := 1) (ag := false) (m := 1) (by kernel_rfl)
@[go_sem ↓] theorem vst_4 : stV Try.prog 4 u v σ ks = clK v fun c => lenK c 1 (wrV u σ c ks) := stV_of (by kernel_rfl)
@[go_sem ↓] theorem vln_48 : bltV Try.prog e .len [48] [.row m l] σ kv = lenV (.row m l) fun τ v => kv τ v σ := lenB_row (by kernel_rfl)
@[go_sem ↓] theorem vlnx_48 : bltV Try.prog e .len [48] [.xrow m l] σ kv = lenV (.xrow m l) fun τ v => kv τ v σ := lenB_xrow (by kernel_rfl)
@[go_sem ↓] theorem vlns_48 : bltV Try.prog e .len [48] [.sl o m off len] σ kv = lenV (.sl o m off len) fun τ v => kv τ v σ := lenB_sl (by kernel_rfl)
@[go_sem ↓] theorem vlnn_48 : bltV Try.prog e .len [48] [.lit (.slice none 0 0)] σ kv = lenV (.lit (.slice none 0 0)) fun τ v => kv τ v σ := lenB_nil (by kernel_rfl)
@[go_sem ↓] theorem vct_22_5 : cvtV Try.prog 22 5 (.lit (.int i a)) F = F true (.lit (.int .u8 (IntKind.wrap .u8 a))) := cvtV_of (by kernel_rfl) (by kernel_rfl)
@[go_sem ↓ high] theorem vcth_22_5 (h : 0 ≤ a ∧ a ≤ 255) : cvtV Try.prog 22 5 (.lit (.int i a)) F = F true (.lit (.int .u8 a)) := cvtV_u8 (by kernel_rfl) (by kernel_rfl) h
@[go_sem ↓] theorem vcv_22_5 : cvsV Try.prog 22 5 (.lit (.int i a)) σ F = F true (.lit (.int .u8 (IntKind.wrap .u8 a))) := (cvsV_num (by kernel_rfl)).trans (cvtV_of (by kernel_rfl) (by kernel_rfl))
@[go_sem ↓ high] theorem vcvh_22_5 (h : 0 ≤ a ∧ a ≤ 255) : cvsV Try.prog 22 5 (.lit (.int i a)) σ F = F true (.lit (.int .u8 a)) := (cvsV_num (by kernel_rfl)).trans (cvtV_u8 (by kernel_rfl) (by kernel_rfl) h)
@[go_sem ↓ high] theorem vshr_u64_u64_8 {P : Program} {t : TypeId} : binV P .shr t (.lit (.int .u64 a)) (.lit (.int .u64 8)) F = F true (.lit (.int .u64 (a / 256))) := by rw [binV_shr_u64 (by decide)]; rfl
@[go_sem ↓ high] theorem vshr_u64_u64_16 {P : Program} {t : TypeId} : binV P .shr t (.lit (.int .u64 a)) (.lit (.int .u64 16)) F = F true (.lit (.int .u64 (a / 65536))) := by rw [binV_shr_u64 (by decide)]; rfl
@[go_sem ↓ high] theorem vshr_u64_u64_32 {P : Program} {t : TypeId} : binV P .shr t (.lit (.int .u64 a)) (.lit (.int .u64 32)) F = F true (.lit (.int .u64 (a / 4294967296))) := by rw [binV_shr_u64 (by decide)]; rfl
@[go_sem ↓] theorem via_37 (h : 0 ≤ a ∧ a < 64) : idxV Try.prog 37 (.ref o 0 0 off) (.lit (.int i a)) F = F true (.ref o 1 a.toNat off) := idxV_ar (et := 3) (by kernel_rfl) h
@[go_sem ↓ high] theorem vian_37 (h : m < 64) : idxV Try.prog 37 (.ref o 0 0 off) (.lit (.int i (m : Int))) F = F true (.ref o 1 m off) := idxV_arn (et := 3) (by kernel_rfl) h
@[go_sem ↓] theorem vld_71 : ldV Try.prog 71 u σ F = rdV u σ (none) F := ldV_of (by kernel_rfl)
@[go_sem ↓] theorem vsl_48 : slcV Try.prog 48 (.sl o 1 off len) lo hi none F = bdoK hi len len fun h => bdoK lo 0 h fun l => F true (.sl o 1 (off + l) (h - l)) := slcV_sl (et := 4) (by kernel_rfl)
@[go_sem ↓] theorem vslr_48 : slcV Try.prog 48 (.row 1 l) lo hi none F = bdoK hi l.length l.length fun h => bdoK lo 0 h fun x => F true (.row 1 ((l.take h).drop x)) := slcV_row (et := 4) (by kernel_rfl)
@[go_sem ↓ high] theorem vslm_48 : slcV Try.prog 48 (.row 1 (L.map f)) lo hi none F = bdoK hi L.length L.length fun h => bdoK lo 0 h fun x => F true (.row 1 (((L.take h).drop x).map f)) := slcV_rowm (et := 4) (by kernel_rfl)
@[go_sem ↓] theorem vslx_48 : slcV Try.prog 48 (.xrow 1 (L.map f)) lo hi none F = bdoK hi L.length L.length fun h => bdoK lo 0 h fun x => F true (.row 1 (((L.take h).drop x).map f)) := slcV_xrowm (et := 4) (by kernel_rfl)
@[go_sem ↓] theorem vslf_48 : slcV Try.prog 48 (.row 1 (L.map f)) lo (some u) (some v) F = bdK v L.length fun m => bdK u m fun h => if m = h then bdoK lo 0 h fun x => F true (.xrow 1 (((L.take h).drop x).map f)) else False := slcV_full (et := 4) (by kernel_rfl)
@[go_sem ↓] theorem vsln_48 : slcV Try.prog 48 (.lit (.slice none 0 0)) lo hi none F = bdoK hi 0 0 fun h => bdoK lo 0 h fun _ => F true (.lit (.slice none 0 0)) := slcV_nil (et := 4) (z := 1) (by kernel_rfl)
@[go_sem ↓] theorem vbs_48_1 {ps : List (Nat × V)} : bslV Try.prog 48 1 ps σ kv = prtK 1 0 ps fun l => lenK l 1 (newO σ (.row 1 l) fun o σ' => kv true (.sl o 1 0 1) σ') := bslV_of (et := 4) (by kernel_rfl) ⟨by kernel_rfl, by decide, by decide⟩
@[go_sem ↓] theorem vld_43 : ldV Try.prog 43 u σ F = rdV u σ (none) F := ldV_of (by kernel_rfl)
@[go_sem ↓] theorem vix_70 (h : 0 ≤ a ∧ a < len) : idxV Try.prog 70 (.sl o 1 off len) (.lit (.int i a)) F = F true (.ref o 1 (off + a.toNat) 0) := idxV_sl (et := 22) (by kernel_rfl) h
@[go_sem ↓ high] theorem vixn_70 (h : m < len) : idxV Try.prog 70 (.sl o 1 off len) (.lit (.int i (m : Int))) F = F true (.ref o 1 (off + m) 0) := idxV_sln (et := 22) (by kernel_rfl) h
@[go_sem ↓] theorem vixr_70 (h : 0 ≤ a ∧ a < l.length) : idxV Try.prog 70 (.row 1 l) (.lit (.int i a)) F = F true (.rref 1 l a.toNat 0) := idxV_row (et := 22) (by kernel_rfl) (by decide) h
@[go_sem ↓ high] theorem vixrn_70 (h : m < l.length) : idxV Try.prog 70 (.row 1 l) (.lit (.int i (m : Int))) F = F true (.rref 1 l m 0) := idxV_rown (et := 22) (by kernel_rfl) (by decide) h
@[go_sem ↓ high] theorem vixm_70 (h : 0 ≤ a ∧ a < L.length) : idxV Try.prog 70 (.row 1 (L.map f)) (.lit (.int i a)) F = F true (.rref 1 (L.map f) a.toNat 0) := idxV_rowm (et := 22) (by kernel_rfl) (by decide) h
@[go_sem ↓ high] theorem vixmn_70 (h : m < L.length) : idxV Try.prog 70 (.row 1 (L.map f)) (.lit (.int i (m : Int))) F = F true (.rref 1 (L.map f) m 0) := idxV_rowmn (et := 22) (by kernel_rfl) (by decide) h
@[go_sem ↓] theorem vld_22 : ldV Try.prog 22 u σ F = rdV u σ (none) F := ldV_of (by kernel_rfl)
@[go_sem ↓] theorem vct_22_3 : cvtV Try.prog 22 3 (.lit (.int i a)) F = F true (.lit (.int .i64 (IntKind.wrap .i64 a))) := cvtV_of (by kernel_rfl) (by kernel_rfl)
@[go_sem ↓ high] theorem vcth_22_3 (h : -9223372036854775808 ≤ a ∧ a ≤ 9223372036854775807) : cvtV Try.prog 22 3 (.lit (.int i a)) F = F true (.lit (.int .i64 a)) := cvtV_i64 (by kernel_rfl) (by kernel_rfl) h
@[go_sem ↓] theorem vcv_22_3 : cvsV Try.prog 22 3 (.lit (.int i a)) σ F = F true (.lit (.int .i64 (IntKind.wrap .i64 a))) := (cvsV_num (by kernel_rfl)).trans (cvtV_of (by kernel_rfl) (by kernel_rfl))
@[go_sem ↓ high] theorem vcvh_22_3 (h : -9223372036854775808 ≤ a ∧ a ≤ 9223372036854775807) : cvsV Try.prog 22 3 (.lit (.int i a)) σ F = F true (.lit (.int .i64 a)) := (cvsV_num (by kernel_rfl)).trans (cvtV_i64 (by kernel_rfl) (by kernel_rfl) h)
@[go_sem ↓] theorem vln_70 : bltV Try.prog e .len [70] [.row m l] σ kv = lenV (.row m l) fun τ v => kv τ v σ := lenB_row (by kernel_rfl)
@[go_sem ↓] theorem vlnx_70 : bltV Try.prog e .len [70] [.xrow m l] σ kv = lenV (.xrow m l) fun τ v => kv τ v σ := lenB_xrow (by kernel_rfl)
@[go_sem ↓] theorem vlns_70 : bltV Try.prog e .len [70] [.sl o m off len] σ kv = lenV (.sl o m off len) fun τ v => kv τ v σ := lenB_sl (by kernel_rfl)
@[go_sem ↓] theorem vlnn_70 : bltV Try.prog e .len [70] [.lit (.slice none 0 0)] σ kv = lenV (.lit (.slice none 0 0)) fun τ v => kv τ v σ := lenB_nil (by kernel_rfl)
@[go_sem ↓] theorem vct_3_22 : cvtV Try.prog 3 22 (.lit (.int i a)) F = F true (.lit (.int .u64 (IntKind.wrap .u64 a))) := cvtV_of (by kernel_rfl) (by kernel_rfl)
@[go_sem ↓ high] theorem vcth_3_22 (h : 0 ≤ a ∧ a ≤ 18446744073709551615) : cvtV Try.prog 3 22 (.lit (.int i a)) F = F true (.lit (.int .u64 a)) := cvtV_u64 (by kernel_rfl) (by kernel_rfl) h
@[go_sem ↓] theorem vcv_3_22 : cvsV Try.prog 3 22 (.lit (.int i a)) σ F = F true (.lit (.int .u64 (IntKind.wrap .u64 a))) := (cvsV_num (by kernel_rfl)).trans (cvtV_of (by kernel_rfl) (by kernel_rfl))
@[go_sem ↓ high] theorem vcvh_3_22 (h : 0 ≤ a ∧ a ≤ 18446744073709551615) : cvsV Try.prog 3 22 (.lit (.int i a)) σ F = F true (.lit (.int .u64 a)) := (cvsV_num (by kernel_rfl)).trans (cvtV_u64 (by kernel_rfl) (by kernel_rfl) h)
@[go_sem ↓] theorem vbs_70_1 {ps : List (Nat × V)} : bslV Try.prog 70 1 ps σ kv = prtK 1 0 ps fun l => lenK l 1 (newO σ (.row 1 l) fun o σ' => kv true (.sl o 1 0 1) σ') := bslV_of (et := 22) (by kernel_rfl) ⟨by kernel_rfl, by decide, by decide⟩
@[go_sem ↓ high] theorem vmk_u64_4294967295 {P : Program} {t : TypeId} : binV P .and t (.lit (.int .u64 a)) (.lit (.int .u64 4294967295)) F = F true (.lit (.int .u64 (a % 4294967296))) := binV_mask 32 (by decide) (by decide) (by decide)
@[go_sem ↓] theorem vfa_26_0 : fadV Try.prog 26 (.ref o z i' off) 0 F = F true (.ref o z i' off) := fadV_ref (x := 0) (ag := false) (m := 1) (by kernel_rfl)
@[go_sem ↓] theorem vfr_26_0 : fadV Try.prog 26 (.rref z l i' off) 0 F = F true (.rref z l i' off) := fadV_rref (x := 0) (ag := false) (m := 1) (by kernel_rfl)
@[go_sem ↓] theorem vfa_26_1 : fadV Try.prog 26 (.ref o z i' off) 1 F = F true (.ref o z i' (off + 1)) := fadV_ref (x := 1) (ag := false) (m := 1) (by kernel_rfl)
@[go_sem ↓] theorem vfr_26_1 : fadV Try.prog 26 (.rref z l i' off) 1 F = F true (.rref z l i' (off + 1)) := fadV_rref (x := 1) (ag := false) (m := 1) (by kernel_rfl)
@[go_sem ↓] theorem vbd_60 {ps : List (Nat × V)} : bldV Try.prog 60 ps F = allOne ([.int .u64 0, .int .i64 0, .int .i64 0] : List Value) (fillK (plOf Try.prog 60) ps (([.int .u64 0, .int .i64 0, .int .i64 0] : List Value).map V.lit) fun l => F true (.agg l)) := bldV_of (by kernel_rfl) (by kernel_rfl) (by kernel_rfl)
@[go_sem ↓] theorem vpl_60_0 {r : List (Nat × V)} {G : List V → Prop} : fillK (plOf Try.prog 60) ((0, u) :: r) us G = clK u fun c => lenK c 1 (wrK us 0 c fun l' => fillK (plOf Try.prog 60) r l' G) := fillK_step (by kernel_rfl)
@[go_sem ↓] theorem vpl_60_1 {r : List (Nat × V)} {G : List V → Prop} : fillK (plOf Try.prog 60) ((1, u) :: r) us G = clK u fun c => lenK c 1 (wrK us 1 c fun l' => fillK (plOf Try.prog 60) r l' G) := fillK_step (by kernel_rfl)
@[go_sem ↓] theorem vpl_60_2 {r : List (Nat × V)} {G : List V → Prop} : fillK (plOf Try.prog 60) ((2, u) :: r) us G = clK u fun c => lenK c 1 (wrK us 2 c fun l' => fillK (plOf Try.prog 60) r l' G) := fillK_step (by kernel_rfl)
@[go_sem ↓] theorem vst_60 : stV Try.prog 60 u v σ ks = clK v fun c => lenK c 3 (wrV u σ c ks) := stV_of (by kernel_rfl)
@[go_sem ↓] theorem val_60 : alcV Try.prog 60 σ kv = allOne ([.int .u64 0, .int .i64 0, .int .i64 0] : List Value) (newO σ (.cells (([.int .u64 0, .int .i64 0, .int .i64 0] : List Value).map V.lit)) fun o σ' => kv true (.ref o 0 0 0) σ') := alcV_of (by kernel_rfl)
@[go_sem ↓] theorem vbd_26 {ps : List (Nat × V)} : bldV Try.prog 26 ps F = allOne ([.int .u64 0, .int .u64 0] : List Value) (fillK (plOf Try.prog 26) ps (([.int .u64 0, .int .u64 0] : List Value).map V.lit) fun l => F true (.agg l)) := bldV_of (by kernel_rfl) (by kernel_rfl) (by kernel_rfl)
@[go_sem ↓] theorem vpl_26_0 {r : List (Nat × V)} {G : List V → Prop} : fillK (plOf Try.prog 26) ((0, u) :: r) us G = clK u fun c => lenK c 1 (wrK us 0 c fun l' => fillK (plOf Try.prog 26) r l' G) := fillK_step (by kernel_rfl)
@[go_sem ↓] theorem vpl_26_1 {r : List (Nat × V)} {G : List V → Prop} : fillK (plOf Try.prog 26) ((1, u) :: r) us G = clK u fun c => lenK c 1 (wrK us 1 c fun l' => fillK (plOf Try.prog 26) r l' G) := fillK_step (by kernel_rfl)
@[go_sem ↓] theorem vst_26 : stV Try.prog 26 u v σ ks = clK v fun c => lenK c 2 (wrV u σ c ks) := stV_of (by kernel_rfl)
@[go_sem ↓] theorem val_26 : alcV Try.prog 26 σ kv = allOne ([.int .u64 0, .int .u64 0] : List Value) (newO σ (.cells (([.int .u64 0, .int .u64 0] : List Value).map V.lit)) fun o σ' => kv true (.ref o 0 0 0) σ') := alcV_of (by kernel_rfl)
@[go_sem ↓] theorem vbd_86 {ps : List (Nat × V)} : bldV Try.prog 86 ps F = allOne ([.int .i64 0, .bool false, .slice none 0 0] : List Value) (fillK (plOf Try.prog 86) ps (([.int .i64 0, .bool false, .slice none 0 0] : List Value).map V.lit) fun l => F true (.agg l)) := bldV_of (by kernel_rfl) (by kernel_rfl) (by kernel_rfl)
@[go_sem ↓] theorem vpl_86_1 {r : List (Nat × V)} {G : List V → Prop} : fillK (plOf Try.prog 86) ((1, u) :: r) us G = clK u fun c => lenK c 1 (wrK us 2 c fun l' => fillK (plOf Try.prog 86) r l' G) := fillK_step (by kernel_rfl)
@[go_sem ↓ high] theorem vshl_u64_u64_8 {P : Program} {t : TypeId} : binV P .shl t (.lit (.int .u64 a)) (.lit (.int .u64 8)) F = F true (.lit (.int .u64 (IntKind.wrap .u64 (a * 256)))) := by rw [binV_shl_u64 (by decide)]; rfl
@[go_sem ↓] theorem vct_3_53 : cvtV Try.prog 3 53 (.lit (.int i a)) F = F true (.lit (.int .u64 (IntKind.wrap .u64 a))) := cvtV_of (by kernel_rfl) (by kernel_rfl)
@[go_sem ↓ high] theorem vcth_3_53 (h : 0 ≤ a ∧ a ≤ 18446744073709551615) : cvtV Try.prog 3 53 (.lit (.int i a)) F = F true (.lit (.int .u64 a)) := cvtV_u64 (by kernel_rfl) (by kernel_rfl) h
@[go_sem ↓] theorem vcv_3_53 : cvsV Try.prog 3 53 (.lit (.int i a)) σ F = F true (.lit (.int .u64 (IntKind.wrap .u64 a))) := (cvsV_num (by kernel_rfl)).trans (cvtV_of (by kernel_rfl) (by kernel_rfl))
@[go_sem ↓ high] theorem vcvh_3_53 (h : 0 ≤ a ∧ a ≤ 18446744073709551615) : cvsV Try.prog 3 53 (.lit (.int i a)) σ F = F true (.lit (.int .u64 a)) := (cvsV_num (by kernel_rfl)).trans (cvtV_u64 (by kernel_rfl) (by kernel_rfl) h)
@[go_sem ↓ high] theorem vshr_u64_u64_1 {P : Program} {t : TypeId} : binV P .shr t (.lit (.int .u64 a)) (.lit (.int .u64 1)) F = F true (.lit (.int .u64 (a / 2))) := by rw [binV_shr_u64 (by decide)]; rfl
@[go_sem ↓ high] theorem vshl_i64_u64_1 {P : Program} {t : TypeId} : binV P .shl t (.lit (.int .i64 a)) (.lit (.int .u64 1)) F = F true (.lit (.int .i64 (IntKind.wrap .i64 (a * 2)))) := by rw [binV_shl_i64 (by decide)]; rfl
@[go_sem ↓ high] theorem vshl_u64_u64_2 {P : Program} {t : TypeId} : binV P .shl t (.lit (.int .u64 a)) (.lit (.int .u64 2)) F = F true (.lit (.int .u64 (IntKind.wrap .u64 (a * 4)))) := by rw [binV_shl_u64 (by decide)]; rfl
@[go_sem ↓ high] theorem vshr_u64_u64_62 {P : Program} {t : TypeId} : binV P .shr t (.lit (.int .u64 a)) (.lit (.int .u64 62)) F = F true (.lit (.int .u64 (a / 4611686018427387904))) := by rw [binV_shr_u64 (by decide)]; rfl
@[go_sem ↓ high] theorem vshl_u64_u64_1 {P : Program} {t : TypeId} : binV P .shl t (.lit (.int .u64 a)) (.lit (.int .u64 1)) F = F true (.lit (.int .u64 (IntKind.wrap .u64 (a * 2)))) := by rw [binV_shl_u64 (by decide)]; rfl
@[go_sem ↓] theorem vld_37 : ldV Try.prog 37 u σ F = rdV u σ (some 64) F := ldV_of (by kernel_rfl)
@[go_sem ↓] theorem vst_37 : stV Try.prog 37 u v σ ks = clK v fun c => lenK c 64 (wrV u σ c ks) := stV_of (by kernel_rfl)
@[go_sem ↓] theorem vst_71 : stV Try.prog 71 u v σ ks = clK v fun c => lenK c 1 (wrV u σ c ks) := stV_of (by kernel_rfl)
@[go_sem ↓] theorem val_71 : alcV Try.prog 71 σ kv = allOne ([.nilFunc] : List Value) (newO σ (.cells (([.nilFunc] : List Value).map V.lit)) fun o σ' => kv true (.ref o 0 0 0) σ') := alcV_of (by kernel_rfl)
@[go_sem ↓] theorem val_37 : alcV Try.prog 37 σ kv = allOne ((List.replicate 64 (.int .i64 0)) : List Value) (newO σ (.cells (((List.replicate 64 (.int .i64 0)) : List Value).map V.lit)) fun o σ' => kv true (.ref o 0 0 0) σ') := alcV_of (by kernel_rfl)
@[go_sem ↓] theorem val_3 : alcV Try.prog 3 σ kv = allOne ([.int .i64 0] : List Value) (newO σ (.cells (([.int .i64 0] : List Value).map V.lit)) fun o σ' => kv true (.ref o 0 0 0) σ') := alcV_of (by kernel_rfl)
@[go_sem ↓] theorem vpeq_40 {x : Option Addr} : binV Try.prog .eql 40 (.lit (.pointer x)) (.lit (.pointer none)) F = F true (.lit (.bool (x.isNone))) := binV_peq (by kernel_rfl)
@[go_sem ↓] theorem vreq_40 {o z i off : Nat} : binV Try.prog .eql 40 (.ref o z i off) (.lit (.pointer none)) F = F true (.lit (.bool false)) := binV_req (by kernel_rfl)
@[go_sem ↓] theorem vbs_48_4 {ps : List (Nat × V)} : bslV Try.prog 48 4 ps σ kv = prtK 1 0 ps fun l => lenK l 4 (newO σ (.row 1 l) fun o σ' => kv true (.sl o 1 0 4) σ') := bslV_of (et := 4) (by kernel_rfl) ⟨by kernel_rfl, by decide, by decide⟩
@[go_sem ↓ high] theorem vmk_u64_2305843009213693951 {P : Program} {t : TypeId} : binV P .and t (.lit (.int .u64 a)) (.lit (.int .u64 2305843009213693951)) F = F true (.lit (.int .u64 (a % 2305843009213693952))) := binV_mask 61 (by decide) (by decide) (by decide)
@[go_sem ↓ high] theorem vshl_u64_u64_3 {P : Program} {t : TypeId} : binV P .shl t (.lit (.int .u64 a)) (.lit (.int .u64 3)) F = F true (.lit (.int .u64 (IntKind.wrap .u64 (a * 8)))) := by rw [binV_shl_u64 (by decide)]; rfl
@[go_sem ↓ high] theorem vshr_u64_u64_61 {P : Program} {t : TypeId} : binV P .shr t (.lit (.int .u64 a)) (.lit (.int .u64 61)) F = F true (.lit (.int .u64 (a / 2305843009213693952))) := by rw [binV_shr_u64 (by decide)]; rfl
@[go_sem ↓] theorem vld_26 : ldV Try.prog 26 u σ F = rdV u σ (some 2) F := ldV_of (by kernel_rfl)
@[go_sem ↓] theorem vfa_60_0 : fadV Try.prog 60 (.ref o z i' off) 0 F = F true (.ref o z i' off) := fadV_ref (x := 0) (ag := false) (m := 1) (by kernel_rfl)
@[go_sem ↓] theorem vfr_60_0 : fadV Try.prog 60 (.rref z l i' off) 0 F = F true (.rref z l i' off) := fadV_rref (x := 0) (ag := false) (m := 1) (by kernel_rfl)
@[go_sem ↓] theorem vqeq_26 {vs : List V} : binV Try.prog .eql 26 (.agg us) (.agg vs) F = eqK [true, true] us vs fun r => litI (eqI .eql r) F := binV_agg (by kernel_rfl)
@[go_sem ↓] theorem vfa_60_1 : fadV Try.prog 60 (.ref o z i' off) 1 F = F true (.ref o z i' (off + 1)) := fadV_ref (x := 1) (ag := false) (m := 1) (by kernel_rfl)
@[go_sem ↓] theorem vfr_60_1 : fadV Try.prog 60 (.rref z l i' off) 1 F = F true (.rref z l i' (off + 1)) := fadV_rref (x := 1) (ag := false) (m := 1) (by kernel_rfl)
@[go_sem ↓] theorem vfa_60_2 : fadV Try.prog 60 (.ref o z i' off) 2 F = F true (.ref o z i' (off + 2)) := fadV_ref (x := 2) (ag := false) (m := 1) (by kernel_rfl)
@[go_sem ↓] theorem vfr_60_2 : fadV Try.prog 60 (.rref z l i' off) 2 F = F true (.rref z l i' (off + 2)) := fadV_rref (x := 2) (ag := false) (m := 1) (by kernel_rfl)
@[go_sem ↓ high] theorem vmk_u64_255 {P : Program} {t : TypeId} : binV P .and t (.lit (.int .u64 a)) (.lit (.int .u64 255)) F = F true (.lit (.int .u64 (a % 256))) := binV_mask 8 (by decide) (by decide) (by decide)
@[go_sem ↓] theorem via_49 (h : 0 ≤ a ∧ a < 2) : idxV Try.prog 49 (.ref o 0 0 off) (.lit (.int i a)) F = F true (.ref o 1 a.toNat off) := idxV_ar (et := 3) (by kernel_rfl) h
@[go_sem ↓ high] theorem vian_49 (h : m < 2) : idxV Try.prog 49 (.ref o 0 0 off) (.lit (.int i (m : Int))) F = F true (.ref o 1 m off) := idxV_arn (et := 3) (by kernel_rfl) h
@[go_sem ↓ high] theorem vmk_i64_1048575 {P : Program} {t : TypeId} : binV P .and t (.lit (.int .i64 a)) (.lit (.int .i64 1048575)) F = F true (.lit (.int .i64 (a % 1048576))) := binV_mask 20 (by decide) (by decide) (by decide)
@[go_sem ↓ high] theorem vmk_i64_15 {P : Program} {t : TypeId} : binV P .and t (.lit (.int .i64 a)) (.lit (.int .i64 15)) F = F true (.lit (.int .i64 (a % 16))) := binV_mask 4 (by decide) (by decide) (by decide)
@[go_sem ↓] theorem val_22 : alcV Try.prog 22 σ kv = allOne ([.int .u64 0] : List Value) (newO σ (.cells (([.int .u64 0] : List Value).map V.lit)) fun o σ' => kv true (.ref o 0 0 0) σ') := alcV_of (by kernel_rfl)
@[go_sem ↓] theorem vst_22 : stV Try.prog 22 u v σ ks = clK v fun c => lenK c 1 (wrV u σ c ks) := stV_of (by kernel_rfl)
@[go_sem ↓ high] theorem vmk_i64_7 {P : Program} {t : TypeId} : binV P .and t (.lit (.int .i64 a)) (.lit (.int .i64 7)) F = F true (.lit (.int .i64 (a % 8))) := binV_mask 3 (by decide) (by decide) (by decide)
@[go_sem ↓] theorem viv_37 (h : 0 ≤ a ∧ a < 64) (hl : us.length = 64) : ixvV Try.prog 37 (.agg us) (.lit (.int i a)) F = atK us a.toNat fun x => F true x := ixvV_of (et := 3) (by kernel_rfl) (by kernel_rfl) hl h
@[go_sem ↓ high] theorem vivn_37 (h : m < 64) (hl : us.length = 64) : ixvV Try.prog 37 (.agg us) (.lit (.int i (m : Int))) F = atK us m fun x => F true x := ixvV_n (et := 3) (by kernel_rfl) (by kernel_rfl) hl h
@[go_sem ↓] theorem via_23 (h : 0 ≤ a ∧ a < 2) : idxV Try.prog 23 (.ref o 0 0 off) (.lit (.int i a)) F = F true (.ref o 1 a.toNat off) := idxV_ar (et := 22) (by kernel_rfl) h
@[go_sem ↓ high] theorem vian_23 (h : m < 2) : idxV Try.prog 23 (.ref o 0 0 off) (.lit (.int i (m : Int))) F = F true (.ref o 1 m off) := idxV_arn (et := 22) (by kernel_rfl) h
@[go_sem ↓] theorem vld_60 : ldV Try.prog 60 u σ F = rdV u σ (some 3) F := ldV_of (by kernel_rfl)
end
end Go.Proofs.Ytdpekigpjihnkaa
