/- Proved for every input: spoilt bytes are refused, and what is no sketch. -/
import Derived.Test.YtcnlmelpnflhnaaGreatRows
import Derived.Test.YtcnlmelpnflhnaaGreatBt
import Derived.Test.YtcnlmelpnflhnaaGreatE6
import Derived.WalkKit
import Derived.ProofKit
import Derived.OpenShut
import Derived.ShutString
import Derived.ChangeOld
import Derived.Below
import Derived.Carry
namespace Go.Proofs.YtcnlmelpnflhnaaGreat.wireBad
open Go.ChangeShapes Go.WideShapes Go.ChangeAt Go.RowKit Go.Eng Go.Vx
set_option linter.unusedVariables false
theorem own:ownKnob Tryz.prog.godebug=none:=by kernel_rfl
theorem laidOut:laidOutB Tryz.prog=true:=by kernel_rfl
theorem walk (d0:(Int×((Int×(Int×(Int×Unit)))×((List (Int×(Int×(Bool×Unit))))×((Int×(Int×(Int×Unit)))×((Int×(Int×((Int×(Int×(Int×Unit)))×((List Int)×Unit))))×((List Int)×((List Bool)×Unit)))))))) (o0:Go.Vx.okD (Sh.cons (Sh.int .i64) (Sh.cons (Sh.cons (Sh.int .i64) (Sh.cons (Sh.int .i64) (Sh.cons (Sh.int .i64) Sh.nil))) (Sh.cons (Sh.row (Sh.cons (Sh.int .i64) (Sh.cons (Sh.int .i64) (Sh.cons Sh.bool Sh.nil)))) (Sh.cons (Sh.cons (Sh.int .i64) (Sh.cons (Sh.int .i64) (Sh.cons (Sh.int .i64) Sh.nil))) (Sh.cons (Sh.cons (Sh.int .i64) (Sh.cons (Sh.int .i64) (Sh.cons (Sh.cons (Sh.int .i64) (Sh.cons (Sh.int .i64) (Sh.cons (Sh.int .i64) Sh.nil))) (Sh.cons (Sh.row (Sh.int .u64)) Sh.nil)))) (Sh.cons (Sh.row (Sh.int .u64)) (Sh.cons (Sh.row Sh.bool) Sh.nil))))))) d0) (d1:Int) (o1:Go.Vx.okD (Sh.int .i64) d1) (d2:Int) (o2:Go.Vx.okD (Sh.int .u8) d2):aA Tryz.prog 4 [vOf (Sh.cons (Sh.int .i64) (Sh.cons (Sh.cons (Sh.int .i64) (Sh.cons (Sh.int .i64) (Sh.cons (Sh.int .i64) Sh.nil))) (Sh.cons (Sh.row (Sh.cons (Sh.int .i64) (Sh.cons (Sh.int .i64) (Sh.cons Sh.bool Sh.nil)))) (Sh.cons (Sh.cons (Sh.int .i64) (Sh.cons (Sh.int .i64) (Sh.cons (Sh.int .i64) Sh.nil))) (Sh.cons (Sh.cons (Sh.int .i64) (Sh.cons (Sh.int .i64) (Sh.cons (Sh.cons (Sh.int .i64) (Sh.cons (Sh.int .i64) (Sh.cons (Sh.int .i64) Sh.nil))) (Sh.cons (Sh.row (Sh.int .u64)) Sh.nil)))) (Sh.cons (Sh.row (Sh.int .u64)) (Sh.cons (Sh.row Sh.bool) Sh.nil))))))) d0,vOf (Sh.int .i64) d1,vOf (Sh.int .u8) d2] [] (.lit (.bool true)) []:=by
 obtain ⟨Kd0,⟨kk0,aa0,bb0,⟨⟩⟩,S0,⟨M0,D0,Sc0,⟨⟩⟩,⟨R0,C0,⟨ck0,ca0,cb0,⟨⟩⟩,W0,⟨⟩⟩,Ky0,L0,⟨⟩⟩:=d0;obtain ⟨-,-,⟨hS0,-⟩,-,⟨-,-,-,⟨hW0,hw0⟩,-⟩,⟨hKy0,hky0⟩,⟨hL0,-⟩,-⟩:=o0;dsimp only at hS0 hW0 hw0 hKy0 hky0 hL0;unfold maxLen at hS0 hW0 hKy0 hL0
 have e0:List.map (vG (Sh.cons (Sh.int .i64) (Sh.cons (Sh.int .i64) (Sh.cons Sh.bool Sh.nil)))) S0=(List.map (fun x=>(x.1,x.2.1,x.2.2.1)) S0).map Zx:=by
  rw[List.map_map]
  rfl
 obtain ⟨W0,rfl,hwn0⟩:=vq (B:=W0) (fun x hx=>⟨(hw0 x hx).1,(hw0 x hx).2⟩);obtain ⟨Ky0,rfl,hkn0⟩:=vq (B:=Ky0) (fun x hx=>⟨(hky0 x hx).1,(hky0 x hx).2⟩);have hW0:=Nat.le_trans (Nat.le_of_eq (av W0).symm) hW0;have hKy0:=Nat.le_trans (Nat.le_of_eq (av Ky0).symm) hKy0
 have:=BV (Kd:=Kd0) (kk:=kk0) (aa:=aa0) (bb:=bb0) (S:=List.map (fun x=>(x.1,x.2.1,x.2.2.1)) S0) (M:=M0) (D:=D0) (Sc:=Sc0) (R:=R0) (C:=C0) (ck:=ck0) (ca:=ca0) (cb:=cb0) (W:=W0) (Ky:=Ky0) (L0:=L0) (at_:=d1) (by_:=d2) (by rw[List.length_map];exact hS0) hL0 hW0 hwn0 hKy0 hkn0 ⟨o1.1,o1.2⟩ ⟨o2.1,o2.2⟩
 unfold Ms at this;rw[←e0] at this;exact this
set_option maxRecDepth 100000 in
theorem lifted (os:Os) (started:os.Started) (H:Type) (enc:TypeId×Value→H):
 ReturnsInHanded {} Tryz.checked os 4 .any (Rows.wireBadSpec.pre6 enc Tryz.prog Tryz.f4 Rows.wireBadRow.domain false) (Rows.wireBadSpec.post enc Tryz.prog Tryz.f4 false true false false):=by
 refine returnsInHanded_of_change (C:=Tryz.checked) own started (by kernel_rfl) Tryz.func4
  (ChangeSpec.witness6 (enc:=enc) (C:=Tryz.checked) false ⟨#[],#[.agg #[.int .i64 0,.int .i64 0,.int .i64 0,.int .i64 0,.slice none 0 0,.int .i64 0,.int .i64 0,.int .i64 0,.int .i64 0,.int .i64 0,.int .i64 0,.int .i64 0,.int .i64 0,.slice none 0 0,.slice none 0 0,.slice none 0 0],.int .i64 0,.int .u8 0],[]⟩ 8 (by kernel_rfl) (by kernel_rfl) (by kernel_rfl) (by kernel_rfl)) ?_
 intro W base args ds gs before hval0 hW hcnd _;have hval:∀(j:Nat) t v,Tryz.f4.params[j]? =some t→args[j]? =some v→Value.okWide Tryz.prog W .any base t v:=hval0;have hW':=hW;obtain ⟨p,q,hA0,hV,rfl,hfz,hnd⟩:=hW;have hA:DataW.TrodAll enc Tryz.prog W 0 (fun _=>true) true Tryz.f4.params.toList args.toList ds p:=hA0;rw[Tryz.params4] at hA hval;obtain ⟨v0,vs0,e0,es0,p0,q0,hargs,rfl,rfl,h0,r0⟩:=trodAll_cons hA;obtain ⟨v1,vs1,e1,es1,p1,q1,rfl,rfl,rfl,h1,r1⟩:=trodAll_cons r0;obtain ⟨v2,vs2,e2,es2,p2,q2,rfl,rfl,rfl,h2,r2⟩:=trodAll_cons r1;obtain ⟨rfl,rfl,rfl⟩:=trodAll_nil r2;obtain rfl:args=#[v0,v1,v2]:=by cases args;simp_all
 obtain ⟨rfl,rfl⟩:=trodVars_none hV;obtain ⟨d0,o0,g0⟩:=rq (n:=12) (s:=(Sh.cons (Sh.int .i64) (Sh.cons (Sh.cons (Sh.int .i64) (Sh.cons (Sh.int .i64) (Sh.cons (Sh.int .i64) Sh.nil))) (Sh.cons (Sh.row (Sh.cons (Sh.int .i64) (Sh.cons (Sh.int .i64) (Sh.cons Sh.bool Sh.nil)))) (Sh.cons (Sh.cons (Sh.int .i64) (Sh.cons (Sh.int .i64) (Sh.cons (Sh.int .i64) Sh.nil))) (Sh.cons (Sh.cons (Sh.int .i64) (Sh.cons (Sh.int .i64) (Sh.cons (Sh.cons (Sh.int .i64) (Sh.cons (Sh.int .i64) (Sh.cons (Sh.int .i64) Sh.nil))) (Sh.cons (Sh.row (Sh.int .u64)) Sh.nil)))) (Sh.cons (Sh.row (Sh.int .u64)) (Sh.cons (Sh.row Sh.bool) Sh.nil)))))))) (by kernel_rfl) h0 (hval 0 32 v0 rfl rfl)
 have lt0:∀x∈p0,x.block<W.heap.size:=by
  obtain ⟨m,hm⟩:=h0;exact DataW.trod_lt m _ _ _ hm
 obtain ⟨d1,o1,g1⟩:=rq (n:=12) (s:=(Sh.int .i64)) (by kernel_rfl) h1 (hval 1 3 v1 rfl rfl)
 have lt1:∀x∈p1,x.block<W.heap.size:=by
  obtain ⟨m,hm⟩:=h1;exact DataW.trod_lt m _ _ _ hm
 obtain ⟨d2,o2,g2⟩:=rq (n:=12) (s:=(Sh.int .u8)) (by kernel_rfl) h2 (hval 2 5 v2 rfl rfl)
 have lt2:∀x∈p2,x.block<W.heap.size:=by
  obtain ⟨m,hm⟩:=h2;exact DataW.trod_lt m _ _ _ hm
 clear hA0 hval0;refine(G8 (walk d0 o0 d1 o1 d2 o2) (.cons g0 (.cons g1 (.cons g2 .nil)))).mono fun e W' ⟨he,bel⟩=>?_;subst he;exact⟨_,rfl,_,_,_,[],_,[],hW',trodAll_mk1 (shut_bool Tryz.underlying4 _),(trodAll_cons_mk (Below.trod laidOut (by kernel_rfl) (of_decide_eq_true (by kernel_rfl)) h0 bel lt0) (trodAll_cons_mk (Below.trod laidOut (by kernel_rfl) (of_decide_eq_true (by kernel_rfl)) h1 bel lt1) (trodAll_cons_mk (Below.trod laidOut (by kernel_rfl) (of_decide_eq_true (by kernel_rfl)) h2 bel lt2) trodAll_mk0))),rfl,bel.frame _,fun h=>by cases h⟩
theorem over:Rows.wireBadRow.holds Tryz.pinned (OpenSpec.ofChange Rows.wireBadSpec):=
 OpenClaim.holds_of_wide 4 Tryz.f4 rfl rfl rfl rfl rfl rfl rfl ⟨rfl,rfl,rfl,rfl,rfl⟩ rfl rfl rfl rfl rfl (by kernel_rfl) Tryz.func4 (by kernel_rfl)
  (of_decide_eq_true (by kernel_rfl)) (by unfold Func.isWrapper;first | (rw[if_pos (by decide+kernel)];kernel_rfl) | (rw[if_neg (by decide+kernel)];exact⟨rfl,rfl⟩))
  (fun os started H enc _=>lifted os started H enc)
theorem proved:Rows.WireBadSaid:=over
#print axioms proved
end Go.Proofs.YtcnlmelpnflhnaaGreat.wireBad
