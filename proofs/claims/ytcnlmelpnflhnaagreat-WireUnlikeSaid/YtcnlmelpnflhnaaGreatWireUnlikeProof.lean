/- Proved for every input: unlike sketches have unlike bytes. -/
import Derived.Test.YtcnlmelpnflhnaaGreatRows
import Derived.Test.YtcnlmelpnflhnaaGreatCe
import Derived.Test.YtcnlmelpnflhnaaGreatE6
import Derived.WalkKit
import Derived.ProofKit
import Derived.OpenShut
import Derived.ShutString
import Derived.ChangeOld
import Derived.Below
import Derived.Carry
namespace Go.Proofs.YtcnlmelpnflhnaaGreat.wireUnlike
open Go.ChangeShapes Go.WideShapes Go.ChangeAt Go.RowKit Go.Eng Go.Vx
set_option linter.unusedVariables false
theorem own:ownKnob Tryz.prog.godebug=none:=by kernel_rfl
theorem laidOut:laidOutB Tryz.prog=true:=by kernel_rfl
theorem walk (d0:(Int×((Int×(Int×(Int×Unit)))×((List (Int×(Int×(Bool×Unit))))×((Int×(Int×(Int×Unit)))×((Int×(Int×((Int×(Int×(Int×Unit)))×((List Int)×Unit))))×((List Int)×((List Bool)×Unit)))))))) (o0:Go.Vx.okD (Sh.cons (Sh.int .i64) (Sh.cons (Sh.cons (Sh.int .i64) (Sh.cons (Sh.int .i64) (Sh.cons (Sh.int .i64) Sh.nil))) (Sh.cons (Sh.row (Sh.cons (Sh.int .i64) (Sh.cons (Sh.int .i64) (Sh.cons Sh.bool Sh.nil)))) (Sh.cons (Sh.cons (Sh.int .i64) (Sh.cons (Sh.int .i64) (Sh.cons (Sh.int .i64) Sh.nil))) (Sh.cons (Sh.cons (Sh.int .i64) (Sh.cons (Sh.int .i64) (Sh.cons (Sh.cons (Sh.int .i64) (Sh.cons (Sh.int .i64) (Sh.cons (Sh.int .i64) Sh.nil))) (Sh.cons (Sh.row (Sh.int .u64)) Sh.nil)))) (Sh.cons (Sh.row (Sh.int .u64)) (Sh.cons (Sh.row Sh.bool) Sh.nil))))))) d0) (d1:(Int×((Int×(Int×(Int×Unit)))×((List (Int×(Int×(Bool×Unit))))×((Int×(Int×(Int×Unit)))×((Int×(Int×((Int×(Int×(Int×Unit)))×((List Int)×Unit))))×((List Int)×((List Bool)×Unit)))))))) (o1:Go.Vx.okD (Sh.cons (Sh.int .i64) (Sh.cons (Sh.cons (Sh.int .i64) (Sh.cons (Sh.int .i64) (Sh.cons (Sh.int .i64) Sh.nil))) (Sh.cons (Sh.row (Sh.cons (Sh.int .i64) (Sh.cons (Sh.int .i64) (Sh.cons Sh.bool Sh.nil)))) (Sh.cons (Sh.cons (Sh.int .i64) (Sh.cons (Sh.int .i64) (Sh.cons (Sh.int .i64) Sh.nil))) (Sh.cons (Sh.cons (Sh.int .i64) (Sh.cons (Sh.int .i64) (Sh.cons (Sh.cons (Sh.int .i64) (Sh.cons (Sh.int .i64) (Sh.cons (Sh.int .i64) Sh.nil))) (Sh.cons (Sh.row (Sh.int .u64)) Sh.nil)))) (Sh.cons (Sh.row (Sh.int .u64)) (Sh.cons (Sh.row Sh.bool) Sh.nil))))))) d1):aA Tryz.prog 5 [UI (Sh.cons (Sh.int .i64) (Sh.cons (Sh.cons (Sh.int .i64) (Sh.cons (Sh.int .i64) (Sh.cons (Sh.int .i64) Sh.nil))) (Sh.cons (Sh.row (Sh.cons (Sh.int .i64) (Sh.cons (Sh.int .i64) (Sh.cons Sh.bool Sh.nil)))) (Sh.cons (Sh.cons (Sh.int .i64) (Sh.cons (Sh.int .i64) (Sh.cons (Sh.int .i64) Sh.nil))) (Sh.cons (Sh.cons (Sh.int .i64) (Sh.cons (Sh.int .i64) (Sh.cons (Sh.cons (Sh.int .i64) (Sh.cons (Sh.int .i64) (Sh.cons (Sh.int .i64) Sh.nil))) (Sh.cons (Sh.row (Sh.int .u64)) Sh.nil)))) (Sh.cons (Sh.row (Sh.int .u64)) (Sh.cons (Sh.row Sh.bool) Sh.nil))))))) d0,UI (Sh.cons (Sh.int .i64) (Sh.cons (Sh.cons (Sh.int .i64) (Sh.cons (Sh.int .i64) (Sh.cons (Sh.int .i64) Sh.nil))) (Sh.cons (Sh.row (Sh.cons (Sh.int .i64) (Sh.cons (Sh.int .i64) (Sh.cons Sh.bool Sh.nil)))) (Sh.cons (Sh.cons (Sh.int .i64) (Sh.cons (Sh.int .i64) (Sh.cons (Sh.int .i64) Sh.nil))) (Sh.cons (Sh.cons (Sh.int .i64) (Sh.cons (Sh.int .i64) (Sh.cons (Sh.cons (Sh.int .i64) (Sh.cons (Sh.int .i64) (Sh.cons (Sh.int .i64) Sh.nil))) (Sh.cons (Sh.row (Sh.int .u64)) Sh.nil)))) (Sh.cons (Sh.row (Sh.int .u64)) (Sh.cons (Sh.row Sh.bool) Sh.nil))))))) d1] [] (.lit (.bool true)) []:=by
 obtain ⟨Kd0,⟨kk0,aa0,bb0,⟨⟩⟩,S0,⟨M0,D0,Sc0,⟨⟩⟩,⟨R0,C0,⟨ck0,ca0,cb0,⟨⟩⟩,W0,⟨⟩⟩,Ky0,L0,⟨⟩⟩:=d0;obtain ⟨-,-,⟨hS0,-⟩,-,⟨-,-,-,⟨hW0,hw0⟩,-⟩,⟨hKy0,hky0⟩,⟨hL0,-⟩,-⟩:=o0;dsimp only at hS0 hW0 hw0 hKy0 hky0 hL0;unfold maxLen at hS0 hW0 hKy0 hL0
 have e0:List.map (s7 (Sh.cons (Sh.int .i64) (Sh.cons (Sh.int .i64) (Sh.cons Sh.bool Sh.nil)))) S0=(List.map (fun x=>(x.1,x.2.1,x.2.2.1)) S0).map Ox:=by
  rw[List.map_map]
  rfl
 obtain ⟨W0,rfl,hwn0⟩:=eY (B:=W0) (fun x hx=>⟨(hw0 x hx).1,(hw0 x hx).2⟩);obtain ⟨Ky0,rfl,hkn0⟩:=eY (B:=Ky0) (fun x hx=>⟨(hky0 x hx).1,(hky0 x hx).2⟩);have hW0:=Nat.le_trans (Nat.le_of_eq (ay W0).symm) hW0;have hKy0:=Nat.le_trans (Nat.le_of_eq (ay Ky0).symm) hKy0;obtain ⟨Kd1,⟨kk1,aa1,bb1,⟨⟩⟩,S1,⟨M1,D1,Sc1,⟨⟩⟩,⟨R1,C1,⟨ck1,ca1,cb1,⟨⟩⟩,W1,⟨⟩⟩,Ky1,L1,⟨⟩⟩:=d1;obtain ⟨-,-,⟨hS1,-⟩,-,⟨-,-,-,⟨hW1,hw1⟩,-⟩,⟨hKy1,hky1⟩,⟨hL1,-⟩,-⟩:=o1;dsimp only at hS1 hW1 hw1 hKy1 hky1 hL1;unfold maxLen at hS1 hW1 hKy1 hL1
 have e1:List.map (s7 (Sh.cons (Sh.int .i64) (Sh.cons (Sh.int .i64) (Sh.cons Sh.bool Sh.nil)))) S1=(List.map (fun x=>(x.1,x.2.1,x.2.2.1)) S1).map Ox:=by
  rw[List.map_map]
  rfl
 obtain ⟨W1,rfl,hwn1⟩:=eY (B:=W1) (fun x hx=>⟨(hw1 x hx).1,(hw1 x hx).2⟩);obtain ⟨Ky1,rfl,hkn1⟩:=eY (B:=Ky1) (fun x hx=>⟨(hky1 x hx).1,(hky1 x hx).2⟩);have hW1:=Nat.le_trans (Nat.le_of_eq (ay W1).symm) hW1;have hKy1:=Nat.le_trans (Nat.le_of_eq (ay Ky1).symm) hKy1
 have:=tu (Kd:=Kd0) (kk:=kk0) (aa:=aa0) (bb:=bb0) (S:=List.map (fun x=>(x.1,x.2.1,x.2.2.1)) S0) (M:=M0) (D:=D0) (Sc:=Sc0) (R:=R0) (C:=C0) (ck:=ck0) (ca:=ca0) (cb:=cb0) (W:=W0) (Ky:=Ky0) (L0:=L0) (by rw[List.length_map];exact hS0) hL0 hW0 hwn0 hKy0 hkn0 (Kd':=Kd1) (kk':=kk1) (aa':=aa1) (bb':=bb1) (S':=List.map (fun x=>(x.1,x.2.1,x.2.2.1)) S1) (M':=M1) (D':=D1) (Sc':=Sc1) (R':=R1) (C':=C1) (ck':=ck1) (ca':=ca1) (cb':=cb1) (W':=W1) (Ky':=Ky1) (L0':=L1) (by rw[List.length_map];exact hS1) hL1 hW1 hwn1 hKy1 hkn1
 unfold pN at this;rw[←e0,←e1] at this;exact this
set_option maxRecDepth 100000 in
theorem lifted (os:Os) (started:os.Started) (H:Type) (enc:TypeId×Value→H):
 ReturnsInHanded {} Tryz.checked os 5 .any (Rows.wireUnlikeSpec.pre6 enc Tryz.prog Tryz.f5 Rows.wireUnlikeRow.domain false) (Rows.wireUnlikeSpec.post enc Tryz.prog Tryz.f5 false true false false):=by
 refine returnsInHanded_of_change (C:=Tryz.checked) own started (by kernel_rfl) Tryz.func5
  (ChangeSpec.witness6 (enc:=enc) (C:=Tryz.checked) false ⟨#[],#[.agg #[.int .i64 0,.int .i64 0,.int .i64 0,.int .i64 0,.slice none 0 0,.int .i64 0,.int .i64 0,.int .i64 0,.int .i64 0,.int .i64 0,.int .i64 0,.int .i64 0,.int .i64 0,.slice none 0 0,.slice none 0 0,.slice none 0 0],.agg #[.int .i64 0,.int .i64 0,.int .i64 0,.int .i64 0,.slice none 0 0,.int .i64 0,.int .i64 0,.int .i64 0,.int .i64 0,.int .i64 0,.int .i64 0,.int .i64 0,.int .i64 0,.slice none 0 0,.slice none 0 0,.slice none 0 0]],[]⟩ 8 (by kernel_rfl) (by kernel_rfl) (by kernel_rfl) (by kernel_rfl)) ?_
 intro W base args ds gs before hval0 hW hcnd _;have hval:∀(j:Nat) t v,Tryz.f5.params[j]? =some t→args[j]? =some v→Value.okWide Tryz.prog W .any base t v:=hval0;have hW':=hW;obtain ⟨p,q,hA0,hV,rfl,hfz,hnd⟩:=hW;have hA:DataW.TrodAll enc Tryz.prog W 0 (fun _=>true) true Tryz.f5.params.toList args.toList ds p:=hA0;rw[Tryz.params5] at hA hval;obtain ⟨v0,vs0,e0,es0,p0,q0,hargs,rfl,rfl,h0,r0⟩:=trodAll_cons hA;obtain ⟨v1,vs1,e1,es1,p1,q1,rfl,rfl,rfl,h1,r1⟩:=trodAll_cons r0;obtain ⟨rfl,rfl,rfl⟩:=trodAll_nil r1;obtain rfl:args=#[v0,v1]:=by cases args;simp_all
 obtain ⟨rfl,rfl⟩:=trodVars_none hV;obtain ⟨d0,o0,g0⟩:=kt (n:=12) (s:=(Sh.cons (Sh.int .i64) (Sh.cons (Sh.cons (Sh.int .i64) (Sh.cons (Sh.int .i64) (Sh.cons (Sh.int .i64) Sh.nil))) (Sh.cons (Sh.row (Sh.cons (Sh.int .i64) (Sh.cons (Sh.int .i64) (Sh.cons Sh.bool Sh.nil)))) (Sh.cons (Sh.cons (Sh.int .i64) (Sh.cons (Sh.int .i64) (Sh.cons (Sh.int .i64) Sh.nil))) (Sh.cons (Sh.cons (Sh.int .i64) (Sh.cons (Sh.int .i64) (Sh.cons (Sh.cons (Sh.int .i64) (Sh.cons (Sh.int .i64) (Sh.cons (Sh.int .i64) Sh.nil))) (Sh.cons (Sh.row (Sh.int .u64)) Sh.nil)))) (Sh.cons (Sh.row (Sh.int .u64)) (Sh.cons (Sh.row Sh.bool) Sh.nil)))))))) (by kernel_rfl) h0 (hval 0 32 v0 rfl rfl)
 have lt0:∀x∈p0,x.block<W.heap.size:=by
  obtain ⟨m,hm⟩:=h0;exact DataW.trod_lt m _ _ _ hm
 obtain ⟨d1,o1,g1⟩:=kt (n:=12) (s:=(Sh.cons (Sh.int .i64) (Sh.cons (Sh.cons (Sh.int .i64) (Sh.cons (Sh.int .i64) (Sh.cons (Sh.int .i64) Sh.nil))) (Sh.cons (Sh.row (Sh.cons (Sh.int .i64) (Sh.cons (Sh.int .i64) (Sh.cons Sh.bool Sh.nil)))) (Sh.cons (Sh.cons (Sh.int .i64) (Sh.cons (Sh.int .i64) (Sh.cons (Sh.int .i64) Sh.nil))) (Sh.cons (Sh.cons (Sh.int .i64) (Sh.cons (Sh.int .i64) (Sh.cons (Sh.cons (Sh.int .i64) (Sh.cons (Sh.int .i64) (Sh.cons (Sh.int .i64) Sh.nil))) (Sh.cons (Sh.row (Sh.int .u64)) Sh.nil)))) (Sh.cons (Sh.row (Sh.int .u64)) (Sh.cons (Sh.row Sh.bool) Sh.nil)))))))) (by kernel_rfl) h1 (hval 1 32 v1 rfl rfl)
 have lt1:∀x∈p1,x.block<W.heap.size:=by
  obtain ⟨m,hm⟩:=h1;exact DataW.trod_lt m _ _ _ hm
 clear hA0 hval0;refine(qm (walk d0 o0 d1 o1) (.cons g0 (.cons g1 .nil))).mono fun e W' ⟨he,bel⟩=>?_;subst he;exact⟨_,rfl,_,_,_,[],_,[],hW',trodAll_mk1 (shut_bool Tryz.underlying4 _),(trodAll_cons_mk (Below.trod laidOut (by kernel_rfl) (of_decide_eq_true (by kernel_rfl)) h0 bel lt0) (trodAll_cons_mk (Below.trod laidOut (by kernel_rfl) (of_decide_eq_true (by kernel_rfl)) h1 bel lt1) trodAll_mk0)),rfl,bel.frame _,fun h=>by cases h⟩
theorem over:Rows.wireUnlikeRow.holds Tryz.pinned (OpenSpec.ofChange Rows.wireUnlikeSpec):=
 OpenClaim.holds_of_wide 5 Tryz.f5 rfl rfl rfl rfl rfl rfl rfl ⟨rfl,rfl,rfl,rfl,rfl⟩ rfl rfl rfl rfl rfl (by kernel_rfl) Tryz.func5 (by kernel_rfl)
  (of_decide_eq_true (by kernel_rfl)) (by unfold Func.isWrapper;first | (rw[if_pos (by decide+kernel)];kernel_rfl) | (rw[if_neg (by decide+kernel)];exact⟨rfl,rfl⟩))
  (fun os started H enc _=>lifted os started H enc)
theorem proved:Rows.WireUnlikeSaid:=over
#print axioms proved
end Go.Proofs.YtcnlmelpnflhnaaGreat.wireUnlike
