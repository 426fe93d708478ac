import Derived.Test.YtcnlmelpnflhnaaGreatIn
import Derived.Test.YtcnlmelpnflhnaaGreatBm
import Derived.Test.YtcnlmelpnflhnaaGreatBg
import Derived.Test.YtcnlmelpnflhnaaGreatBj
import Derived.Test.YtcnlmelpnflhnaaGreatAe
import Derived.Test.YtcnlmelpnflhnaaGreatBl
import Derived.Test.YtcnlmelpnflhnaaGreatBi
namespace Go.Proofs.YtcnlmelpnflhnaaGreat
open Go.Eng Go.Vx
set_option linter.unusedSimpArgs false
set_option linter.unusedVariables false
set_option maxRecDepth 100000
def itN (t:Int):V:=.agg [.lit (.int .i64 t),.lit (.int .i64 0),.lit (.int .i64 0),.lit (.int .i64 0),.lit (.int .i64 0),.lit (.int .i64 0),.lit (.bool false),.lit (.pointer none),.lit (.pointer none),.lit (.pointer none),.lit (.pointer none)]
def itC (v:Nat):V:=.agg [.lit (.int .i64 4),.lit (.int .i64 0),.lit (.int .i64 0),.lit (.int .i64 0),.lit (.int .i64 0),.lit (.int .i64 0),.lit (.bool false),.lit (.pointer none),.lit (.pointer none),.ref v 0 0 0,.lit (.pointer none)]
attribute [go_sem] itN itC
def MN (l:List Nat):List Nat:=l.take (l.length-4)
theorem El {M D S M2 D2 S2:Nat} {x y:SS} (hx:x.1.length≤256) (hy:y.1.length≤256):aC Tryz.prog 57 [G1 M D S x,G1 M2 D2 S2 y] [] (.lit (.bool (decide (M=M2∧D=D2∧S=S2∧x=y)))) []:=by
 have q:=Dq (A:=x.1) (B:=y.1) zo zo;obtain ⟨x1,x2,x3⟩:=x;obtain ⟨y1,y2,y3⟩:=y;dsimp only at q
 by_cases h1:M=M2∧D=D2∧S=S2
 · obtain ⟨rfl,rfl,rfl⟩:=h1
   by_cases h2:x2=y2
   · by_cases h3:x3=y3
     · subst h2 h3
       rw[show decide (M=M∧D=D∧S=S∧(x1,x2,x3)=(y1,x2,x3))=decide (x1=y1) by simp];generalize decide (x1=y1)=r at*
       refine zF E6 Tryz.call57 Tryz.func57 [.tmp 4] fun Q hQ=>?_;refine zq8 ?_;refine zC q ?_;exact ak [] hQ
     · rw[agq (fun e=>h3 (by injection e.2.2.2 with _ e;injection e))]
       subst h2;have hb:(x3==y3)=false:=ais.2 h3;refine zF E6 Tryz.call57 Tryz.func57 [.tmp 4] fun Q hQ=>?_;refine bh hb ?_;exact ak [] hQ
   · have h2':¬(x2:Int)=(y2:Int):=by omega
     rw[agq (fun e=>h2 (by injection e.2.2.2 with _ e;injection e))];refine zF E6 Tryz.call57 Tryz.func57 [.tmp 4] fun Q hQ=>?_;refine bh (agq h2') ?_;exact ak [] hQ
 · have hd:(decide ((M:Int)=(M2:Int))&&(decide ((D:Int)=(D2:Int))&&decide ((S:Int)=(S2:Int))))=false:=by
    rw[ah0];intro h;simp only[agv,decide_eq_true_eq] at h;exact h1 ⟨by omega,by omega,by omega⟩
   rw[agq (fun e=>h1 ⟨e.1,e.2.1,e.2.2.1⟩)];refine zF E6 Tryz.call57 Tryz.func57 [.tmp 4] fun Q hQ=>?_;refine bh hd ?_;exact ak [] hQ
theorem Hf {K P C K2 P2 C2:Nat} {X Y:List (Nat×Nat)} {N M:Nat} (hX:X.length≤1000000) (hY:Y.length≤1000000):aC Tryz.prog 59 [Ib (K:Int) (P:Int) (C:Int) X N,Ib (K2:Int) (P2:Int) (C2:Int) Y M] [] (.lit (.bool (decide (K=K2∧P=P2∧C=C2∧X=Y∧N=M)))) []:=by
 by_cases h1:K=K2∧P=P2∧C=C2
 · obtain ⟨rfl,rfl,rfl⟩:=h1
   have s:=FQ (K:=(K:Int)) (P:=(P:Int)) (C:=(C:Int)) (N:=N) (M:=M) hX hY;rw[show decide (K=K∧P=P∧C=C∧X=Y∧N=M)=decide (N=M∧X=Y) by simp[and_comm]];exact s
 · have hd:(decide ((K:Int)=(K2:Int))&&(decide ((P:Int)=(P2:Int))&&decide ((C:Int)=(C2:Int))))=false:=by
    rw[ah0];intro h;simp only[agv,decide_eq_true_eq] at h;exact h1 ⟨by omega,by omega,by omega⟩
   rw[agq (fun e=>h1 ⟨e.1,e.2.1,e.2.2.1⟩)];refine zF NF Tryz.call59 Tryz.func59 [.tmp 4] fun Q hQ=>?_;refine bh hd ?_;exact ak [] hQ
theorem bq {t u:Int} {c1 c2 c3 c4 c5 c6 c7 c8 c9 c10 d1 d2 d3 d4 d5 d6 d7 d8 d9 d10:V} (h:t≠u) (hc:kW.plnL [c1,c2,c3,c4,c5,c6,c7,c8,c9,c10]=true) (hd:kW.plnL [d1,d2,d3,d4,d5,d6,d7,d8,d9,d10]=true):
 aC Tryz.prog 13 [.agg [.lit (.int .i64 t),c1,c2,c3,c4,c5,c6,c7,c8,c9,c10],.agg [.lit (.int .i64 u),d1,d2,d3,d4,d5,d6,d7,d8,d9,d10]] [] (.lit (.bool false)) []:=by
 refine zF pl Tryz.call13 Tryz.func13 [.tmp 4] fun Q hQ=>?_;refine bh (agq h) ?_;exact ak [] hQ
theorem BE {M D S M2 D2 S2:Nat} {x y:SS} (hx:x.1.length≤256) (hy:y.1.length≤256):aC Tryz.prog 13 [qg M D S x,qg M2 D2 S2 y] [] (.lit (.bool (decide (M=M2∧D=D2∧S=S2∧x=y)))) []:=by
 have g1:=zy (M:=M) (D:=D) (S:=S) (st:=x);have g2:=zy (M:=M2) (D:=D2) (S:=S2) (st:=y);have s:=El (M:=M) (D:=D) (S:=S) (M2:=M2) (D2:=D2) (S2:=S2) hx hy;generalize decide (M=M2∧D=D2∧S=S2∧x=y)=r at*
 refine zF pl Tryz.call13 Tryz.func13 [.tmp 4] fun Q hQ=>?_;refine ae ?_;refine zC g1 ?_;refine zC g2 ?_;refine zC s ?_;exact ak [] hQ
theorem CU {k a b n k2 a2 b2 n2:Nat} {l m:List SR} (h:aT k a b) (hn:n≤256) (hl:l.length=n) (hm:m.length=n2) (wl:∀s∈l,aP k a b s) (wm:∀s∈m,aP k2 a2 b2 s):aC Tryz.prog 13 [oY k a b n l,oY k2 a2 b2 n2 m] [] (.lit (.bool (decide (k=k2∧a=a2∧b=b2∧l=m)))) []:=by
 have g1:=zu (k:=k) (a:=a) (b:=b) (n:=n) (l:=l);have g2:=zu (k:=k2) (a:=a2) (b:=b2) (n:=n2) (l:=m);have s:=sK h hn hl hm wl wm;unfold bK at s;generalize decide (k=k2∧a=a2∧b=b2∧l=m)=r at*
 refine zF pl Tryz.call13 Tryz.func13 [.tmp 4] fun Q hQ=>?_;refine ae ?_;refine zC g1 ?_;refine zC g2 ?_;refine zC s ?_;exact ak [] hQ
theorem BY {R C k a b T R2 C2 k2 a2 b2 T2:Nat} {l m:List RW} (h:aT k a b) (hC:C≤256) (hl:l.length=R) (hm:m.length=R2) (hR:R≤100) (hR2:R2≤100) (wl:∀r∈l,br k a b C r) (wm:∀r∈m,br k2 a2 b2 C2 r):aC Tryz.prog 13 [pB R C k a b l T,pB R2 C2 k2 a2 b2 m T2] [] (.lit (.bool (decide (R=R2∧C=C2∧k=k2∧a=a2∧b=b2∧l=m∧T=T2)))) []:=by
 have g1:=xo (R:=R) (C:=C) (k:=k) (a:=a) (b:=b) (l:=l) (T:=T);have g2:=xo (R:=R2) (C:=C2) (k:=k2) (a:=a2) (b:=b2) (l:=m) (T:=T2);have s:=Bk (T:=T) (T2:=T2) h hC hl hm hR hR2 wl wm;generalize decide (R=R2∧C=C2∧k=k2∧a=a2∧b=b2∧l=m∧T=T2)=r at*
 refine zF pl Tryz.call13 Tryz.func13 [.tmp 4] fun Q hQ=>?_;refine ae ?_;refine zC g1 ?_;refine zC g2 ?_;refine zC s ?_;exact ak [] hQ
theorem BI {K P C K2 P2 C2:Nat} {X Y:List (Nat×Nat)} {N M:Nat} (hX:X.length≤1000000) (hY:Y.length≤1000000):aC Tryz.prog 13 [oU K P C X N,oU K2 P2 C2 Y M] [] (.lit (.bool (decide (K=K2∧P=P2∧C=C2∧X=Y∧N=M)))) []:=by
 have g1:=xn (K:=K) (P:=P) (C:=C) (X:=X) (T:=N);have g2:=xn (K:=K2) (P:=P2) (C:=C2) (X:=Y) (T:=M);have s:=Hf (K:=K) (P:=P) (C:=C) (K2:=K2) (P2:=P2) (C2:=C2) (N:=N) (M:=M) hX hY;generalize decide (K=K2∧P=P2∧C=C2∧X=Y∧N=M)=r at*
 refine zF pl Tryz.call13 Tryz.func13 [.tmp 4] fun Q hQ=>?_;refine ae ?_;refine zC g1 ?_;refine zC g2 ?_;refine zC s ?_;exact ak [] hQ
theorem BL {k a b k2 a2 b2:Nat} {s t:SR} (h:aT k a b) (w:aP k a b s) (h2:aT k2 a2 b2) (w2:aP k2 a2 b2 t):aC Tryz.prog 13 [CL k a b s,CL k2 a2 b2 t] [] (.lit (.bool (decide (k=k2∧a=a2∧b=b2∧s=t)))) []:=by
 have g1:=ub h w;have g2:=ub h2 w2;obtain ⟨x1,x2,x3⟩:=s;obtain ⟨y1,y2,y3⟩:=t
 by_cases h1:k=k2∧a=a2∧b=b2
 · obtain ⟨rfl,rfl,rfl⟩:=h1
   have hd:decide (k=k∧a=a∧b=b∧(x1,x2,x3)=(y1,y2,y3))=(decide ((x1:Int)=(y1:Int))&&(decide ((x2:Int)=(y2:Int))&&(x3==y3))):=by
    rw[Bool.eq_iff_iff];simp only[agv,decide_eq_true_eq,beq_iff_eq,Prod.mk.injEq,true_and];constructor
    · rintro ⟨rfl,rfl,rfl⟩
      exact⟨rfl,rfl,rfl⟩
    · rintro ⟨e1,e2,e3⟩
      exact⟨by omega,by omega,e3⟩
   rw[hd];generalize hr:(decide ((x1:Int)=(y1:Int))&&(decide ((x2:Int)=(y2:Int))&&(x3==y3)))=r at*
   refine zF pl Tryz.call13 Tryz.func13 [.tmp 4] fun Q hQ=>?_;refine ae ?_;refine zC g1 ?_;refine az (g2) rfl rfl ?_;refine bh hr ?_;exact ak [] hQ
 · have hd:(decide ((k:Int)=(k2:Int))&&(decide ((a:Int)=(a2:Int))&&decide ((b:Int)=(b2:Int))))=false:=by
    rw[ah0];intro h;simp only[agv,decide_eq_true_eq] at h;exact h1 ⟨by omega,by omega,by omega⟩
   rw[agq (fun e=>h1 ⟨e.1,e.2.1,e.2.2.1⟩)];refine zF pl Tryz.call13 Tryz.func13 [.tmp 4] fun Q hQ=>?_;refine ae ?_;refine zC g1 ?_;refine az (g2) rfl rfl ?_;refine bh hd ?_;exact ak [] hQ
attribute [local go_sem] List.take_succ_cons List.take_zero List.drop_succ_cons List.drop_zero
end Go.Proofs.YtcnlmelpnflhnaaGreat

namespace Go.Proofs.YtcnlmelpnflhnaaGreat
open Go.Eng Go.Vx
set_option linter.unusedSimpArgs false
set_option linter.unusedVariables false
set_option maxRecDepth 100000
def HH (Kd kk aa bb:Int) (S:List (Int×Int×Bool)) (M D Sc R C ck ca cb:Int) (W Ky:List Nat) (L0:List Bool):List V:=[.lit (.int .i64 Kd),.lit (.int .i64 kk),.lit (.int .i64 aa),.lit (.int .i64 bb),.row 3 (S.map QM),.lit (.int .i64 M),.lit (.int .i64 D),.lit (.int .i64 Sc),.lit (.int .i64 R),.lit (.int .i64 C),.lit (.int .i64 ck),.lit (.int .i64 ca),.lit (.int .i64 cb),.row 1 ((nl W).map (ie .u64)),.row 1 ((nl Ky).map (ie .u64)),.row 1 (L0.map be)]
attribute [go_sem] HH
theorem F8 {Kd kk aa bb:Int} {S:List (Int×Int×Bool)} {M D Sc R C ck ca cb:Int} {W Ky:List Nat} {L0:List Bool} (ht:(Kd.tmod 5+5)%5=0) (hS:S.length≤9223372036854775807) (hL0:L0.length≤9223372036854775807):
 ∃(k a b:Nat) (s:SR),Lj k a b∧aP k a b s∧aC Tryz.prog 8 [.agg (HH Kd kk aa bb S M D Sc R C ck ca cb W Ky L0)] [] (.tup [CL k a b s,.lit (.bool true)]) []:=by
 obtain ⟨k,a,b,hsm,hs⟩:=fq (kk:=kk) (aa:=aa) (bb:=bb);have ow:=jT (k:=k) (a:=a) (b:=b);have hg:=eh hsm;have h0:=hs (0,0,false);dsimp only at h0;have hL1:(L0.take 300).length≤300:=by rw[List.length_take];omega
 have nt:=mP (L:=L0.take 300) zo;have hns:¬300<L0.length→L0.take 300=L0:=fun h=>agB zo;generalize hL:L0.take 300=L at*
 have t1: -5<Kd.tmod 5:=by have:=aiD Kd (b:=5) zd;omega
 have t2:Kd.tmod 5<5:=aiE Kd zd;have hkw:IntKind.i64.wrap (Kd.tmod 5+5)=Kd.tmod 5+5:=wrap_i64 ⟨by omega,by omega⟩;refine⟨k,a,b,if 0<S.length then wi k a b (S.getD 0 default) else wi k a b (0,0,false),hsm,?_,?_⟩
 · split<;>exact AS
 refine zF HR Tryz.call8 Tryz.func8 [.cell 2 42,.tmp 3] fun Q hQ=>?_
 by_cases h1:300<L0.length
 · refine De hL ?_
   refine aV [] [] (nt) ?_;refine dK hkw ht ?_;refine az (h0) rfl rfl ?_;refine dK hkw ht ?_
   by_cases h2:0<S.length
   · obtain ⟨⟨s1,s2,s3⟩,ea⟩:∃x,S.getD 0 default=x:=⟨_,rfl⟩
     have h3:=hs (s1,s2,s3);have st:=gz (s:=wi k a b (s1,s2,s3));rw[if_pos h2,ea] at hQ;dsimp only at h3;generalize wi k a b (s1,s2,s3)=r at*
     refine bh ea ?_;refine az (h3) rfl rfl ?_;refine bh ht ?_;refine zC ow ?_;refine zC st ?_;exact ak [] hQ
   · have st:=gz (s:=wi k a b (0,0,false))
     rw[if_neg h2] at hQ;generalize wi k a b (0,0,false)=r at*
     refine bh ht ?_;refine zC ow ?_;refine zC st ?_;exact ak [] hQ
 · have hLL:=hns h1
   subst hLL;refine ae ?_;refine aV [] [] (nt) ?_;refine dK hkw ht ?_;refine az (h0) rfl rfl ?_;refine dK hkw ht ?_
   by_cases h2:0<S.length
   · obtain ⟨⟨s1,s2,s3⟩,ea⟩:∃x,S.getD 0 default=x:=⟨_,rfl⟩
     have h3:=hs (s1,s2,s3);have st:=gz (s:=wi k a b (s1,s2,s3));rw[if_pos h2,ea] at hQ;dsimp only at h3;generalize wi k a b (s1,s2,s3)=r at*
     refine bh ea ?_;refine az (h3) rfl rfl ?_;refine bh ht ?_;refine zC ow ?_;refine zC st ?_;exact ak [] hQ
   · have st:=gz (s:=wi k a b (0,0,false))
     rw[if_neg h2] at hQ;generalize wi k a b (0,0,false)=r at*
     refine bh ht ?_;refine zC ow ?_;refine zC st ?_;exact ak [] hQ
theorem Fp {k a b:Nat} {l:List SR}:bF (wd k a b) (rp k a b l l.length)=bK k a b l:=by
 unfold bK rp;rw[agF,ahJ,List.replicate_zero,ahj]
 rfl
theorem Gu {Kd kk aa bb:Int} {S:List (Int×Int×Bool)} {M D Sc R C ck ca cb:Int} {W Ky:List Nat} {L0:List Bool} (ht:(Kd.tmod 5+5)%5=1) (hS:S.length≤9223372036854775807) (hL0:L0.length≤9223372036854775807):
 ∃(k a b n:Nat) (l:List SR),Lj k a b∧1≤n∧n≤8∧l.length=n∧(∀s∈l,aP k a b s)∧aC Tryz.prog 8 [.agg (HH Kd kk aa bb S M D Sc R C ck ca cb W Ky L0)] [] (.tup [itA 0,.lit (.bool true)]) [some (cN 1 k a b),some (cB 2 n (wd k a b)),some (cf n (wd k a b) (bK k a b l))]:=by
 obtain ⟨k,a,b,hsm,hs⟩:=fq (kk:=kk) (aa:=aa) (bb:=bb);have hg:=eh hsm;have h0:=hs (0,0,false);dsimp only at h0;have hL1:(L0.take 300).length≤300:=by rw[List.length_take];omega
 have nt:=mP (L:=L0.take 300) zo;have hns:¬300<L0.length→L0.take 300=L0:=fun h=>agB zo;generalize hL:L0.take 300=L at*
 have t1: -5<Kd.tmod 5:=by have:=aiD Kd (b:=5) zd;omega
 have t2:Kd.tmod 5<5:=aiE Kd zd;have hkw:IntKind.i64.wrap (Kd.tmod 5+5)=Kd.tmod 5+5:=wrap_i64 ⟨by omega,by omega⟩;have mk:=BX (l:=S) hsm hS;have ml:=JR (k:=k) (a:=a) (b:=b) (l:=S);have mw:=mJ (k:=k) (a:=a) (b:=b) (l:=S);rw[Fp] at mk;refine⟨k,a,b,(oP k a b S).length,oP k a b S,hsm,ml.1,ml.2,rfl,mw,?_⟩;generalize oP k a b S=m at*
 have hlw:=ay (aZ m.length (wd k a b)) (bK k a b m);generalize bK k a b m=X at*
 generalize wd k a b=w at*
 generalize m.length=n at*
 refine zF HR Tryz.call8 Tryz.func8 [.cell 2 42,.tmp 3] fun Q hQ=>?_
 by_cases h1:300<L0.length
 case' pos=>
  refine De hL ?_
 case' neg=>
  have hLL:=hns h1;subst hLL;refine ae ?_
 all_goals
  refine aV [] [] (nt) ?_;refine dK hkw ht ?_;refine az (h0) rfl rfl ?_;refine dK hkw ht ?_
  by_cases h2:0<S.length
  case' pos=>
   obtain ⟨⟨s1,s2,s3⟩,ea⟩:∃x,S.getD 0 default=x:=⟨_,rfl⟩;have h3:=hs (s1,s2,s3);dsimp only at h3;generalize wi k a b (s1,s2,s3)=r at*
   generalize wi k a b (0,0,false)=r0 at*
   refine bh ea ?_;refine az (h3) rfl rfl ?_;refine bh ht ?_
  case' neg=>
   generalize wi k a b (0,0,false)=r at*
   refine bh ht ?_
  all_goals
   refine zW [] [] mk ?_;exact ak [some 6,some 7,some 8] hQ
end Go.Proofs.YtcnlmelpnflhnaaGreat
