import Derived.Test.YtcnlmelpnflhnaaGreatIo
import Derived.Test.YtcnlmelpnflhnaaGreatBm
import Derived.Test.YtcnlmelpnflhnaaGreatBr
import Derived.Test.YtcnlmelpnflhnaaGreatIn
import Derived.Test.YtcnlmelpnflhnaaGreatAf
import Derived.Test.YtcnlmelpnflhnaaGreatAb
import Derived.Test.YtcnlmelpnflhnaaGreatBi
import Derived.Test.YtcnlmelpnflhnaaGreatBo
namespace Go.Proofs.YtcnlmelpnflhnaaGreat
open Go.Eng Go.Vx
set_option linter.unusedSimpArgs false
set_option linter.unusedVariables false
set_option maxRecDepth 100000
def aiS (l:List Nat):Prop:=aA Tryz.prog 11 [.row 1 ((nl l).map (ie .u8))] [] (.tup [itN 0,.lit (.int .i64 13)]) []
def n5 (x:V) (E:List Nat):Prop:=E.length≤1200∧aA Tryz.prog 10 [x] [] (.tup [.sl 0 1 0 E.length,.lit (.int .i64 0)]) [some (.row 1 ((nl E).map (ie .u8)))]
theorem kN {x:V} {L:List Bool} (hL:L.length≤9000) (en:aA Tryz.prog 10 [x] [] (.tup [.sl 0 1 0 ((iF L).length+4),.lit (.int .i64 0)]) [some (.row 1 ((nl (bV (iF L))).map (ie .u8)))]):n5 x (bV (iF L)):=by
 refine⟨by rw[g9,gJ];omega,?_⟩;rw[g9];exact en
theorem n5.row {x:V} {E:List Nat} (h:n5 x E):aA Tryz.prog 10 [x] [] (.tup [.row 1 ((nl E).map (ie .u8)),.lit (.int .i64 0)]) []:=by
 have en:=h.2;have hEl:=ay E;generalize nl E=N at*
 exact kS [] (en)
theorem CK {k a b:Nat} {s:SR} (h:aL k a b) (w:aP k a b s):n5 (uw k a b s) (bV (iF (bc 1++bj [k,a,b]++cD k a b s))):=by
 refine kN ?_ (Lf h w)
 have hN:∀x∈([k,a,b]:List Nat),x≤1048576:=by
  intro x hx;simp only[ajC,aj5,or_false] at hx;rcases h with h | h | h | h<;>omega
 have hgl:=cu hN;have hhl:=da 1;have hwl:=AI h;have hrl:=dL k a b s;have hN3:([k,a,b]:List Nat).length=3:=rfl;rw[ajj,ajj];omega
theorem Cd {k a b n:Nat} {l:List SR} (h:aL k a b) (hn:n≤256) (hM:l.length=n):n5 (jz k a b n l) (bV (iF (bc 2++bj [k,a,b,n]++cX (wd k a b) (l.map (fj k a b))))):=by
 refine kN ?_ (Mw h hn hM)
 have hN:∀x∈([k,a,b,n]:List Nat),x≤1048576:=by
  intro x hx;simp only[ajC,aj5,or_false] at hx;rcases h with h | h | h | h<;>omega
 have hgl:=cu hN;have hhl:=da 2;have hrl:=gU (wd k a b) (l.map (fj k a b));rw[ajl] at hrl;have hwd:=dN h;have hnw:l.length*wd k a b≤256*16:=ajO zo hwd.2;have hN3:([k,a,b,n]:List Nat).length=4:=rfl;rw[ajj,ajj];omega
theorem CV {M D S:Nat} {st:SS} (hM:M≤16) (hD:D≤4) (hS:S≤8) (hX:st.1.length≤256) (hc:∀c∈st.1,c.1<2^M∧c.2<2^D) (hs:1≤st.2.1∧st.2.1≤8):n5 (l6 M D S st) (bV (iF (bc 3++bj [M,D,S,st.1.length]++ey M D st))):=by
 refine kN ?_ (Kn hM hD hS hX hc hs)
 have hN:∀x∈([M,D,S,st.1.length]:List Nat),x≤1048576:=by
  intro x hx;simp only[ajC,aj5,or_false] at hx;omega
 have hgl:=cu hN;have hhl:=da 3;have hrl:=qg M D st;have hnw:st.1.length*(M+D)≤256*20:=ajO hX zo;have hN3:([M,D,S,st.1.length]:List Nat).length=4:=rfl;rw[ajj,ajj];omega
theorem C9 {R C k a b T:Nat} {l:List RW} (h:aL k a b) (hC:1≤C∧C≤64) (hR:R≤4) (hl1:l.length≤4) (hl:∀r∈l,bC k a b C r) (hT:T≤1099511627776):n5 (dP R C k a b l T) (bV (iF (bc 4++bj [R,C,k,a,b]++nX k a b l T))):=by
 refine kN ?_ (LQ h hC hR hl1 hl hT)
 have hN:∀x∈([R,C,k,a,b]:List Nat),x≤1048576:=by
  intro x hx;simp only[ajC,aj5,or_false] at hx;rcases h with h | h | h | h<;>omega
 have hgl:=cu hN;have hhl:=da 4;have hrl:(nX k a b l T).length=(cZ T).length+l.length*(122+C*wd k a b):=by unfold nX;rw[ajj,nz hl]
 have hvl:=rE hT;have hwd:=dN h;have hnw:l.length*(122+C*wd k a b)≤4*(122+64*16):=ajO hl1 (Nat.add_le_add_left (ajO hC.2 hwd.2) _);have hN3:([R,C,k,a,b]:List Nat).length=5:=rfl;rw[ajj,ajj];omega
theorem Cr {K P C T:Nat} {X:List (Nat×Nat)} (hK:K≤8) (hP:P≤8) (hC:C≤16) (hX:X.length≤16) (hk:∀x∈X,x.1<2305843009213693951∧x.2≤1048576) (h1:T=0∨∀x∈X,1≤x.2) (hT:T≤1048576):n5 (lW K P C X T) (bV (iF (bc 5++bj [K,P,C]++eE X T))):=by
 refine kN ?_ (ME hK hP hC hX hk h1 hT)
 have hN:∀x∈([K,P,C]:List Nat),x≤1048576:=by
  intro x hx;simp only[ajC,aj5,or_false] at hx;omega
 have hgl:=cu hN;have hhl:=da 5
 have hrl:(eE X T).length≤24+16*102:=by
  have hv:=mL hT;unfold eE;rw[ajj]
  split
  · rw[ajA];omega
  · rename_i h0
    have:=qe (X:=X) fun x hx=>⟨(h1.resolve_left h0) x hx,(hk x hx).2⟩
    have h2:X.length*102≤16*102:=ajP _ hX;omega
 have hN3:([K,P,C]:List Nat).length=3:=rfl;rw[ajj,ajj];omega
def okW (l:List Nat):Prop:=l.length≤4096∧∃c0 c1 c2 c3 c4 c5 c6 c7 c8 c9 c10:V,lh.plnL [c0,c1,c2,c3,c4,c5,c6,c7,c8,c9,c10]=true∧
 aA Tryz.prog 11 [.row 1 ((nl l).map (ie .u8))] [] (.tup [.agg [c0,c1,c2,c3,c4,c5,c6,c7,c8,c9,c10],.lit (.int .i64 0)]) []∧
 aA Tryz.prog 9 [.agg [c0,c1,c2,c3,c4,c5,c6,c7,c8,c9,c10]] [] (.lit (.int .i64 0)) []∧
 aA Tryz.prog 10 [.agg [c0,c1,c2,c3,c4,c5,c6,c7,c8,c9,c10]] [] (.tup [.row 1 ((nl l).map (ie .u8)),.lit (.int .i64 0)]) []
theorem Gu {M D S M2 D2 S2:Nat} {x y:SS} (hx:x.1.length≤256) (hy:y.1.length≤256):aA Tryz.prog 57 [I6 M D S x,I6 M2 D2 S2 y] [] (.lit (.bool (decide (M=M2∧D=D2∧S=S2∧x=y)))) []:=by
 have q:=Fx (A:=x.1) (B:=y.1) zo zo;obtain ⟨x1,x2,x3⟩:=x;obtain ⟨y1,y2,y3⟩:=y;dsimp only at q
 by_cases h1:M=M2∧D=D2∧S=S2
 · obtain ⟨rfl,rfl,rfl⟩:=h1
   by_cases h2:x2=y2
   · by_cases h3:x3=y3
     · subst h2 h3
       rw[show decide (M=M∧D=D∧S=S∧(x1,x2,x3)=(y1,x2,x3))=decide (x1=y1) by simp];generalize decide (x1=y1)=r at*
       refine zF He Tryz.call57 Tryz.func57 [.tmp 4] fun Q hQ=>?_;refine Ze ?_;refine zC q ?_;exact ak [] hQ
     · rw[ajn (fun e=>h3 (by injection e.2.2.2 with _ e;injection e))]
       subst h2;have hb:(x3==y3)=false:=alv.2 h3;refine zF He Tryz.call57 Tryz.func57 [.tmp 4] fun Q hQ=>?_;refine br hb ?_;exact ak [] hQ
   · have h2':¬(x2:Int)=(y2:Int):=by omega
     rw[ajn (fun e=>h2 (by injection e.2.2.2 with _ e;injection e))];refine zF He Tryz.call57 Tryz.func57 [.tmp 4] fun Q hQ=>?_;refine br (ajn h2') ?_;exact ak [] hQ
 · have hd:(decide ((M:Int)=(M2:Int))&&(decide ((D:Int)=(D2:Int))&&decide ((S:Int)=(S2:Int))))=false:=by
    rw[ak0];intro h;simp only[ajs,decide_eq_true_eq] at h;exact h1 ⟨by omega,by omega,by omega⟩
   rw[ajn (fun e=>h1 ⟨e.1,e.2.1,e.2.2.1⟩)];refine zF He Tryz.call57 Tryz.func57 [.tmp 4] fun Q hQ=>?_;refine br hd ?_;exact ak [] hQ
theorem Jm {K P C K2 P2 C2:Nat} {X Y:List (Nat×Nat)} {N M:Nat} (hX:X.length≤1000000) (hY:Y.length≤1000000):aA Tryz.prog 59 [KC (K:Int) (P:Int) (C:Int) X N,KC (K2:Int) (P2:Int) (C2:Int) Y M] [] (.lit (.bool (decide (K=K2∧P=P2∧C=C2∧X=Y∧N=M)))) []:=by
 by_cases h1:K=K2∧P=P2∧C=C2
 · obtain ⟨rfl,rfl,rfl⟩:=h1
   have s:=HX (K:=(K:Int)) (P:=(P:Int)) (C:=(C:Int)) (N:=N) (M:=M) hX hY;rw[show decide (K=K∧P=P∧C=C∧X=Y∧N=M)=decide (N=M∧X=Y) by simp[and_comm]];exact s
 · have hd:(decide ((K:Int)=(K2:Int))&&(decide ((P:Int)=(P2:Int))&&decide ((C:Int)=(C2:Int))))=false:=by
    rw[ak0];intro h;simp only[ajs,decide_eq_true_eq] at h;exact h1 ⟨by omega,by omega,by omega⟩
   rw[ajn (fun e=>h1 ⟨e.1,e.2.1,e.2.2.1⟩)];refine zF Qy Tryz.call59 Tryz.func59 [.tmp 4] fun Q hQ=>?_;refine br hd ?_;exact ak [] hQ
theorem bH {t u:Int} {c1 c2 c3 c4 c5 c6 c7 c8 c9 c10 d1 d2 d3 d4 d5 d6 d7 d8 d9 d10:V} (h:t≠u) (hc:lh.plnL [c1,c2,c3,c4,c5,c6,c7,c8,c9,c10]=true) (hd:lh.plnL [d1,d2,d3,d4,d5,d6,d7,d8,d9,d10]=true):
 aA Tryz.prog 13 [.agg [.lit (.int .i64 t),c1,c2,c3,c4,c5,c6,c7,c8,c9,c10],.agg [.lit (.int .i64 u),d1,d2,d3,d4,d5,d6,d7,d8,d9,d10]] [] (.lit (.bool false)) []:=by
 refine zF pl Tryz.call13 Tryz.func13 [.tmp 4] fun Q hQ=>?_;refine br (ajn h) ?_;exact ak [] hQ
theorem DO {M D S M2 D2 S2:Nat} {x y:SS} (hx:x.1.length≤256) (hy:y.1.length≤256):aA Tryz.prog 13 [l6 M D S x,l6 M2 D2 S2 y] [] (.lit (.bool (decide (M=M2∧D=D2∧S=S2∧x=y)))) []:=by
 have g1:=sS (M:=M) (D:=D) (S:=S) (st:=x);have g2:=sS (M:=M2) (D:=D2) (S:=S2) (st:=y);have s:=Gu (M:=M) (D:=D) (S:=S) (M2:=M2) (D2:=D2) (S2:=S2) hx hy;generalize decide (M=M2∧D=D2∧S=S2∧x=y)=r at*
 refine zF pl Tryz.call13 Tryz.func13 [.tmp 4] fun Q hQ=>?_;refine ae ?_;refine zC g1 ?_;refine zC g2 ?_;refine zC s ?_;exact ak [] hQ
theorem E5 {k a b n k2 a2 b2 n2:Nat} {l m:List SR} (h:aL k a b) (hn:n≤256) (hl:l.length=n) (hm:m.length=n2) (wl:∀s∈l,aP k a b s) (wm:∀s∈m,aP k2 a2 b2 s):aA Tryz.prog 13 [jz k a b n l,jz k2 a2 b2 n2 m] [] (.lit (.bool (decide (k=k2∧a=a2∧b=b2∧l=m)))) []:=by
 have g1:=sO (k:=k) (a:=a) (b:=b) (n:=n) (l:=l);have g2:=sO (k:=k2) (a:=a2) (b:=b2) (n:=n2) (l:=m);have s:=uy h hn hl hm wl wm;unfold bg at s;generalize decide (k=k2∧a=a2∧b=b2∧l=m)=r at*
 refine zF pl Tryz.call13 Tryz.func13 [.tmp 4] fun Q hQ=>?_;refine ae ?_;refine zC g1 ?_;refine zC g2 ?_;refine zC s ?_;exact ak [] hQ
theorem Ef {R C k a b T R2 C2 k2 a2 b2 T2:Nat} {l m:List RW} (h:aL k a b) (hC:C≤256) (hl:l.length=R) (hm:m.length=R2) (hR:R≤100) (hR2:R2≤100) (wl:∀r∈l,bC k a b C r) (wm:∀r∈m,bC k2 a2 b2 C2 r):aA Tryz.prog 13 [dP R C k a b l T,dP R2 C2 k2 a2 b2 m T2] [] (.lit (.bool (decide (R=R2∧C=C2∧k=k2∧a=a2∧b=b2∧l=m∧T=T2)))) []:=by
 have g1:=ib (R:=R) (C:=C) (k:=k) (a:=a) (b:=b) (l:=l) (T:=T);have g2:=ib (R:=R2) (C:=C2) (k:=k2) (a:=a2) (b:=b2) (l:=m) (T:=T2);have s:=Dv (T:=T) (T2:=T2) h hC hl hm hR hR2 wl wm;generalize decide (R=R2∧C=C2∧k=k2∧a=a2∧b=b2∧l=m∧T=T2)=r at*
 refine zF pl Tryz.call13 Tryz.func13 [.tmp 4] fun Q hQ=>?_;refine ae ?_;refine zC g1 ?_;refine zC g2 ?_;refine zC s ?_;exact ak [] hQ
theorem DS {K P C K2 P2 C2:Nat} {X Y:List (Nat×Nat)} {N M:Nat} (hX:X.length≤1000000) (hY:Y.length≤1000000):aA Tryz.prog 13 [lW K P C X N,lW K2 P2 C2 Y M] [] (.lit (.bool (decide (K=K2∧P=P2∧C=C2∧X=Y∧N=M)))) []:=by
 have g1:=qv (K:=K) (P:=P) (C:=C) (X:=X) (T:=N);have g2:=qv (K:=K2) (P:=P2) (C:=C2) (X:=Y) (T:=M);have s:=Jm (K:=K) (P:=P) (C:=C) (K2:=K2) (P2:=P2) (C2:=C2) (N:=N) (M:=M) hX hY;generalize decide (K=K2∧P=P2∧C=C2∧X=Y∧N=M)=r at*
 refine zF pl Tryz.call13 Tryz.func13 [.tmp 4] fun Q hQ=>?_;refine ae ?_;refine zC g1 ?_;refine zC g2 ?_;refine zC s ?_;exact ak [] hQ
theorem DX {k a b k2 a2 b2:Nat} {s t:SR} (h:aL k a b) (w:aP k a b s) (h2:aL k2 a2 b2) (w2:aP k2 a2 b2 t):aA Tryz.prog 13 [uw k a b s,uw k2 a2 b2 t] [] (.lit (.bool (decide (k=k2∧a=a2∧b=b2∧s=t)))) []:=by
 have g1:=qa h w;have g2:=qa h2 w2;obtain ⟨x1,x2,x3⟩:=s;obtain ⟨y1,y2,y3⟩:=t
 by_cases h1:k=k2∧a=a2∧b=b2
 · obtain ⟨rfl,rfl,rfl⟩:=h1
   have hd:decide (k=k∧a=a∧b=b∧(x1,x2,x3)=(y1,y2,y3))=(decide ((x1:Int)=(y1:Int))&&(decide ((x2:Int)=(y2:Int))&&(x3==y3))):=by
    rw[Bool.eq_iff_iff];simp only[ajs,decide_eq_true_eq,beq_iff_eq,Prod.mk.injEq,true_and];constructor
    · rintro ⟨rfl,rfl,rfl⟩
      exact⟨rfl,rfl,rfl⟩
    · rintro ⟨e1,e2,e3⟩
      exact⟨by omega,by omega,e3⟩
   rw[hd];generalize hr:(decide ((x1:Int)=(y1:Int))&&(decide ((x2:Int)=(y2:Int))&&(x3==y3)))=r at*
   refine zF pl Tryz.call13 Tryz.func13 [.tmp 4] fun Q hQ=>?_;refine ae ?_;refine zC g1 ?_;refine aB (g2) rfl rfl ?_;refine br hr ?_;exact ak [] hQ
 · have hd:(decide ((k:Int)=(k2:Int))&&(decide ((a:Int)=(a2:Int))&&decide ((b:Int)=(b2:Int))))=false:=by
    rw[ak0];intro h;simp only[ajs,decide_eq_true_eq] at h;exact h1 ⟨by omega,by omega,by omega⟩
   rw[ajn (fun e=>h1 ⟨e.1,e.2.1,e.2.2.1⟩)];refine zF pl Tryz.call13 Tryz.func13 [.tmp 4] fun Q hQ=>?_;refine ae ?_;refine zC g1 ?_;refine aB (g2) rfl rfl ?_;refine br hd ?_;exact ak [] hQ
theorem Hw {k a b:Nat} {l:List SR}:aV (wd k a b) (s8 k a b l l.length)=bg k a b l:=by
 unfold bg s8;rw[ajz,akz,List.replicate_zero,ake]
 rfl
theorem yk {Kd kk aa bb:Int} {S:List (Int×Int×Bool)} {M D Sc R C ck ca cb:Int} {W Ky:List Nat} {L0:List Bool} (ht:(Kd.tmod 5+5)%5=1) (hS:S.length≤9223372036854775807) (hL0:L0.length≤9223372036854775807):
 ∃(k a b n:Nat) (l:List SR),GW k a b∧1≤n∧n≤8∧l.length=n∧(∀s∈l,aP k a b s)∧aA Tryz.prog 8 [.agg (pN Kd kk aa bb S M D Sc R C ck ca cb W Ky L0)] [] (.tup [OR 0,.lit (.bool true)]) [some (cP 1 k a b),some (cC 2 n (wd k a b)),some (ch n (wd k a b) (bg k a b l))]:=by
 obtain ⟨k,a,b,hsm,hs⟩:=fP (kk:=kk) (aa:=aa) (bb:=bb);have hg:=bO hsm;have h0:=hs (0,0,false);dsimp only at h0;have hL1:(L0.take 300).length≤300:=by rw[List.length_take];omega
 have nt:=fY (L:=L0.take 300) zo;have hns:¬300<L0.length→L0.take 300=L0:=fun h=>ajy zo;generalize hL:L0.take 300=L at*
 have t1: -5<Kd.tmod 5:=by have:=alF Kd (b:=5) zd;omega
 have t2:Kd.tmod 5<5:=alG Kd zd;have hkw:IntKind.i64.wrap (Kd.tmod 5+5)=Kd.tmod 5+5:=wrap_i64 ⟨by omega,by omega⟩;have mk:=Ee (l:=S) hsm hS;have ml:=Mn (k:=k) (a:=a) (b:=b) (l:=S);have mw:=nS (k:=k) (a:=a) (b:=b) (l:=S);rw[Hw] at mk;refine⟨k,a,b,(qb k a b S).length,qb k a b S,hsm,ml.1,ml.2,rfl,mw,?_⟩;generalize qb k a b S=m at*
 have hlw:=aq (aZ m.length (wd k a b)) (bg k a b m);generalize bg k a b m=X at*
 generalize wd k a b=w at*
 generalize m.length=n at*
 refine zF J9 Tryz.call8 Tryz.func8 [.cell 2 42,.tmp 3] fun Q hQ=>?_
 by_cases h1:300<L0.length
 case' pos=>
  refine Jf hL ?_
 case' neg=>
  have hLL:=hns h1;subst hLL;refine ae ?_
 all_goals
  refine aF [] [] (nt) ?_;refine ej hkw ht ?_;refine aB (h0) rfl rfl ?_;refine ej hkw ht ?_
  by_cases h2:0<S.length
  case' pos=>
   obtain ⟨⟨s1,s2,s3⟩,ea⟩:∃x,S.getD 0 default=x:=⟨_,rfl⟩;have h3:=hs (s1,s2,s3);dsimp only at h3;generalize wi k a b (s1,s2,s3)=r at*
   generalize wi k a b (0,0,false)=r0 at*
   refine br ea ?_;refine aB (h3) rfl rfl ?_;refine br ht ?_
  case' neg=>
   generalize wi k a b (0,0,false)=r at*
   refine br ht ?_
  all_goals
   refine zW [] [] mk ?_;exact ak [some 6,some 7,some 8] hQ
theorem Dj {M D S p i n:Nat} {st:SS} {d:Bool} {L:List Bool} (hw:WB M D S) (hL:L.length≤1048576) (hp:p≤L.length) (hd:d=true→p=L.length) (hX:st.1.length≤256) (hi:i<st.1.length)
 (hs:SOk (cR M D S) st) (hn:n≤1048576):∃(e:Int) (st':SS) (q:Nat) (d':Bool),SOk (cR M D S) st'∧st'.1.length=st.1.length∧q≤L.length∧(d'=true→q=L.length)∧
 aA Tryz.prog 18 [.ref 0 0 0 0,.ref 1 0 0 0,.lit (.int .i64 (i:Int)),.lit (.int .i64 (n:Int))] [some (tJ M D S st),some (bt L p d)]
 (.lit (.int .i64 e)) [some (tJ M D S st'),some (bt L q d')]:=by
 have h:=Kw hw hL hp hd hX hi hs hn;refine⟨_,_,_,_,?_,?_,?_,?_,h⟩<;>(unfold Ff EH;split)
 · rename_i r q hr
   exact(iT (Hv hw.pw.toPB st i n hs) hr).1
 · exact hs
 · rename_i r q hr
   exact(iT (LX (cR M D S) st i n) hr).1
 · rfl
 · rename_i r q hr
   exact(r6 hp hr).2
 · exact ajp _
 · rename_i r q hr
   intro hdd;have h1:=hd hdd;have h2:=r6 hp hr;dsimp only;omega
 · exact fun _=>rfl
theorem rL:aA Tryz.prog 7 [] [] (.lit (.bool true)) []:=by
 have hg:aL 2 1 3:=.inr (.inl ⟨rfl,by decide,by decide,by decide⟩);have hw:aP 2 1 3 (5,0,false):=by unfold aP;rw[if_neg zd];exact⟨rfl,by decide,fun h=>by cases h⟩
 have hp:iF (bc 1++bj [2,1,3]++cD 2 1 3 (5,0,false))=[18,209,40]:=by decide+kernel
 obtain ⟨c0,c1,c2,c3,hc⟩:∃c0 c1 c2 c3,(nl (bV [18,209,40])).map (ie .u8)=[[.lit (.int .u8 18)],[.lit (.int .u8 209)],[.lit (.int .u8 40)],c0,c1,c2,c3]:=⟨_,_,_,_,rfl⟩;have en:=MA hg hw;have ck:=kF hg hw;rw[hp,hc] at en;generalize hx:uw 2 1 3 (5,0,false)=x at en ck;have hx':x=.agg [.lit (.int .i64 1),.lit (.int .i64 2),.lit (.int .i64 1),.lit (.int .i64 3),.lit (.int .i64 5),.lit (.int .i64 0),.lit (.bool false),.lit (.pointer none),.lit (.pointer none),.lit (.pointer none),.lit (.pointer none)]:=hx.symm;subst hx';clear hx;refine zF pl Tryz.call7 Tryz.func7 [.tmp 0] fun Q hQ=>?_;refine ae ?_;refine zC en ?_;refine zC ck ?_;exact ak [] hQ
def rgs (k a b:Nat) (S:List (Nat×Nat×Bool)):List Bool:=S.flatMap (cD k a b)
end Go.Proofs.YtcnlmelpnflhnaaGreat
