import Derived.Test.YtcnlmelpnflhnaaGreatBm
import Derived.Test.YtcnlmelpnflhnaaGreatAf
import Derived.Test.YtcnlmelpnflhnaaGreatIn
import Derived.Test.YtcnlmelpnflhnaaGreatOg
namespace Go.Proofs.YtcnlmelpnflhnaaGreat
open Go.Eng Go.Vx
set_option linter.unusedSimpArgs false
set_option linter.unusedVariables false
set_option maxRecDepth 100000
theorem Hj {M D S M2 D2 S2:Nat} {x y:SS} (hx:x.1.length≤256) (hy:y.1.length≤256):aA Tryz.prog 57 [Km M D S x,Km M2 D2 S2 y] [] (.lit (.bool (decide (M=M2∧D=D2∧S=S2∧x=y)))) []:=by
 have q:=Gm (A:=x.1) (B:=y.1) zo zo;obtain ⟨x1,x2,x3⟩:=x;obtain ⟨y1,y2,y3⟩:=y;dsimp only at q
 by_cases h1:M=M2∧D=D2∧S=S2
 · obtain ⟨rfl,rfl,rfl⟩:=h1
   by_cases h2:x2=y2
   · by_cases h3:x3=y3
     · subst h2 h3
       rw[show decide (M=M∧D=D∧S=S∧(x1,x2,x3)=(y1,x2,x3))=decide (x1=y1) by simp];generalize decide (x1=y1)=r at*
       refine zF Ia Tryz.call57 Tryz.func57 [.tmp 4] fun Q hQ=>?_;refine zq8 ?_;refine zC q ?_;exact ai [] hQ
     · rw[akg (fun e=>h3 (by injection e.2.2.2 with _ e;injection e))]
       subst h2;have hb:(x3==y3)=false:=amw.2 h3;refine zF Ia Tryz.call57 Tryz.func57 [.tmp 4] fun Q hQ=>?_;refine bg hb ?_;exact ai [] hQ
   · have h2':¬(x2:Int)=(y2:Int):=by omega
     rw[akg (fun e=>h2 (by injection e.2.2.2 with _ e;injection e))];refine zF Ia Tryz.call57 Tryz.func57 [.tmp 4] fun Q hQ=>?_;refine bg (akg h2') ?_;exact ai [] hQ
 · have hd:(decide ((M:Int)=(M2:Int))&&(decide ((D:Int)=(D2:Int))&&decide ((S:Int)=(S2:Int))))=false:=by
    rw[al1];intro h;simp only[akn,decide_eq_true_eq] at h;exact h1 ⟨by omega,by omega,by omega⟩
   rw[akg (fun e=>h1 ⟨e.1,e.2.1,e.2.2.1⟩)];refine zF Ia Tryz.call57 Tryz.func57 [.tmp 4] fun Q hQ=>?_;refine bg hd ?_;exact ai [] hQ
theorem KI {K P C K2 P2 C2:Nat} {X Y:List (Nat×Nat)} {N M:Nat} (hX:X.length≤1000000) (hY:Y.length≤1000000):aA Tryz.prog 59 [L4 (K:Int) (P:Int) (C:Int) X N,L4 (K2:Int) (P2:Int) (C2:Int) Y M] [] (.lit (.bool (decide (K=K2∧P=P2∧C=C2∧X=Y∧N=M)))) []:=by
 by_cases h1:K=K2∧P=P2∧C=C2
 · obtain ⟨rfl,rfl,rfl⟩:=h1
   have s:=Ja (K:=(K:Int)) (P:=(P:Int)) (C:=(C:Int)) (N:=N) (M:=M) hX hY;rw[show decide (K=K∧P=P∧C=C∧X=Y∧N=M)=decide (N=M∧X=Y) by simp[and_comm]];exact s
 · have hd:(decide ((K:Int)=(K2:Int))&&(decide ((P:Int)=(P2:Int))&&decide ((C:Int)=(C2:Int))))=false:=by
    rw[al1];intro h;simp only[akn,decide_eq_true_eq] at h;exact h1 ⟨by omega,by omega,by omega⟩
   rw[akg (fun e=>h1 ⟨e.1,e.2.1,e.2.2.1⟩)];refine zF RR Tryz.call59 Tryz.func59 [.tmp 4] fun Q hQ=>?_;refine bg hd ?_;exact ai [] hQ
theorem bA {t u:Int} {c1 c2 c3 c4 c5 c6 c7 c8 c9 c10 d1 d2 d3 d4 d5 d6 d7 d8 d9 d10:V} (h:t≠u) (hc:lB.plnL [c1,c2,c3,c4,c5,c6,c7,c8,c9,c10]=true) (hd:lB.plnL [d1,d2,d3,d4,d5,d6,d7,d8,d9,d10]=true):
 aA Tryz.prog 13 [.agg [.I t,c1,c2,c3,c4,c5,c6,c7,c8,c9,c10],.agg [.I u,d1,d2,d3,d4,d5,d6,d7,d8,d9,d10]] [] (.lit (.bool false)) []:=by
 refine zF pl Tryz.call13 Tryz.func13 [.tmp 4] fun Q hQ=>?_;refine bg (akg h) ?_;exact ai [] hQ
theorem Ew {M D S M2 D2 S2:Nat} {x y:SS} (hx:x.1.length≤256) (hy:y.1.length≤256):aA Tryz.prog 13 [p8 M D S x,p8 M2 D2 S2 y] [] (.lit (.bool (decide (M=M2∧D=D2∧S=S2∧x=y)))) []:=by
 have g1:=Cr (M:=M) (D:=D) (S:=S) (st:=x);have g2:=Cr (M:=M2) (D:=D2) (S:=S2) (st:=y);have s:=Hj (M:=M) (D:=D) (S:=S) (M2:=M2) (D2:=D2) (S2:=S2) hx hy;generalize decide (M=M2∧D=D2∧S=S2∧x=y)=r at*
 refine zF pl Tryz.call13 Tryz.func13 [.tmp 4] fun Q hQ=>?_;refine ae ?_;refine zC g1 ?_;refine zC g2 ?_;refine zC s ?_;exact ai [] hQ
theorem FQ {k a b n k2 a2 b2 n2:Nat} {l m:List SR} (h:aX k a b) (hn:n≤256) (hl:l.length=n) (hm:m.length=n2) (wl:∀s∈l,aZ k a b s) (wm:∀s∈m,aZ k2 a2 b2 s):aA Tryz.prog 13 [pZ k a b n l,pZ k2 a2 b2 n2 m] [] (.lit (.bool (decide (k=k2∧a=a2∧b=b2∧l=m)))) []:=by
 have g1:=Cp (k:=k) (a:=a) (b:=b) (n:=n) (l:=l);have g2:=Cp (k:=k2) (a:=a2) (b:=b2) (n:=n2) (l:=m);have s:=uW h hn hl hm wl wm;unfold bV at s;generalize decide (k=k2∧a=a2∧b=b2∧l=m)=r at*
 refine zF pl Tryz.call13 Tryz.func13 [.tmp 4] fun Q hQ=>?_;refine ae ?_;refine zC g1 ?_;refine zC g2 ?_;refine zC s ?_;exact ai [] hQ
theorem ET {R C k a b T R2 C2 k2 a2 b2 T2:Nat} {l m:List RW} (h:aX k a b) (hC:C≤256) (hl:l.length=R) (hm:m.length=R2) (hR:R≤100) (hR2:R2≤100) (wl:∀r∈l,bB k a b C r) (wm:∀r∈m,bB k2 a2 b2 C2 r):aA Tryz.prog 13 [p6 R C k a b l T,p6 R2 C2 k2 a2 b2 m T2] [] (.lit (.bool (decide (R=R2∧C=C2∧k=k2∧a=a2∧b=b2∧l=m∧T=T2)))) []:=by
 have g1:=zX (R:=R) (C:=C) (k:=k) (a:=a) (b:=b) (l:=l) (T:=T);have g2:=zX (R:=R2) (C:=C2) (k:=k2) (a:=a2) (b:=b2) (l:=m) (T:=T2);have s:=Ec (T:=T) (T2:=T2) h hC hl hm hR hR2 wl wm;generalize decide (R=R2∧C=C2∧k=k2∧a=a2∧b=b2∧l=m∧T=T2)=r at*
 refine zF pl Tryz.call13 Tryz.func13 [.tmp 4] fun Q hQ=>?_;refine ae ?_;refine zC g1 ?_;refine zC g2 ?_;refine zC s ?_;exact ai [] hQ
theorem EA {K P C K2 P2 C2:Nat} {X Y:List (Nat×Nat)} {N M:Nat} (hX:X.length≤1000000) (hY:Y.length≤1000000):aA Tryz.prog 13 [pY K P C X N,pY K2 P2 C2 Y M] [] (.lit (.bool (decide (K=K2∧P=P2∧C=C2∧X=Y∧N=M)))) []:=by
 have g1:=zV (K:=K) (P:=P) (C:=C) (X:=X) (T:=N);have g2:=zV (K:=K2) (P:=P2) (C:=C2) (X:=Y) (T:=M);have s:=KI (K:=K) (P:=P) (C:=C) (K2:=K2) (P2:=P2) (C2:=C2) (N:=N) (M:=M) hX hY;generalize decide (K=K2∧P=P2∧C=C2∧X=Y∧N=M)=r at*
 refine zF pl Tryz.call13 Tryz.func13 [.tmp 4] fun Q hQ=>?_;refine ae ?_;refine zC g1 ?_;refine zC g2 ?_;refine zC s ?_;exact ai [] hQ
theorem ED {k a b k2 a2 b2:Nat} {s t:SR} (h:aX k a b) (w:aZ k a b s) (h2:aX k2 a2 b2) (w2:aZ k2 a2 b2 t):aA Tryz.prog 13 [zH k a b s,zH k2 a2 b2 t] [] (.lit (.bool (decide (k=k2∧a=a2∧b=b2∧s=t)))) []:=by
 have g1:=wO h w;have g2:=wO h2 w2;obtain ⟨x1,x2,x3⟩:=s;obtain ⟨y1,y2,y3⟩:=t
 by_cases h1:k=k2∧a=a2∧b=b2
 · obtain ⟨rfl,rfl,rfl⟩:=h1
   have hd:decide (k=k∧a=a∧b=b∧(x1,x2,x3)=(y1,y2,y3))=(decide ((x1:Int)=(y1:Int))&&(decide ((x2:Int)=(y2:Int))&&(x3==y3))):=by
    rw[Bool.eq_iff_iff];simp only[akn,decide_eq_true_eq,beq_iff_eq,Prod.mk.injEq,true_and];constructor
    · rintro ⟨rfl,rfl,rfl⟩
      exact⟨rfl,rfl,rfl⟩
    · rintro ⟨e1,e2,e3⟩
      exact⟨by omega,by omega,e3⟩
   rw[hd];generalize hr:(decide ((x1:Int)=(y1:Int))&&(decide ((x2:Int)=(y2:Int))&&(x3==y3)))=r at*
   refine zF pl Tryz.call13 Tryz.func13 [.tmp 4] fun Q hQ=>?_;refine ae ?_;refine zC g1 ?_;refine aC (g2) rfl rfl ?_;refine bg hr ?_;exact ai [] hQ
 · have hd:(decide ((k:Int)=(k2:Int))&&(decide ((a:Int)=(a2:Int))&&decide ((b:Int)=(b2:Int))))=false:=by
    rw[al1];intro h;simp only[akn,decide_eq_true_eq] at h;exact h1 ⟨by omega,by omega,by omega⟩
   rw[akg (fun e=>h1 ⟨e.1,e.2.1,e.2.2.1⟩)];refine zF pl Tryz.call13 Tryz.func13 [.tmp 4] fun Q hQ=>?_;refine ae ?_;refine zC g1 ?_;refine aC (g2) rfl rfl ?_;refine bg hd ?_;exact ai [] hQ
theorem QP {P:SP} {i f:Nat} {st:SS} {c:Cell} (h:c.1≤P.m):gK P i (f+1) st c=.ret (st.1.set i (gS c),st.2):=by rw[gK.eq_2,if_pos h]
theorem QZ {P:SP} {L:List Bool} {i f p:Nat} {st:SS} {c:Cell} (h:¬c.1≤P.m) (h2:c.2<P.d):(gK P i (f+1) st c).run L p=match (fq c.1 st.2.1).run L p with | some (n,q)=>(gK P i f st (n,c.2+1)).run L q | none=>none:=by
 rw[gK.eq_2,if_neg h,if_pos h2,run_bind,C8]
 cases (fq c.1 st.2.1).run L p with
 | none=>rfl
 | some x=>rfl
theorem R3 {P:SP} {L:List Bool} {i f p:Nat} {st:SS} {c:Cell} (h:¬c.1≤P.m) (h2:¬c.2<P.d) (h3:st.2.1<P.s):(gK P i (f+1) st c).run L p=match (jl P st.2.1 i st.1 0 c).run L p with | some (r,q)=>(gK P i f (r.1,st.2.1+1,st.2.2) r.2).run L q | none=>none:=by
 rw[gK.eq_2,if_neg h,if_neg h2,if_pos h3,run_bind]
 cases (jl P st.2.1 i st.1 0 c).run L p with
 | none=>rfl
 | some x=>rfl
theorem Kw {P:SP} {i f:Nat} {st:SS} {c:Cell} (h:¬c.1≤P.m) (h2:¬c.2<P.d) (h3:¬st.2.1<P.s):gK P i (f+1) st c=.ret (st.1.set i (gS (P.m,c.2)),st.2.1,true):=by rw[gK.eq_2,if_neg h,if_neg h2,if_neg h3]
set_option maxHeartbeats 4000000 in
theorem MW {M D S p i F:Nat} {st:SS} {d:Bool} {L:List Bool} {c:Cell} (hw:WB M D S) (hL:L.length≤1048576) (hp:p≤L.length) (hd:d=true→p=L.length) (hn:st.1.length≤256) (hi:i<st.1.length)
 (hs:SOk (cZ M D S) st) (hc:c.1≤16777216) (hc2:c.2≤(cZ M D S).d) (hF:need (cZ M D S) st.2.1 c.2≤F):
 FnR Tryz.prog 75 [.ref 0 0 0 0,.ref 1 0 0 0,.I i,cA c] (W3 M D S st.1.length st.1 st.2.1 st.2.2 L p d)
 (MN L d ((gK (cZ M D S) i F st c).run L p)) (fun x=>.I x.2.1) (fun x=>W3 M D S st.1.length x.1.1 x.1.2.1 x.1.2.2 L x.2.2.1 x.2.2.2):=by
 have ht:=tn (M:=M) (D:=D) (S:=S) (by have:=hw.m8;omega) (by have:=hw.d2;omega);have hpw:=hw.pw;have hd3:=hpw.d3;have hm255:=hpw.m255;rw[show 2^M-1=(cZ M D S).m from rfl,show 2^D-1=(cZ M D S).d from rfl] at ht;have hre:=fun(cs:List Cell) (s p':Nat) (f:Bool) (own:Cell) (h1:p'≤L.length) (h2:d=true→p'=L.length) (h3:s≤4) (h4:cs.length≤256) (h5:∀c∈cs,zK (cZ M D S) c) (h6:own.1≤16777216∧own.2≤3)=>y8 (M:=M) (D:=D) (S:=S) (s:=s) (p:=p') (cs:=cs) (f:=f) (d:=d) (L:=L) (i:=(i:Int)) (own:=own) hw hL h1 h2 h3 h4 h5 h6;have hPs:(cZ M D S).s=S:=rfl;have hw4:=hw.s4;generalize hP:cZ M D S=P at*
 generalize hn0:st.1.length=n at*
 refine Dr aaz zk Tryz.call75 Tryz.func75 rfl zk rfl [.tmp 8] zk fun Q hQ=>?_;refine ae ?_;refine zC ht ?_
 refine aU (X:=Nat×SS×Cell×Nat) (st:=fun y=>([(0,.ref 0 0 0 0),(1,.ref 1 0 0 0),(2,.I i),(7,.ref 3 0 0 0),(9,.I (P.m:Int)),(10,.I (P.d:Int))],
  W3 M D S n y.2.1.1 y.2.1.2.1 y.2.1.2.2 L y.2.2.2 d++[some (.cells [.I y.2.2.1.1,.I y.2.2.1.2])]))
  (inv:=fun y=>y.2.1.1.length=n∧y.2.2.2≤L.length∧(d=true→y.2.2.2=L.length)∧SOk P y.2.1∧y.2.2.1.1≤16777216∧y.2.2.1.2≤P.d∧need P y.2.1.2.1 y.2.2.1.2≤y.1∧
   (gK P i F st c).run L p=(gK P i y.1 y.2.1 y.2.2.1).run L y.2.2.2)
  (m:=fun y=>y.1) (F,st,c,p) [some 0,some 1,some 2,some 3] ⟨hn0,hp,hd,hs,hc,hc2,hF,rfl⟩ ?_
 rintro ⟨f,st',o,q⟩ ⟨hlen,hq,hdq,hs',ho1,ho2,hf,hrun⟩;dsimp only at hlen hq hdq hs' ho1 ho2 hf hrun ⊢;obtain ⟨g,rfl⟩:∃g,f=g+1:=⟨f-1,by unfold need at hf;omega⟩;obtain ⟨cs,s,fu⟩:=st';have hss1:=hs'.s1;have hss2:=hs'.s2;have hsc:=hs'.c;dsimp only at hlen hss1 hss2 hsc hf hrun ⊢;have hput:=fun(z:Cell) (fu:Bool)=>DQ (M:=M) (D:=D) (S:=S) (cs:=cs) (s:=s) (i:=i) (f:=fu) (c:=z) zo zo;rw[hlen] at hput
 by_cases h1:o.1≤P.m
 · rw[QP h1] at hrun
   have hrun2:(gK P i F st c).run L p=some ((cs.set i (gS o),s,fu),q):=hrun;rw[hrun2] at hQ;have hp2:=hput o fu;refine ae ?_;refine zW [some 0,some 2] [] hp2 ?_;exact ai [some 0,some 1,some 2] (hQ ((cs.set i (gS o),s,fu),0,q,d) rfl)
 · by_cases h2:o.2<P.d
   · rw[QZ h1 h2] at hrun
     have hup:=JJ (M:=M) (D:=D) (S:=S) (n:=n) (cs:=cs) (s:=s) (p:=q) (f:=fu) (d:=d) (L:=L) (c:=o) hL hq hdq zo zo zo;dsimp only at hrun
     cases h3:(fq o.1 s).run L q with
     | none=>
       rw[h3] at hrun;dsimp only at hrun;rw[jr h3] at hup;rw[hrun] at hQ;refine ae ?_;refine zW [some 0,some 1,some 2] [] hup ?_;exact ai [some 0,some 1,some 2] (hQ ((cs,s,fu),8,L.length,true) rfl)
     | some r=>
       obtain ⟨n1,q1⟩:=r;rw[h3] at hrun;dsimp only at hrun;have hnx:=il hq hdq h3;have hnl:=vF h3;have hdv:o.1/2^s≤o.1/2:=nb hss1;rw[jj h3] at hup;refine ae ?_;refine zW [some 0,some 1,some 2] [] hup ?_;refine aR (g,(cs,s,fu),(n1,o.2+1),q1) [some 0,some 1,some 2,some 3] ⟨hlen,hnx.1,hnx.2,hs',by dsimp only;omega,by dsimp only;omega,by dsimp only;unfold need at hf ⊢;omega,hrun⟩ (by dsimp only;omega)
   · by_cases h3:s<P.s
     · rw[R3 h1 h2 h3] at hrun
       have hr:=hre cs s q fu o hq hdq zo zo hsc ⟨ho1,by omega⟩;rw[hlen] at hr;have hall:=DX hpw.toPB hss1 (i:Int) cs 0 o hsc (fun _=>⟨ho2,by omega⟩);have hlen2:=(vT P s (i:Int) cs 0 o).2.2.2;dsimp only at hrun;refine ae ?_;refine Pq [some 0,some 1,some 2] [] (hr) ?_;rintro ⟨⟨Y,o'⟩,e,q',d'⟩ hx;unfold MN at hx
       cases h4:(jl P s (i:Int) cs 0 o).run L q with
       | none=>
         rw[h4] at hx hrun;dsimp only at hx hrun;rw[hrun] at hQ;simp only[Prod.mk.injEq] at hx;obtain ⟨rfl,rfl,rfl⟩:=hx;refine ae ?_;exact ai [some 0,some 1,some 2] (hQ ((Y,s+1,fu),8,L.length,true) rfl)
       | some r=>
         obtain ⟨⟨Y1,o1⟩,q1⟩:=r;rw[h4] at hx hrun;dsimp only at hx hrun;simp only[Prod.mk.injEq] at hx;obtain ⟨⟨rfl,rfl⟩,rfl,rfl,rfl⟩:=hx;have hnx:=il hq hdq h4;obtain ⟨a1,a2⟩:=i5 hall h4;have a3:=i5 hlen2 h4;have a4:=a2 zo;dsimp only at a1 a3 a4
         have hnd:need P (s+1) o'.2≤g:=by
          unfold need at hf ⊢
          have:(P.s-s)*(P.d+2)=(P.s-(s+1))*(P.d+2)+(P.d+2):=by
           rw[show P.s-s=P.s-(s+1)+1 by omega,akA,alG]
          omega
         refine ae ?_;refine aR (g,(Y,s+1,fu),o',q') [some 0,some 1,some 2,some 3] ⟨by dsimp only;omega,hnx.1,hnx.2,⟨a1,by dsimp only;omega,by dsimp only;omega,fun h=>by have:=hs'.f h;dsimp only at this;omega⟩,by dsimp only;omega,a4.1,hnd,hrun⟩ (by dsimp only;omega)
     · rw[Kw h1 h2 h3] at hrun
       have hrun2:(gK P i F st c).run L p=some ((cs.set i (gS (P.m,o.2)),s,true),q):=hrun;rw[hrun2] at hQ;have hp2:=hput (P.m,o.2) true;refine ae ?_;refine zW [some 0,some 2] [] hp2 ?_;exact ai [some 0,some 1,some 2] (hQ ((cs.set i (gS (P.m,o.2)),s,true),0,q,d) rfl)
end Go.Proofs.YtcnlmelpnflhnaaGreat
