import Derived.Test.YtcnlmelpnflhnaaGreatBp
import Derived.Test.YtcnlmelpnflhnaaGreatBn
namespace Go.Proofs.YtcnlmelpnflhnaaGreat
open Go.Eng Go.Vx
set_option linter.unusedSimpArgs false
set_option linter.unusedVariables false
set_option maxRecDepth 100000
inductive Itm
 | rg (k a b:Nat) (s:SR)
 | ar (k a b:Nat) (l:List SR)
 | sc (M D S:Nat) (st:SS)
 | ct (R C k a b T:Nat) (l:List RW)
 | sm (K P C T:Nat) (X:List (Nat×Nat))
def Itm.v:Itm→V
 | .rg k a b s=>CL k a b s
 | .ar k a b l=>oY k a b l.length l
 | .sc M D S st=>qg M D S st
 | .ct R C k a b T l=>pB R C k a b l T
 | .sm K P C T X=>oU K P C X T
def Itm.t:Itm→Nat
 | .rg .. =>1
 | .ar .. =>2
 | .sc .. =>3
 | .ct .. =>4
 | .sm .. =>5
def Itm.b:Itm→List Bool
 | .rg k a b s=>bQ [k,a,b]++cW k a b s
 | .ar k a b l=>bQ [k,a,b,l.length]++cQ (wd k a b) (l.map (jx k a b))
 | .sc M D S st=>bQ [M,D,S,st.1.length]++ey M D st
 | .ct R C k a b T l=>bQ [R,C,k,a,b]++oe k a b l T
 | .sm K P C T X=>bQ [K,P,C]++eH X T
def Itm.E (x:Itm):List Nat:=cU (jF (bI x.t++x.b))
def Itm.ok:Itm→Prop
 | .rg k a b s=>aT k a b∧aP k a b s
 | .ar k a b l=>aT k a b∧(1≤l.length∧l.length≤256)∧∀s∈l,aP k a b s
 | .sc M D S st=>zZ M D S∧(1≤st.1.length∧st.1.length≤256)∧okS M D S st.1.length st
 | .ct R C k a b T l=>aT k a b∧(1≤C∧C≤64)∧(1≤R∧R≤4)∧l.length=R∧T≤1099511627776∧∀r∈l,br k a b C r
 | .sm K P C T X=>At (K:Int) (P:Int) (C:Int)∧okA C X T
theorem Itm.t_lt (x:Itm):x.t<8:=by cases x<;>simp[Itm.t]
theorem Itm.enc {x:Itm} (h:x.ok):mT x.v x.E:=by
 cases x with
 | rg k a b s=>have e:=Jt h.1 h.2;rw[agw] at e;exact e
 | ar k a b l=>have e:=IA h.1 h.2.1.2 rfl;rw[agw] at e;exact e
 | sc M D S st=>
   obtain ⟨hg,hn,k1,k2,k3,k4,k5⟩:=h;obtain ⟨⟨a1,a2⟩,⟨a3,a4⟩,a5,a6⟩:=hg;have e:=JH (M:=M) (D:=D) (S:=S) (st:=st) zo zo zo zo (fun c hc=>⟨(k2 c hc).1,(k2 c hc).2.1⟩) ⟨k3,by omega⟩;rw[agw] at e;exact e
 | ct R C k a b T l=>
   obtain ⟨hg,hC,hR,hl,hT,hw⟩:=h;have e:=Ka (R:=R) hg hC hR.2 zo hw hT;rw[agw] at e;exact e
 | sm K P C T X=>
   obtain ⟨⟨hKP,hC1,hC2⟩,k1,k2,k3,k4⟩:=h;have e:=I1 (K:=K) (P:=P) (C:=C) (X:=X) (T:=T) zo zo zo zo (fun x hx=>⟨(k3 x hx).1,by have:=(k3 x hx).2;omega⟩) (k4.elim (fun h=>.inr h.2) (fun h=>.inl h.1)) k2;rw[agw] at e;exact e
theorem Itm.len {x:Itm} (h:x.ok):(bI x.t++x.b).length≤9600:=by
 have e:=(Itm.enc h).1;unfold Itm.E at e;rw[gl,fV] at e;omega
theorem Itm.chk {x:Itm} (h:x.ok):aC Tryz.prog 9 [x.v] [] (.lit (.int .i64 0)) []:=by
 cases x with
 | rg k a b s=>exact mh h.1 h.2
 | ar k a b l=>exact AY
 | sc M D S st=>exact zH
 | ct R C k a b T l=>exact AG
 | sm K P C T X=>exact zQ
theorem zI {t:Nat} {M:List Bool} (ht:t<8):numOf (((bI t++M).drop 4).take 3)=t:=by
 unfold bI;rw[agw,List.drop_left' (ai _ _),ahy (ai _ _),aR,agL zo]
theorem Itm.uni {x y:Itm} (hx:x.ok) (hy:y.ok) {R1 R2:List Bool} (e:bI x.t++(x.b++R1)=bI y.t++(y.b++R2)):x=y:=by
 have ht:x.t=y.t:=by
  have h1:=zI (M:=x.b++R1) x.t_lt;rw[e,zI y.t_lt] at h1;exact h1.symm
 have hgd:∀{k a b:Nat},aT k a b→k≤1048575∧a≤1048575∧b≤1048575:=fun{k a b} h=>by rcases h with h | h | h | h<;>omega
 cases x<;>cases y<;>first | (simp[Itm.t] at ht;done) | skip
 case rg.rg k a b s k' a' b' s'=>
  obtain ⟨h1,h2,h3⟩:=hgd hx.1;obtain ⟨h1',h2',h3'⟩:=hgd hy.1;simp only[Itm.t,Itm.b,agw] at e;have p:=iU (A:=bI 1) (T:=cW k a b s++R1) h1 h2 h3;rw[e,iU h1' h2' h3'] at p;simp only[Prod.mk.injEq] at p;obtain ⟨⟨e1,e2,e3⟩,-⟩:=p;obtain rfl:k'=k:=by omega
  obtain rfl:a'=a:=by omega
  obtain rfl:b'=b:=by omega
  have r:=iQ (A:=bI 1++bQ [k',a',b']) (R:=R1) hx.1 hx.2;have r':=iQ (A:=bI 1++bQ [k',a',b']) (R:=R2) hy.1 hy.2;simp only[agw] at r r';rw[e,r'] at r;simp only[Prod.mk.injEq,Option.some.injEq] at r;rw[r.1]
 case ar.ar k a b l k' a' b' l'=>
  obtain ⟨h1,h2,h3⟩:=hgd hx.1;obtain ⟨h1',h2',h3'⟩:=hgd hy.1;have n1:=hx.2.1;have n2:=hy.2.1
  have g4:∀k a b n,bQ [k,a,b,n]=bQ [k,a,b]++aq (n+1):=fun k a b n=>by
   have g1:bQ [n]=aq (n+1):=by simp[bQ]
   rw[←g1];exact Ay [k,a,b] [n]
  simp only[Itm.t,Itm.b,g4,pJ,agw] at e;have p:=iU (A:=bI 2) (T:=aq (l.length+1)++(l.flatMap (cW k a b)++R1)) h1 h2 h3;rw[e,iU h1' h2' h3'] at p;simp only[Prod.mk.injEq] at p;obtain ⟨⟨e1,e2,e3⟩,-⟩:=p;obtain rfl:k'=k:=by omega
  obtain rfl:a'=a:=by omega
  obtain rfl:b'=b:=by omega
  have q:=bt (A:=bI 2++bQ [k',a',b']) (T:=l.flatMap (cW k' a' b')++R1) (n:=l.length) zo;have q':=bt (A:=bI 2++bQ [k',a',b']) (T:=l'.flatMap (cW k' a' b')++R2) (n:=l'.length) zo;simp only[agw] at q q';rw[e,q'] at q;simp only[Prod.mk.injEq] at q;have hn:l.length=l'.length:=by omega
  have r:=mr (R:=R1) hx.1 l (bI 2++bQ [k',a',b']++aq (l.length+1)) hx.2.2;have r':=mr (R:=R2) hy.1 l' (bI 2++bQ [k',a',b']++aq (l'.length+1)) hy.2.2;rw[←hn] at r' e;simp only[agw] at r r';rw[e,r'] at r;simp only[Prod.mk.injEq,Option.some.injEq] at r;rw[r.1]
 case sc.sc M D S st M' D' S' st'=>
  obtain ⟨hg,hn,ho⟩:=hx;obtain ⟨hg',hn',ho'⟩:=hy;obtain ⟨⟨a1,a2⟩,⟨a3,a4⟩,a5,a6⟩:=hg;obtain ⟨⟨b1,b2⟩,⟨b3,b4⟩,b5,b6⟩:=hg';have gg:∀M D S n:Nat,bQ [M,D,S,n]=aq (M+1)++(aq (D+1)++(aq (S+1)++aq (n+1))):=fun M D S n=>by simp[bQ]
  simp only[Itm.t,Itm.b,gg,agw] at e;have p1:=bt (A:=bI 3) (T:=aq (D+1)++(aq (S+1)++(aq (st.1.length+1)++(ey M D st++R1)))) (n:=M) zo;rw[e,bt zo] at p1;simp only[Prod.mk.injEq] at p1;obtain rfl:M'=M:=by omega
  have p2:=bt (A:=bI 3++aq (M'+1)) (T:=aq (S+1)++(aq (st.1.length+1)++(ey M' D st++R1))) (n:=D) zo;have p2':=bt (A:=bI 3++aq (M'+1)) (T:=aq (S'+1)++(aq (st'.1.length+1)++(ey M' D' st'++R2))) (n:=D') zo;simp only[agw] at p2 p2';rw[e,p2'] at p2;simp only[Prod.mk.injEq] at p2;obtain rfl:D'=D:=by omega
  have p3:=bt (A:=bI 3++aq (M'+1)++aq (D'+1)) (T:=aq (st.1.length+1)++(ey M' D' st++R1)) (n:=S) zo;have p3':=bt (A:=bI 3++aq (M'+1)++aq (D'+1)) (T:=aq (st'.1.length+1)++(ey M' D' st'++R2)) (n:=S') zo;simp only[agw] at p3 p3';rw[e,p3'] at p3;simp only[Prod.mk.injEq] at p3;obtain rfl:S'=S:=by omega
  have p4:=bt (A:=bI 3++aq (M'+1)++aq (D'+1)++aq (S'+1)) (T:=ey M' D' st++R1) (n:=st.1.length) zo;have p4':=bt (A:=bI 3++aq (M'+1)++aq (D'+1)++aq (S'+1)) (T:=ey M' D' st'++R2) (n:=st'.1.length) zo;simp only[agw] at p4 p4';rw[e,p4'] at p4;simp only[Prod.mk.injEq] at p4;have hl:st'.1.length=st.1.length:=by omega
  have r:=vm (A:=bI 3++aq (M'+1)++aq (D'+1)++aq (S'+1)++aq (st.1.length+1)) (R:=R1) zo ho;have r':=vm (A:=bI 3++aq (M'+1)++aq (D'+1)++aq (S'+1)++aq (st'.1.length+1)) (R:=R2) zo ho';rw[hl] at r' e;simp only[agw] at r r';rw[e,r'] at r;simp only[Prod.mk.injEq,Option.some.injEq] at r;rw[r.1]
 case ct.ct R C k a b T l R' C' k' a' b' T' l'=>
  obtain ⟨hg,hC,hR,hl,hT,hw⟩:=hx;obtain ⟨hg',hC',hR',hl',hT',hw'⟩:=hy;obtain ⟨h1,h2,h3⟩:=hgd hg;obtain ⟨h1',h2',h3'⟩:=hgd hg';have g5:∀R C k a b:Nat,bQ [R,C,k,a,b]=aq (R+1)++(aq (C+1)++bQ [k,a,b]):=fun R C k a b=>by simp[bQ]
  simp only[Itm.t,Itm.b,g5,agw] at e;have p1:=bt (A:=bI 4) (T:=aq (C+1)++(bQ [k,a,b]++(oe k a b l T++R1))) (n:=R) zo;rw[e,bt zo] at p1;simp only[Prod.mk.injEq] at p1;obtain rfl:R'=R:=by omega
  have p2:=bt (A:=bI 4++aq (R'+1)) (T:=bQ [k,a,b]++(oe k a b l T++R1)) (n:=C) zo;have p2':=bt (A:=bI 4++aq (R'+1)) (T:=bQ [k',a',b']++(oe k' a' b' l' T'++R2)) (n:=C') zo;simp only[agw] at p2 p2';rw[e,p2'] at p2;simp only[Prod.mk.injEq] at p2;obtain rfl:C'=C:=by omega
  have p3:=iU (A:=bI 4++aq (R'+1)++aq (C'+1)) (T:=oe k a b l T++R1) h1 h2 h3;have p3':=iU (A:=bI 4++aq (R'+1)++aq (C'+1)) (T:=oe k' a' b' l' T'++R2) h1' h2' h3';simp only[agw] at p3 p3';rw[e,p3'] at p3;simp only[Prod.mk.injEq] at p3;obtain ⟨⟨e1,e2,e3⟩,-⟩:=p3;obtain rfl:k'=k:=by omega
  obtain rfl:a'=a:=by omega
  obtain rfl:b'=b:=by omega
  have r:=uS (A:=bI 4++aq (R'+1)++aq (C'+1)++bQ [k',a',b']) (R:=R1) hg hT hw;have r':=uS (A:=bI 4++aq (R'+1)++aq (C'+1)++bQ [k',a',b']) (R:=R2) hg' hT' hw';rw[hl] at r;rw[hl'] at r';simp only[agw] at r r';rw[e,r'] at r;simp only[Prod.mk.injEq,Option.some.injEq] at r;rw[r.1.1,r.1.2]
 case sm.sm K P C T X K' P' C' T' X'=>
  obtain ⟨⟨hKP,hC1,hC2⟩,ho⟩:=hx;obtain ⟨⟨hKP',hC1',hC2'⟩,ho'⟩:=hy;have g3:∀K P C:Nat,bQ [K,P,C]=aq (K+1)++(aq (P+1)++aq (C+1)):=fun K P C=>by simp[bQ]
  simp only[Itm.t,Itm.b,g3,agw] at e;have p1:=bt (A:=bI 5) (T:=aq (P+1)++(aq (C+1)++(eH X T++R1))) (n:=K) zo;rw[e,bt zo] at p1;simp only[Prod.mk.injEq] at p1;obtain rfl:K'=K:=by omega
  have p2:=bt (A:=bI 5++aq (K'+1)) (T:=aq (C+1)++(eH X T++R1)) (n:=P) zo;have p2':=bt (A:=bI 5++aq (K'+1)) (T:=aq (C'+1)++(eH X' T'++R2)) (n:=P') zo;simp only[agw] at p2 p2';rw[e,p2'] at p2;simp only[Prod.mk.injEq] at p2;obtain rfl:P'=P:=by omega
  have p3:=bt (A:=bI 5++aq (K'+1)++aq (P'+1)) (T:=eH X T++R1) (n:=C) zo;have p3':=bt (A:=bI 5++aq (K'+1)++aq (P'+1)) (T:=eH X' T'++R2) (n:=C') zo;simp only[agw] at p3 p3';rw[e,p3'] at p3;simp only[Prod.mk.injEq] at p3;obtain rfl:C'=C:=by omega
  have r:=wC (A:=bI 5++aq (K'+1)++aq (P'+1)++aq (C'+1)) (R:=R1) ho;have r':=wC (A:=bI 5++aq (K'+1)++aq (P'+1)++aq (C'+1)) (R:=R2) ho';simp only[agw] at r r';rw[e,r'] at r;simp only[Prod.mk.injEq,Option.some.injEq] at r;rw[r.1.1,r.1.2]
theorem Itm.bits {x:Itm} (h:x.ok):bitsOf (nl (MN x.E))=bI x.t++(x.b++Dk (bI x.t++x.b)):=(zq x.t_lt (Itm.len h)).2.2.2.2.2.1
theorem Itm.E_inj {x y:Itm} (hx:x.ok) (hy:y.ok) (e:nl x.E=nl y.E):x=y:=by
 have e:=NX.1 e;have h1:=Itm.bits hx;rw[e,Itm.bits hy] at h1;exact(Itm.uni hy hx h1).symm
theorem Itm.same {x y:Itm} (hx:x.ok) (hy:y.ok):aC Tryz.prog 13 [x.v,y.v] [] (.lit (.bool (decide (nl x.E=nl y.E)))) []:=by
 have hi:=Itm.E_inj hx hy
 cases x with
 | rg k a b s=>
   cases y with
   | rg k' a' b' s'=>
     rw[show decide (nl (Itm.rg k a b s).E=nl (Itm.rg k' a' b' s').E)=decide (k=k'∧a=a'∧b=b'∧s=s') from decide_eq_decide.2 ⟨fun h=>by cases hi h;exact⟨rfl,rfl,rfl,rfl⟩,fun h=>by obtain ⟨rfl,rfl,rfl,rfl⟩:=h;rfl⟩];exact BL hx.1 hx.2 hy.1 hy.2
   | ar _ _ _ _=>rw[agq fun h=>by cases hi h];exact bq (t:=1) (u:=2) zd rfl rfl
   | sc _ _ _ _=>rw[agq fun h=>by cases hi h];exact bq (t:=1) (u:=3) zd rfl rfl
   | ct _ _ _ _ _ _ _=>rw[agq fun h=>by cases hi h];exact bq (t:=1) (u:=4) zd rfl rfl
   | sm _ _ _ _ _=>rw[agq fun h=>by cases hi h];exact bq (t:=1) (u:=5) zd rfl rfl
 | ar k a b l=>
   cases y with
   | ar k' a' b' l'=>
     rw[show decide (nl (Itm.ar k a b l).E=nl (Itm.ar k' a' b' l').E)=decide (k=k'∧a=a'∧b=b'∧l=l') from decide_eq_decide.2 ⟨fun h=>by cases hi h;exact⟨rfl,rfl,rfl,rfl⟩,fun h=>by obtain ⟨rfl,rfl,rfl,rfl⟩:=h;rfl⟩];exact CU hx.1 hx.2.1.2 rfl rfl hx.2.2 hy.2.2
   | rg _ _ _ _=>rw[agq fun h=>by cases hi h];exact bq (t:=2) (u:=1) zd rfl rfl
   | sc _ _ _ _=>rw[agq fun h=>by cases hi h];exact bq (t:=2) (u:=3) zd rfl rfl
   | ct _ _ _ _ _ _ _=>rw[agq fun h=>by cases hi h];exact bq (t:=2) (u:=4) zd rfl rfl
   | sm _ _ _ _ _=>rw[agq fun h=>by cases hi h];exact bq (t:=2) (u:=5) zd rfl rfl
 | sc M D S st=>
   cases y with
   | sc M' D' S' st'=>
     rw[show decide (nl (Itm.sc M D S st).E=nl (Itm.sc M' D' S' st').E)=decide (M=M'∧D=D'∧S=S'∧st=st') from decide_eq_decide.2 ⟨fun h=>by cases hi h;exact⟨rfl,rfl,rfl,rfl⟩,fun h=>by obtain ⟨rfl,rfl,rfl,rfl⟩:=h;rfl⟩];exact BE hx.2.1.2 hy.2.1.2
   | rg _ _ _ _=>rw[agq fun h=>by cases hi h];exact bq (t:=3) (u:=1) zd rfl rfl
   | ar _ _ _ _=>rw[agq fun h=>by cases hi h];exact bq (t:=3) (u:=2) zd rfl rfl
   | ct _ _ _ _ _ _ _=>rw[agq fun h=>by cases hi h];exact bq (t:=3) (u:=4) zd rfl rfl
   | sm _ _ _ _ _=>rw[agq fun h=>by cases hi h];exact bq (t:=3) (u:=5) zd rfl rfl
 | ct R C k a b T l=>
   cases y with
   | ct R' C' k' a' b' T' l'=>
     rw[show decide (nl (Itm.ct R C k a b T l).E=nl (Itm.ct R' C' k' a' b' T' l').E)=decide (R=R'∧C=C'∧k=k'∧a=a'∧b=b'∧l=l'∧T=T') from decide_eq_decide.2 ⟨fun h=>by cases hi h;exact⟨rfl,rfl,rfl,rfl,rfl,rfl,rfl⟩,fun h=>by obtain ⟨rfl,rfl,rfl,rfl,rfl,rfl,rfl⟩:=h;rfl⟩];obtain ⟨hg,hC,hR,hl,hT,hw⟩:=hx;obtain ⟨hg',hC',hR',hl',hT',hw'⟩:=hy;exact BY hg zo hl hl' zo zo hw hw'
   | rg _ _ _ _=>rw[agq fun h=>by cases hi h];exact bq (t:=4) (u:=1) zd rfl rfl
   | ar _ _ _ _=>rw[agq fun h=>by cases hi h];exact bq (t:=4) (u:=2) zd rfl rfl
   | sc _ _ _ _=>rw[agq fun h=>by cases hi h];exact bq (t:=4) (u:=3) zd rfl rfl
   | sm _ _ _ _ _=>rw[agq fun h=>by cases hi h];exact bq (t:=4) (u:=5) zd rfl rfl
 | sm K P C T X=>
   cases y with
   | sm K' P' C' T' X'=>
     rw[show decide (nl (Itm.sm K P C T X).E=nl (Itm.sm K' P' C' T' X').E)=decide (K=K'∧P=P'∧C=C'∧X=X'∧T=T') from decide_eq_decide.2 ⟨fun h=>by cases hi h;exact⟨rfl,rfl,rfl,rfl,rfl⟩,fun h=>by obtain ⟨rfl,rfl,rfl,rfl,rfl⟩:=h;rfl⟩];obtain ⟨⟨hKP,hC1,hC2⟩,k1,k2,k3,k4⟩:=hx;obtain ⟨⟨hKP',hC1',hC2'⟩,k1',k2',k3',k4'⟩:=hy;exact BI zo zo
   | rg _ _ _ _=>rw[agq fun h=>by cases hi h];exact bq (t:=5) (u:=1) zd rfl rfl
   | ar _ _ _ _=>rw[agq fun h=>by cases hi h];exact bq (t:=5) (u:=2) zd rfl rfl
   | sc _ _ _ _=>rw[agq fun h=>by cases hi h];exact bq (t:=5) (u:=3) zd rfl rfl
   | ct _ _ _ _ _ _ _=>rw[agq fun h=>by cases hi h];exact bq (t:=5) (u:=4) zd rfl rfl
theorem Itm.parts {x:Itm}:∃c1 c2 c3 c4 c5 c6 c7 c8 c9 c10:V,x.v=.agg [.lit (.int .i64 (x.t:Int)),c1,c2,c3,c4,c5,c6,c7,c8,c9,c10]∧kW.plnL [.lit (.int .i64 (x.t:Int)),c1,c2,c3,c4,c5,c6,c7,c8,c9,c10]=true:=by
 cases x<;>exact⟨_,_,_,_,_,_,_,_,_,_,rfl,rfl⟩
end Go.Proofs.YtcnlmelpnflhnaaGreat
