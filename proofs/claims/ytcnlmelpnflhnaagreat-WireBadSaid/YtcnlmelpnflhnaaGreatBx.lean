import Derived.Test.YtcnlmelpnflhnaaGreatBl
import Derived.Test.YtcnlmelpnflhnaaGreatBq
import Derived.Test.YtcnlmelpnflhnaaGreatIn
import Derived.Test.YtcnlmelpnflhnaaGreatHd
namespace Go.Proofs.YtcnlmelpnflhnaaGreat
open Go.Eng Go.Vx
set_option linter.unusedSimpArgs false
set_option linter.unusedVariables false
set_option maxRecDepth 100000
inductive Itm
 | rg (k a b:Nat) (s:SR)
 | ar (k a b:Nat) (l:List SR)
 | sc (M D S:Nat) (st:SS)
 | ct (R C k a b T:Nat) (l:List RW)
 | sm (K P C T:Nat) (X:List (Nat×Nat))
def Itm.v:Itm→V
 | .rg k a b s=>zH k a b s
 | .ar k a b l=>pZ k a b l.length l
 | .sc M D S st=>p8 M D S st
 | .ct R C k a b T l=>p6 R C k a b l T
 | .sm K P C T X=>pY K P C X T
def Itm.t:Itm→Nat
 | .rg .. =>1
 | .ar .. =>2
 | .sc .. =>3
 | .ct .. =>4
 | .sm .. =>5
def Itm.b:Itm→List Bool
 | .rg k a b s=>cu [k,a,b]++dr k a b s
 | .ar k a b l=>cu [k,a,b,l.length]++du (wd k a b) (l.map (iL k a b))
 | .sc M D S st=>cu [M,D,S,st.1.length]++eC M D st
 | .ct R C k a b T l=>cu [R,C,k,a,b]++pW k a b l T
 | .sm K P C T X=>cu [K,P,C]++eG X T
def Itm.E (x:Itm):List Nat:=aT (j9 (bT x.t++x.b))
def Itm.ok:Itm→Prop
 | .rg k a b s=>aX k a b∧aZ k a b s
 | .ar k a b l=>aX k a b∧(1≤l.length∧l.length≤256)∧∀s∈l,aZ k a b s
 | .sc M D S st=>mj M D S∧(1≤st.1.length∧st.1.length≤256)∧okS M D S st.1.length st
 | .ct R C k a b T l=>aX k a b∧(1≤C∧C≤64)∧(1≤R∧R≤4)∧l.length=R∧T≤1099511627776∧∀r∈l,bB k a b C r
 | .sm K P C T X=>mz (K:Int) (P:Int) (C:Int)∧okA C X T
theorem Itm.t_lt (x:Itm):x.t<8:=by cases x<;>simp[Itm.t]
theorem Itm.enc {x:Itm} (h:x.ok):mB x.v x.E:=by
 cases x with
 | rg k a b s=>have e:=Dm h.1 h.2;rw[akl] at e;exact e
 | ar k a b l=>have e:=CO h.1 h.2.1.2 rfl;rw[akl] at e;exact e
 | sc M D S st=>
   obtain ⟨hg,hn,k1,k2,k3,k4,k5⟩:=h;obtain ⟨⟨a1,a2⟩,⟨a3,a4⟩,a5,a6⟩:=hg;have e:=Dz (M:=M) (D:=D) (S:=S) (st:=st) zo zo zo zo (fun c hc=>⟨(k2 c hc).1,(k2 c hc).2.1⟩) ⟨k3,by omega⟩;rw[akl] at e;exact e
 | ct R C k a b T l=>
   obtain ⟨hg,hC,hR,hl,hT,hw⟩:=h;have e:=DM (R:=R) hg hC hR.2 zo hw hT;rw[akl] at e;exact e
 | sm K P C T X=>
   obtain ⟨⟨hKP,hC1,hC2⟩,k1,k2,k3,k4⟩:=h;have e:=C6 (K:=K) (P:=P) (C:=C) (X:=X) (T:=T) zo zo zo zo (fun x hx=>⟨(k3 x hx).1,by have:=(k3 x hx).2;omega⟩) (k4.elim (fun h=>.inr h.2) (fun h=>.inl h.1)) k2;rw[akl] at e;exact e
theorem Itm.len {x:Itm} (h:x.ok):(bT x.t++x.b).length≤9600:=by
 have e:=(Itm.enc h).1;unfold Itm.E at e;rw[fj,gU] at e;omega
theorem Itm.chk {x:Itm} (h:x.ok):aA Tryz.prog 9 [x.v] [] (.I 0) []:=by
 cases x with
 | rg k a b s=>exact jy h.1 h.2
 | ar k a b l=>exact qC
 | sc M D S st=>exact qd
 | ct R C k a b T l=>exact qw
 | sm K P C T X=>exact qg
theorem Cy {t:Nat} {M:List Bool} (ht:t<8):numOf (((bT t++M).drop 4).take 3)=t:=by
 unfold bT;rw[akl,List.drop_left' (aj _ _),alo (aj _ _),ba,akG zo]
theorem Itm.uni {x y:Itm} (hx:x.ok) (hy:y.ok) {R1 R2:List Bool} (e:bT x.t++(x.b++R1)=bT y.t++(y.b++R2)):x=y:=by
 have ht:x.t=y.t:=by
  have h1:=Cy (M:=x.b++R1) x.t_lt;rw[e,Cy y.t_lt] at h1;exact h1.symm
 have hgd:∀{k a b:Nat},aX k a b→k≤1048575∧a≤1048575∧b≤1048575:=fun{k a b} h=>by rcases h with h | h | h | h<;>omega
 cases x<;>cases y<;>first | (simp[Itm.t] at ht;done) | skip
 case rg.rg k a b s k' a' b' s'=>
  obtain ⟨h1,h2,h3⟩:=hgd hx.1;obtain ⟨h1',h2',h3'⟩:=hgd hy.1;simp only[Itm.t,Itm.b,akl] at e;have p:=jI (A:=bT 1) (T:=dr k a b s++R1) h1 h2 h3;rw[e,jI h1' h2' h3'] at p;simp only[Prod.mk.injEq] at p;obtain ⟨⟨e1,e2,e3⟩,-⟩:=p;obtain rfl:k'=k:=by omega
  obtain rfl:a'=a:=by omega
  obtain rfl:b'=b:=by omega
  have r:=jE (A:=bT 1++cu [k',a',b']) (R:=R1) hx.1 hx.2;have r':=jE (A:=bT 1++cu [k',a',b']) (R:=R2) hy.1 hy.2;simp only[akl] at r r';rw[e,r'] at r;simp only[Prod.mk.injEq,Option.some.injEq] at r;rw[r.1]
 case ar.ar k a b l k' a' b' l'=>
  obtain ⟨h1,h2,h3⟩:=hgd hx.1;obtain ⟨h1',h2',h3'⟩:=hgd hy.1;have n1:=hx.2.1;have n2:=hy.2.1
  have g4:∀k a b n,cu [k,a,b,n]=cu [k,a,b]++ay (n+1):=fun k a b n=>by
   have g1:cu [n]=ay (n+1):=by simp[cu]
   rw[←g1];exact Dp [k,a,b] [n]
  simp only[Itm.t,Itm.b,g4,rB,akl] at e;have p:=jI (A:=bT 2) (T:=ay (l.length+1)++(l.flatMap (dr k a b)++R1)) h1 h2 h3;rw[e,jI h1' h2' h3'] at p;simp only[Prod.mk.injEq] at p;obtain ⟨⟨e1,e2,e3⟩,-⟩:=p;obtain rfl:k'=k:=by omega
  obtain rfl:a'=a:=by omega
  obtain rfl:b'=b:=by omega
  have q:=bG (A:=bT 2++cu [k',a',b']) (T:=l.flatMap (dr k' a' b')++R1) (n:=l.length) zo;have q':=bG (A:=bT 2++cu [k',a',b']) (T:=l'.flatMap (dr k' a' b')++R2) (n:=l'.length) zo;simp only[akl] at q q';rw[e,q'] at q;simp only[Prod.mk.injEq] at q;have hn:l.length=l'.length:=by omega
  have r:=nQ (R:=R1) hx.1 l (bT 2++cu [k',a',b']++ay (l.length+1)) hx.2.2;have r':=nQ (R:=R2) hy.1 l' (bT 2++cu [k',a',b']++ay (l'.length+1)) hy.2.2;rw[←hn] at r' e;simp only[akl] at r r';rw[e,r'] at r;simp only[Prod.mk.injEq,Option.some.injEq] at r;rw[r.1]
 case sc.sc M D S st M' D' S' st'=>
  obtain ⟨hg,hn,ho⟩:=hx;obtain ⟨hg',hn',ho'⟩:=hy;obtain ⟨⟨a1,a2⟩,⟨a3,a4⟩,a5,a6⟩:=hg;obtain ⟨⟨b1,b2⟩,⟨b3,b4⟩,b5,b6⟩:=hg';have gg:∀M D S n:Nat,cu [M,D,S,n]=ay (M+1)++(ay (D+1)++(ay (S+1)++ay (n+1))):=fun M D S n=>by simp[cu]
  simp only[Itm.t,Itm.b,gg,akl] at e;have p1:=bG (A:=bT 3) (T:=ay (D+1)++(ay (S+1)++(ay (st.1.length+1)++(eC M D st++R1)))) (n:=M) zo;rw[e,bG zo] at p1;simp only[Prod.mk.injEq] at p1;obtain rfl:M'=M:=by omega
  have p2:=bG (A:=bT 3++ay (M'+1)) (T:=ay (S+1)++(ay (st.1.length+1)++(eC M' D st++R1))) (n:=D) zo;have p2':=bG (A:=bT 3++ay (M'+1)) (T:=ay (S'+1)++(ay (st'.1.length+1)++(eC M' D' st'++R2))) (n:=D') zo;simp only[akl] at p2 p2';rw[e,p2'] at p2;simp only[Prod.mk.injEq] at p2;obtain rfl:D'=D:=by omega
  have p3:=bG (A:=bT 3++ay (M'+1)++ay (D'+1)) (T:=ay (st.1.length+1)++(eC M' D' st++R1)) (n:=S) zo;have p3':=bG (A:=bT 3++ay (M'+1)++ay (D'+1)) (T:=ay (st'.1.length+1)++(eC M' D' st'++R2)) (n:=S') zo;simp only[akl] at p3 p3';rw[e,p3'] at p3;simp only[Prod.mk.injEq] at p3;obtain rfl:S'=S:=by omega
  have p4:=bG (A:=bT 3++ay (M'+1)++ay (D'+1)++ay (S'+1)) (T:=eC M' D' st++R1) (n:=st.1.length) zo;have p4':=bG (A:=bT 3++ay (M'+1)++ay (D'+1)++ay (S'+1)) (T:=eC M' D' st'++R2) (n:=st'.1.length) zo;simp only[akl] at p4 p4';rw[e,p4'] at p4;simp only[Prod.mk.injEq] at p4;have hl:st'.1.length=st.1.length:=by omega
  have r:=xT (A:=bT 3++ay (M'+1)++ay (D'+1)++ay (S'+1)++ay (st.1.length+1)) (R:=R1) zo ho;have r':=xT (A:=bT 3++ay (M'+1)++ay (D'+1)++ay (S'+1)++ay (st'.1.length+1)) (R:=R2) zo ho';rw[hl] at r' e;simp only[akl] at r r';rw[e,r'] at r;simp only[Prod.mk.injEq,Option.some.injEq] at r;rw[r.1]
 case ct.ct R C k a b T l R' C' k' a' b' T' l'=>
  obtain ⟨hg,hC,hR,hl,hT,hw⟩:=hx;obtain ⟨hg',hC',hR',hl',hT',hw'⟩:=hy;obtain ⟨h1,h2,h3⟩:=hgd hg;obtain ⟨h1',h2',h3'⟩:=hgd hg';have g5:∀R C k a b:Nat,cu [R,C,k,a,b]=ay (R+1)++(ay (C+1)++cu [k,a,b]):=fun R C k a b=>by simp[cu]
  simp only[Itm.t,Itm.b,g5,akl] at e;have p1:=bG (A:=bT 4) (T:=ay (C+1)++(cu [k,a,b]++(pW k a b l T++R1))) (n:=R) zo;rw[e,bG zo] at p1;simp only[Prod.mk.injEq] at p1;obtain rfl:R'=R:=by omega
  have p2:=bG (A:=bT 4++ay (R'+1)) (T:=cu [k,a,b]++(pW k a b l T++R1)) (n:=C) zo;have p2':=bG (A:=bT 4++ay (R'+1)) (T:=cu [k',a',b']++(pW k' a' b' l' T'++R2)) (n:=C') zo;simp only[akl] at p2 p2';rw[e,p2'] at p2;simp only[Prod.mk.injEq] at p2;obtain rfl:C'=C:=by omega
  have p3:=jI (A:=bT 4++ay (R'+1)++ay (C'+1)) (T:=pW k a b l T++R1) h1 h2 h3;have p3':=jI (A:=bT 4++ay (R'+1)++ay (C'+1)) (T:=pW k' a' b' l' T'++R2) h1' h2' h3';simp only[akl] at p3 p3';rw[e,p3'] at p3;simp only[Prod.mk.injEq] at p3;obtain ⟨⟨e1,e2,e3⟩,-⟩:=p3;obtain rfl:k'=k:=by omega
  obtain rfl:a'=a:=by omega
  obtain rfl:b'=b:=by omega
  have r:=xB (A:=bT 4++ay (R'+1)++ay (C'+1)++cu [k',a',b']) (R:=R1) hg hT hw;have r':=xB (A:=bT 4++ay (R'+1)++ay (C'+1)++cu [k',a',b']) (R:=R2) hg' hT' hw';rw[hl] at r;rw[hl'] at r';simp only[akl] at r r';rw[e,r'] at r;simp only[Prod.mk.injEq,Option.some.injEq] at r;rw[r.1.1,r.1.2]
 case sm.sm K P C T X K' P' C' T' X'=>
  obtain ⟨⟨hKP,hC1,hC2⟩,ho⟩:=hx;obtain ⟨⟨hKP',hC1',hC2'⟩,ho'⟩:=hy;have g3:∀K P C:Nat,cu [K,P,C]=ay (K+1)++(ay (P+1)++ay (C+1)):=fun K P C=>by simp[cu]
  simp only[Itm.t,Itm.b,g3,akl] at e;have p1:=bG (A:=bT 5) (T:=ay (P+1)++(ay (C+1)++(eG X T++R1))) (n:=K) zo;rw[e,bG zo] at p1;simp only[Prod.mk.injEq] at p1;obtain rfl:K'=K:=by omega
  have p2:=bG (A:=bT 5++ay (K'+1)) (T:=ay (C+1)++(eG X T++R1)) (n:=P) zo;have p2':=bG (A:=bT 5++ay (K'+1)) (T:=ay (C'+1)++(eG X' T'++R2)) (n:=P') zo;simp only[akl] at p2 p2';rw[e,p2'] at p2;simp only[Prod.mk.injEq] at p2;obtain rfl:P'=P:=by omega
  have p3:=bG (A:=bT 5++ay (K'+1)++ay (P'+1)) (T:=eG X T++R1) (n:=C) zo;have p3':=bG (A:=bT 5++ay (K'+1)++ay (P'+1)) (T:=eG X' T'++R2) (n:=C') zo;simp only[akl] at p3 p3';rw[e,p3'] at p3;simp only[Prod.mk.injEq] at p3;obtain rfl:C'=C:=by omega
  have r:=y6 (A:=bT 5++ay (K'+1)++ay (P'+1)++ay (C'+1)) (R:=R1) ho;have r':=y6 (A:=bT 5++ay (K'+1)++ay (P'+1)++ay (C'+1)) (R:=R2) ho';simp only[akl] at r r';rw[e,r'] at r;simp only[Prod.mk.injEq,Option.some.injEq] at r;rw[r.1.1,r.1.2]
theorem Itm.bits {x:Itm} (h:x.ok):bitsOf (nl (aO x.E))=bT x.t++(x.b++Gh (bT x.t++x.b)):=(tu x.t_lt (Itm.len h)).2.2.2.2.2.1
theorem Itm.E_inj {x y:Itm} (hx:x.ok) (hy:y.ok) (e:nl x.E=nl y.E):x=y:=by
 have e:=mU.1 e;have h1:=Itm.bits hx;rw[e,Itm.bits hy] at h1;exact(Itm.uni hy hx h1).symm
theorem Itm.same {x y:Itm} (hx:x.ok) (hy:y.ok):aA Tryz.prog 13 [x.v,y.v] [] (.lit (.bool (decide (nl x.E=nl y.E)))) []:=by
 have hi:=Itm.E_inj hx hy
 cases x with
 | rg k a b s=>
   cases y with
   | rg k' a' b' s'=>
     rw[show decide (nl (Itm.rg k a b s).E=nl (Itm.rg k' a' b' s').E)=decide (k=k'∧a=a'∧b=b'∧s=s') from decide_eq_decide.2 ⟨fun h=>by cases hi h;exact⟨rfl,rfl,rfl,rfl⟩,fun h=>by obtain ⟨rfl,rfl,rfl,rfl⟩:=h;rfl⟩];exact ED hx.1 hx.2 hy.1 hy.2
   | ar _ _ _ _=>rw[akg fun h=>by cases hi h];exact bA (t:=1) (u:=2) zd rfl rfl
   | sc _ _ _ _=>rw[akg fun h=>by cases hi h];exact bA (t:=1) (u:=3) zd rfl rfl
   | ct _ _ _ _ _ _ _=>rw[akg fun h=>by cases hi h];exact bA (t:=1) (u:=4) zd rfl rfl
   | sm _ _ _ _ _=>rw[akg fun h=>by cases hi h];exact bA (t:=1) (u:=5) zd rfl rfl
 | ar k a b l=>
   cases y with
   | ar k' a' b' l'=>
     rw[show decide (nl (Itm.ar k a b l).E=nl (Itm.ar k' a' b' l').E)=decide (k=k'∧a=a'∧b=b'∧l=l') from decide_eq_decide.2 ⟨fun h=>by cases hi h;exact⟨rfl,rfl,rfl,rfl⟩,fun h=>by obtain ⟨rfl,rfl,rfl,rfl⟩:=h;rfl⟩];exact FQ hx.1 hx.2.1.2 rfl rfl hx.2.2 hy.2.2
   | rg _ _ _ _=>rw[akg fun h=>by cases hi h];exact bA (t:=2) (u:=1) zd rfl rfl
   | sc _ _ _ _=>rw[akg fun h=>by cases hi h];exact bA (t:=2) (u:=3) zd rfl rfl
   | ct _ _ _ _ _ _ _=>rw[akg fun h=>by cases hi h];exact bA (t:=2) (u:=4) zd rfl rfl
   | sm _ _ _ _ _=>rw[akg fun h=>by cases hi h];exact bA (t:=2) (u:=5) zd rfl rfl
 | sc M D S st=>
   cases y with
   | sc M' D' S' st'=>
     rw[show decide (nl (Itm.sc M D S st).E=nl (Itm.sc M' D' S' st').E)=decide (M=M'∧D=D'∧S=S'∧st=st') from decide_eq_decide.2 ⟨fun h=>by cases hi h;exact⟨rfl,rfl,rfl,rfl⟩,fun h=>by obtain ⟨rfl,rfl,rfl,rfl⟩:=h;rfl⟩];exact Ew hx.2.1.2 hy.2.1.2
   | rg _ _ _ _=>rw[akg fun h=>by cases hi h];exact bA (t:=3) (u:=1) zd rfl rfl
   | ar _ _ _ _=>rw[akg fun h=>by cases hi h];exact bA (t:=3) (u:=2) zd rfl rfl
   | ct _ _ _ _ _ _ _=>rw[akg fun h=>by cases hi h];exact bA (t:=3) (u:=4) zd rfl rfl
   | sm _ _ _ _ _=>rw[akg fun h=>by cases hi h];exact bA (t:=3) (u:=5) zd rfl rfl
 | ct R C k a b T l=>
   cases y with
   | ct R' C' k' a' b' T' l'=>
     rw[show decide (nl (Itm.ct R C k a b T l).E=nl (Itm.ct R' C' k' a' b' T' l').E)=decide (R=R'∧C=C'∧k=k'∧a=a'∧b=b'∧l=l'∧T=T') from decide_eq_decide.2 ⟨fun h=>by cases hi h;exact⟨rfl,rfl,rfl,rfl,rfl,rfl,rfl⟩,fun h=>by obtain ⟨rfl,rfl,rfl,rfl,rfl,rfl,rfl⟩:=h;rfl⟩];obtain ⟨hg,hC,hR,hl,hT,hw⟩:=hx;obtain ⟨hg',hC',hR',hl',hT',hw'⟩:=hy;exact ET hg zo hl hl' zo zo hw hw'
   | rg _ _ _ _=>rw[akg fun h=>by cases hi h];exact bA (t:=4) (u:=1) zd rfl rfl
   | ar _ _ _ _=>rw[akg fun h=>by cases hi h];exact bA (t:=4) (u:=2) zd rfl rfl
   | sc _ _ _ _=>rw[akg fun h=>by cases hi h];exact bA (t:=4) (u:=3) zd rfl rfl
   | sm _ _ _ _ _=>rw[akg fun h=>by cases hi h];exact bA (t:=4) (u:=5) zd rfl rfl
 | sm K P C T X=>
   cases y with
   | sm K' P' C' T' X'=>
     rw[show decide (nl (Itm.sm K P C T X).E=nl (Itm.sm K' P' C' T' X').E)=decide (K=K'∧P=P'∧C=C'∧X=X'∧T=T') from decide_eq_decide.2 ⟨fun h=>by cases hi h;exact⟨rfl,rfl,rfl,rfl,rfl⟩,fun h=>by obtain ⟨rfl,rfl,rfl,rfl,rfl⟩:=h;rfl⟩];obtain ⟨⟨hKP,hC1,hC2⟩,k1,k2,k3,k4⟩:=hx;obtain ⟨⟨hKP',hC1',hC2'⟩,k1',k2',k3',k4'⟩:=hy;exact EA zo zo
   | rg _ _ _ _=>rw[akg fun h=>by cases hi h];exact bA (t:=5) (u:=1) zd rfl rfl
   | ar _ _ _ _=>rw[akg fun h=>by cases hi h];exact bA (t:=5) (u:=2) zd rfl rfl
   | sc _ _ _ _=>rw[akg fun h=>by cases hi h];exact bA (t:=5) (u:=3) zd rfl rfl
   | ct _ _ _ _ _ _ _=>rw[akg fun h=>by cases hi h];exact bA (t:=5) (u:=4) zd rfl rfl
theorem Itm.parts {x:Itm}:∃c1 c2 c3 c4 c5 c6 c7 c8 c9 c10:V,x.v=.agg [.I (x.t:Int),c1,c2,c3,c4,c5,c6,c7,c8,c9,c10]∧lB.plnL [.I (x.t:Int),c1,c2,c3,c4,c5,c6,c7,c8,c9,c10]=true:=by
 cases x<;>exact⟨_,_,_,_,_,_,_,_,_,_,rfl,rfl⟩
abbrev ZS:=List (Nat×Nat)×Nat×Nat×Bool
def w6 (L:List Bool) (n i:Nat) (x:ZS):Prop:=Xw n x.1 x.2.1∧x.2.1≤i∧(x.2.2.2=true→1≤x.2.1)∧x.2.2.1≤L.length
def Eu (G:Nat→ZS→Int×ZS):List Nat→ZS→ZS
 | [],x=>x
 | k::ks,x=>Eu G ks (G (k%7) x).2
theorem CR {G:Nat→ZS→Int×ZS} {x:ZS}:Eu G [] x=x:=rfl
theorem rz {G:Nat→ZS→Int×ZS} {k:Nat} {ks:List Nat} {x:ZS}:Eu G (k::ks) x=Eu G ks (G (k%7) x).2:=rfl
theorem Cg {L:List Bool} {n:Nat} {G:Nat→ZS→Int×ZS} (hG:∀(k i:Nat) x,k≤1000→i≤900→w6 L n i x→w6 L n (i+1) (G k x).2):∀ks i x,i+ks.length≤900→w6 L n i x→w6 L n (i+ks.length) (Eu G ks x)
 | [],i,x,_,h=>h
 | k::ks,i,x,hl,h=>by
   rw[rz,akm,show i+(ks.length+1)=(i+1)+ks.length by omega];rw[akm] at hl;exact Cg hG ks (i+1) _ zo (hG _ i x zo zo h)
set_option maxHeartbeats 8000000 in
theorem K4 {Kd kk aa bb:Int} {S:List (Int×Int×Bool)} {M D Sc R C ck ca cb:Int} {W Ky:List Nat} {L0:List Bool} (ht:(Kd.tmod 5+5)%5=4) (hS:S.length≤9223372036854775807) (hL0:L0.length≤9223372036854775807) (hKy:Ky.length≤9223372036854775807) (hky:∀x∈Ky,x<18446744073709551616):
 ∃(K P n T:Nat) (X:List (Nat×Nat)),mz (K:Int) (P:Int) (n:Int)∧n≤5∧P≤4∧Xw n X T∧T≤12∧aA Tryz.prog 8 [.agg (Ms Kd kk aa bb S M D Sc R C ck ca cb W Ky L0)] [] (.tup [Yl 0,.lit (.bool true)]) [some (oH (K:Int) (P:Int) (n:Int) X T)]:=by
 obtain ⟨k,a,b,hsm,hs⟩:=gb (kk:=kk) (aa:=aa) (bb:=bb);have hg:=eR hsm;have h0:=hs (0,0,false);dsimp only at h0;have hL1:(L0.take 300).length≤300:=by rw[List.length_take];omega
 have nt:=oh (L:=L0.take 300) zo;have hns:¬300<L0.length→L0.take 300=L0:=fun h=>aku zo;generalize hL:L0.take 300=L at*
 have t1: -5<Kd.tmod 5:=by have:=amF Kd (b:=5) zd;omega
 have t2:Kd.tmod 5<5:=amf Kd zd;have hkw:IntKind.i64.wrap (Kd.tmod 5+5)=Kd.tmod 5+5:=wrap_i64 ⟨by omega,by omega⟩;have m1:bS .and .i64 aa 1=aa%2:=eB (k:=.i64) (j:=1) (a:=aa) zd;have m2:bS .and .i64 bb 3=bb%4:=eB (k:=.i64) (j:=2) (a:=bb) zd;obtain ⟨n,hn⟩:∃n,1+S.length%5=n:=⟨_,rfl⟩;have hS6:(1:Int)+(S.length:Int)%5=(n:Int):=by omega
 have fw:=rQ hKy;have hKt:(Ky.take 12).length≤12:=by rw[akr];omega
 have hKl:=av (Ky.take 12);generalize Ky.take 12=Kt at*
 by_cases hA:aa%2=0
 · obtain ⟨P,hP⟩:∃P:Nat,1+bb%4=(P:Int):=⟨(1+bb%4).toNat,by omega⟩
   have nw:=rM (K:=1) (P:=(P:Int)) (C:=n) ⟨.inl ⟨rfl,by omega,by omega⟩,by omega,by omega⟩
   obtain ⟨G,hG⟩:∃G:Nat→ZS→Int×ZS,∀(k i:Nat) x,k≤1000→i≤900→w6 L n i x→w6 L n (i+1) (G k x).2∧
    aA Tryz.prog 20 [.ref 0 0 0 0,.ref 1 0 0 0,.lit (.int .u64 k)] [some (oH 1 (P:Int) (n:Int) x.1 x.2.1),some (bm L x.2.2.1 x.2.2.2)] (.I (G k x).1) [some (oH 1 (P:Int) (n:Int) (G k x).2.1 (G k x).2.2.1),some (bm L (G k x).2.2.2.1 (G k x).2.2.2.2)]:=by
    have h:∀(k:Nat) (x:ZS),∃y:Int×ZS,∀i,k≤1000→i≤900→w6 L n i x→w6 L n (i+1) y.2∧
     aA Tryz.prog 20 [.ref 0 0 0 0,.ref 1 0 0 0,.lit (.int .u64 k)] [some (oH 1 (P:Int) (n:Int) x.1 x.2.1),some (bm L x.2.2.1 x.2.2.2)] (.I y.1) [some (oH 1 (P:Int) (n:Int) y.2.1 y.2.2.1),some (bm L y.2.2.2.1 y.2.2.2.2)]:=by
     intro k x
     by_cases h:k≤1000∧w6 L n 900 x
     · obtain ⟨h1,h2,h3,h4,h5⟩:=h
       obtain ⟨e,X',N',q,d',a1,a2,a3,a4,a5⟩:=CD (K:=1) (P:=(P:Int)) (d:=x.2.2.2) (key:=k) zo h2 zo zo h4 zo h5;exact⟨(e,X',N',q,d'),fun i _ _ ho=>⟨⟨a1,by have:=ho.2.1;dsimp only;omega,a3,a4⟩,a5⟩⟩
     · exact⟨(0,x),fun i h1 h2 h3=>absurd ⟨h1,h3.1,by have:=h3.2.1;omega,h3.2.2⟩ h⟩
    exact⟨fun k x=>Classical.choose (h k x),fun k i x=>Classical.choose_spec (h k x) i⟩
   obtain ⟨z0,hz⟩:∃z:List (Nat×Nat),z=List.replicate n (0,0):=⟨_,rfl⟩;have hzl:z0.length=n:=by rw[hz,akB]
   have hx0:w6 L n 0 (z0,0,0,false):=by rw[hz];exact⟨DF,akk _,fun h=>(by cases h),akF _⟩
   have hfin:=Cg (fun k i x h1 h2 h3=>(hG k i x h1 h2 h3).1) Kt 0 _ zo hx0;have hf2:=hfin.2.1;refine⟨1,P,n,(Eu G Kt (z0,0,0,false)).2.1,(Eu G Kt (z0,0,0,false)).1,⟨.inl ⟨rfl,by omega,by omega⟩,by omega,by omega⟩,by omega,by omega,hfin.1,by omega,?_⟩;have hn5:1≤n∧n≤5:=by omega
   clear hfin hn hf2;rw[←hz] at nw;clear hz;subst hzl;change aA _ _ _ _ _ [some (oH 1 (P:Int) (z0.length:Int) _ _)];refine zF LG Tryz.call8 Tryz.func8 [.cell 2 42,.tmp 3] fun Q hQ=>?_
   by_cases h1:300<L0.length
   case' pos=>
    refine Gb hL ?_
   case' neg=>
    have hLL:=hns h1;subst hLL;refine ae ?_
   all_goals
    refine aF [] [] (nt) ?_;refine eo hkw ht ?_;refine aC (h0) rfl rfl ?_;refine eo hkw ht ?_
    by_cases h2:0<S.length
    case' pos=>
     obtain ⟨⟨s1,s2,s3⟩,ea⟩:∃x,S.getD 0 default=x:=⟨_,rfl⟩;have h3:=hs (s1,s2,s3);dsimp only at h3;generalize wi k a b (s1,s2,s3)=r at*
     generalize wi k a b (0,0,false)=r0 at*
     refine bg ea ?_;refine aC (h3) rfl rfl ?_;refine Yq ht m1 m2 hA hP hS6 ?_
    case' neg=>
     generalize wi k a b (0,0,false)=r at*
     refine Yq ht m1 m2 hA hP hS6 ?_
    all_goals
     refine dk (nw) ?_;refine ae ?_;refine zC fw ?_
     refine aU (X:=Nat×ZS) (st:=fun z=>([(2,.ref 0 0 0 0),(5,.ref 1 0 0 0),(6,.ref 2 0 0 0),(9,.lit (.bool true)),(19,.ref 3 0 0 0),(96,.row 1 ((nl Kt).map (ie .u64))),(97,.I Kt.length),(98,.I z.1)],
      [some (.cells [.I 0,.I 0,.I 0,.I 0,.I 0,.I 0,.lit (.bool false),.lit (.pointer none),.lit (.pointer none),.lit (.pointer none),.lit (.pointer none)]),some (bm L z.2.2.2.1 z.2.2.2.2),some (.cells [.I (1+4),.I 0,.I 0,.I 0,.I 0,.I 0,.lit (.bool false),.lit (.pointer none),.lit (.pointer none),.lit (.pointer none),.lit (.pointer none)]),some (oH 1 (P:Int) (z0.length:Int) z.2.1 z.2.2.1)]))
      (inv:=fun z=>z.1≤Kt.length∧w6 L z0.length z.1 z.2∧Eu G Kt (z0,0,0,false)=Eu G (Kt.drop z.1) z.2) (m:=fun z=>Kt.length-z.1) (0,z0,0,0,false) [some 1,some 2,some 3,some 7] ⟨akF _,hx0,by rw[akv]⟩ ?_
     rintro ⟨i,X,N,p,d⟩ ⟨hi,hz,hv⟩;dsimp only at hi hz hv ⊢
     by_cases hil:i<Kt.length
     · have hdr:Kt.drop i=Kt.getD i 0::Kt.drop (i+1):=by
        rw[ak3 hil,akf,akh hil]
        rfl
       rw[hdr,rz] at hv;have hkey:(nl Kt).getD i 0=((Kt.getD i 0:Nat):Int):=bt Kt i;generalize Kt.getD i 0=key at*
       have gg:=hG (key%7) i (X,N,p,d) zo zo hz;have e2:((key:Nat):Int)%7=((key%7:Nat):Int):=by omega
       generalize hgx:G (key%7) (X,N,p,d)=gx at*
       obtain ⟨e,X',N',q,d'⟩:=gx;dsimp only at gg;refine eo hkey e2 ?_;refine zW [some 3,some 1] [] gg.2 ?_;refine aR (i+1,X',N',q,d') [some 0,some 1,some 2,some 3] ⟨by omega,gg.1,hv⟩ zo
     · obtain rfl:i=Kt.length:=by omega
       rw[amA,CR] at hv;rw[hv] at hQ;exact zE [some 3] hQ
 · have hA2:aa%2=1:=by omega
   have nw:=rM (K:=2) (P:=0) (C:=n) ⟨.inr ⟨rfl,rfl⟩,by omega,by omega⟩
   obtain ⟨G,hG⟩:∃G:Nat→ZS→Int×ZS,∀(k i:Nat) x,k≤1000→i≤900→w6 L n i x→w6 L n (i+1) (G k x).2∧
    aA Tryz.prog 20 [.ref 0 0 0 0,.ref 1 0 0 0,.lit (.int .u64 k)] [some (oH 2 0 (n:Int) x.1 x.2.1),some (bm L x.2.2.1 x.2.2.2)] (.I (G k x).1) [some (oH 2 0 (n:Int) (G k x).2.1 (G k x).2.2.1),some (bm L (G k x).2.2.2.1 (G k x).2.2.2.2)]:=by
    have h:∀(k:Nat) (x:ZS),∃y:Int×ZS,∀i,k≤1000→i≤900→w6 L n i x→w6 L n (i+1) y.2∧
     aA Tryz.prog 20 [.ref 0 0 0 0,.ref 1 0 0 0,.lit (.int .u64 k)] [some (oH 2 0 (n:Int) x.1 x.2.1),some (bm L x.2.2.1 x.2.2.2)] (.I y.1) [some (oH 2 0 (n:Int) y.2.1 y.2.2.1),some (bm L y.2.2.2.1 y.2.2.2.2)]:=by
     intro k x
     by_cases h:k≤1000∧w6 L n 900 x
     · obtain ⟨h1,h2,h3,h4,h5⟩:=h
       obtain ⟨e,X',N',q,d',a1,a2,a3,a4,a5⟩:=CD (K:=2) (P:=0) (d:=x.2.2.2) (key:=k) zo h2 zo zo h4 zo h5;exact⟨(e,X',N',q,d'),fun i _ _ ho=>⟨⟨a1,by have:=ho.2.1;dsimp only;omega,a3,a4⟩,a5⟩⟩
     · exact⟨(0,x),fun i h1 h2 h3=>absurd ⟨h1,h3.1,by have:=h3.2.1;omega,h3.2.2⟩ h⟩
    exact⟨fun k x=>Classical.choose (h k x),fun k i x=>Classical.choose_spec (h k x) i⟩
   obtain ⟨z0,hz⟩:∃z:List (Nat×Nat),z=List.replicate n (0,0):=⟨_,rfl⟩;have hzl:z0.length=n:=by rw[hz,akB]
   have hx0:w6 L n 0 (z0,0,0,false):=by rw[hz];exact⟨DF,akk _,fun h=>(by cases h),akF _⟩
   have hfin:=Cg (fun k i x h1 h2 h3=>(hG k i x h1 h2 h3).1) Kt 0 _ zo hx0;have hf2:=hfin.2.1;refine⟨2,0,n,(Eu G Kt (z0,0,0,false)).2.1,(Eu G Kt (z0,0,0,false)).1,⟨.inr ⟨rfl,rfl⟩,by omega,by omega⟩,by omega,by omega,hfin.1,by omega,?_⟩;have hn5:1≤n∧n≤5:=by omega
   clear hfin hn hf2;rw[←hz] at nw;clear hz;subst hzl;change aA _ _ _ _ _ [some (oH 2 0 (z0.length:Int) _ _)];refine zF LG Tryz.call8 Tryz.func8 [.cell 2 42,.tmp 3] fun Q hQ=>?_
   by_cases h1:300<L0.length
   case' pos=>
    refine Gb hL ?_
   case' neg=>
    have hLL:=hns h1;subst hLL;refine ae ?_
   all_goals
    refine aF [] [] (nt) ?_;refine eo hkw ht ?_;refine aC (h0) rfl rfl ?_;refine eo hkw ht ?_
    by_cases h2:0<S.length
    case' pos=>
     obtain ⟨⟨s1,s2,s3⟩,ea⟩:∃x,S.getD 0 default=x:=⟨_,rfl⟩;have h3:=hs (s1,s2,s3);dsimp only at h3;generalize wi k a b (s1,s2,s3)=r at*
     generalize wi k a b (0,0,false)=r0 at*
     refine bg ea ?_;refine aC (h3) rfl rfl ?_;refine Mi ht m1 m2 hA2 hS6 (show(1:Int)+1=2 from rfl) ?_
    case' neg=>
     generalize wi k a b (0,0,false)=r at*
     refine Mi ht m1 m2 hA2 hS6 (show(1:Int)+1=2 from rfl) ?_
    all_goals
     refine dk (nw) ?_;refine ae ?_;refine zC fw ?_
     refine aU (X:=Nat×ZS) (st:=fun z=>([(2,.ref 0 0 0 0),(5,.ref 1 0 0 0),(6,.ref 2 0 0 0),(9,.lit (.bool true)),(19,.ref 3 0 0 0),(96,.row 1 ((nl Kt).map (ie .u64))),(97,.I Kt.length),(98,.I z.1)],
      [some (.cells [.I 0,.I 0,.I 0,.I 0,.I 0,.I 0,.lit (.bool false),.lit (.pointer none),.lit (.pointer none),.lit (.pointer none),.lit (.pointer none)]),some (bm L z.2.2.2.1 z.2.2.2.2),some (.cells [.I (1+4),.I 0,.I 0,.I 0,.I 0,.I 0,.lit (.bool false),.lit (.pointer none),.lit (.pointer none),.lit (.pointer none),.lit (.pointer none)]),some (oH 2 0 (z0.length:Int) z.2.1 z.2.2.1)]))
      (inv:=fun z=>z.1≤Kt.length∧w6 L z0.length z.1 z.2∧Eu G Kt (z0,0,0,false)=Eu G (Kt.drop z.1) z.2) (m:=fun z=>Kt.length-z.1) (0,z0,0,0,false) [some 1,some 2,some 3,some 7] ⟨akF _,hx0,by rw[akv]⟩ ?_
     rintro ⟨i,X,N,p,d⟩ ⟨hi,hz,hv⟩;dsimp only at hi hz hv ⊢
     by_cases hil:i<Kt.length
     · have hdr:Kt.drop i=Kt.getD i 0::Kt.drop (i+1):=by
        rw[ak3 hil,akf,akh hil]
        rfl
       rw[hdr,rz] at hv;have hkey:(nl Kt).getD i 0=((Kt.getD i 0:Nat):Int):=bt Kt i;generalize Kt.getD i 0=key at*
       have gg:=hG (key%7) i (X,N,p,d) zo zo hz;have e2:((key:Nat):Int)%7=((key%7:Nat):Int):=by omega
       generalize hgx:G (key%7) (X,N,p,d)=gx at*
       obtain ⟨e,X',N',q,d'⟩:=gx;dsimp only at gg;refine eo hkey e2 ?_;refine zW [some 3,some 1] [] gg.2 ?_;refine aR (i+1,X',N',q,d') [some 0,some 1,some 2,some 3] ⟨by omega,gg.1,hv⟩ zo
     · obtain rfl:i=Kt.length:=by omega
       rw[amA,CR] at hv;rw[hv] at hQ;exact zE [some 3] hQ
end Go.Proofs.YtcnlmelpnflhnaaGreat
