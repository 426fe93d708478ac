import Derived.Test.YtcnlmelpnflhnaaGreatBl
namespace Go.Proofs.YtcnlmelpnflhnaaGreat
open Go.Eng Go.Vx
set_option linter.unusedSimpArgs false
set_option linter.unusedVariables false
set_option maxRecDepth 100000
inductive Itm
 | rg (k a b:Nat) (s:SR)
 | ar (k a b:Nat) (l:List SR)
 | sc (M D S:Nat) (st:SS)
 | ct (R C k a b T:Nat) (l:List RW)
 | sm (K P C T:Nat) (X:List (Nat×Nat))
def Itm.v:Itm→V
 | .rg k a b s=>uw k a b s
 | .ar k a b l=>jz k a b l.length l
 | .sc M D S st=>l6 M D S st
 | .ct R C k a b T l=>dP R C k a b l T
 | .sm K P C T X=>lW K P C X T
def Itm.t:Itm→Nat
 | .rg .. =>1
 | .ar .. =>2
 | .sc .. =>3
 | .ct .. =>4
 | .sm .. =>5
def Itm.b:Itm→List Bool
 | .rg k a b s=>bj [k,a,b]++cD k a b s
 | .ar k a b l=>bj [k,a,b,l.length]++cX (wd k a b) (l.map (fj k a b))
 | .sc M D S st=>bj [M,D,S,st.1.length]++ey M D st
 | .ct R C k a b T l=>bj [R,C,k,a,b]++nX k a b l T
 | .sm K P C T X=>bj [K,P,C]++eE X T
def Itm.E (x:Itm):List Nat:=bV (iF (bc x.t++x.b))
def Itm.ok:Itm→Prop
 | .rg k a b s=>aL k a b∧aP k a b s
 | .ar k a b l=>aL k a b∧(1≤l.length∧l.length≤256)∧∀s∈l,aP k a b s
 | .sc M D S st=>tQ M D S∧(1≤st.1.length∧st.1.length≤256)∧okS M D S st.1.length st
 | .ct R C k a b T l=>aL k a b∧(1≤C∧C≤64)∧(1≤R∧R≤4)∧l.length=R∧T≤1099511627776∧∀r∈l,bC k a b C r
 | .sm K P C T X=>rF (K:Int) (P:Int) (C:Int)∧okA C X T
theorem Itm.t_lt (x:Itm):x.t<8:=by cases x<;>simp[Itm.t]
theorem Itm.enc {x:Itm} (h:x.ok):n5 x.v x.E:=by
 cases x with
 | rg k a b s=>have e:=CK h.1 h.2;rw[ajq] at e;exact e
 | ar k a b l=>have e:=Cd h.1 h.2.1.2 rfl;rw[ajq] at e;exact e
 | sc M D S st=>
   obtain ⟨hg,hn,k1,k2,k3,k4,k5⟩:=h;obtain ⟨⟨a1,a2⟩,⟨a3,a4⟩,a5,a6⟩:=hg;have e:=CV (M:=M) (D:=D) (S:=S) (st:=st) zo zo zo zo (fun c hc=>⟨(k2 c hc).1,(k2 c hc).2.1⟩) ⟨k3,by omega⟩;rw[ajq] at e;exact e
 | ct R C k a b T l=>
   obtain ⟨hg,hC,hR,hl,hT,hw⟩:=h;have e:=C9 (R:=R) hg hC hR.2 zo hw hT;rw[ajq] at e;exact e
 | sm K P C T X=>
   obtain ⟨⟨hKP,hC1,hC2⟩,k1,k2,k3,k4⟩:=h;have e:=Cr (K:=K) (P:=P) (C:=C) (X:=X) (T:=T) zo zo zo zo (fun x hx=>⟨(k3 x hx).1,by have:=(k3 x hx).2;omega⟩) (k4.elim (fun h=>.inr h.2) (fun h=>.inl h.1)) k2;rw[ajq] at e;exact e
theorem Itm.len {x:Itm} (h:x.ok):(bc x.t++x.b).length≤9600:=by
 have e:=(Itm.enc h).1;unfold Itm.E at e;rw[g9,gJ] at e;omega
theorem Itm.dec {x:Itm} (h:x.ok):aA Tryz.prog 11 [.row 1 ((nl x.E).map (ie .u8))] [] (.tup [x.v,.lit (.int .i64 0)]) []:=by
 have hl:=Itm.len h
 cases x with
 | rg k a b s=>exact tN h.1 h.2
 | ar k a b l=>
   have hd:=tZ h.1 h.2.1 rfl h.2.2;unfold bg at hd;have hlw:=aq (aZ l.length (wd k a b)) (aV (wd k a b) (l.map (fj k a b)));exact(show aA _ _ _ _ (.tup [jz k a b l.length l,.lit (.int .i64 0)]) [] from kS [] (hd))
 | sc M D S st=>
   obtain ⟨hg,hn,ho⟩:=h;have ho':=ho;obtain ⟨k1,k2,k3,k4,k5⟩:=ho';have hg':=hg;obtain ⟨⟨a1,a2⟩,⟨a3,a4⟩,a5,a6⟩:=hg';have hd:=uf hg hn ho zo hl;exact(show aA _ _ _ _ (.tup [l6 M D S st,.lit (.int .i64 0)]) [] from kS [] (hd))
 | ct R C k a b T l=>
   obtain ⟨hg,hC,hR,hlr,hT,hw⟩:=h;have hd:=tG hg hC hR hlr hT hw hl;exact(show aA _ _ _ _ (.tup [dP R C k a b l T,.lit (.int .i64 0)]) [] from kS [] (hd))
 | sm K P C T X=>
   obtain ⟨hg,ho⟩:=h;have hd:=uM hg ho hl;exact(show aA _ _ _ _ (.tup [lW K P C X T,.lit (.int .i64 0)]) [] from kS [] (hd))
theorem Itm.chk {x:Itm} (h:x.ok):aA Tryz.prog 9 [x.v] [] (.lit (.int .i64 0)) []:=by
 cases x with
 | rg k a b s=>exact kF h.1 h.2
 | ar k a b l=>exact wt
 | sc M D S st=>exact uV
 | ct R C k a b T l=>exact vZ
 | sm K P C T X=>exact vj
theorem Itm.cln {x:Itm} (h:x.ok):aA Tryz.prog 12 [x.v] [] x.v []:=by
 cases x with
 | rg k a b s=>exact rP h.1 h.2
 | ar k a b l=>exact zp h.1 h.2.1.2
 | sc M D S st=>exact zt h.2.1.2 fun e=>absurd h.2.1.1 (by rw[e];decide)
 | ct R C k a b T l=>exact zn h.1 (by have:=h.2.1;omega) h.2.2.2.1 h.2.2.1
 | sm K P C T X=>
   obtain ⟨⟨hKP,hC1,hC2⟩,k1,k2,k3,k4⟩:=h;exact Bh zo fun e=>by rw[e] at k1;simp at k1;omega
theorem BV {t:Nat} {M:List Bool} (ht:t<8):numOf (((bc t++M).drop 4).take 3)=t:=by
 unfold bc;rw[ajq,List.drop_left' (aj _ _),akv (aj _ _),aX,ajL zo]
theorem Itm.uni {x y:Itm} (hx:x.ok) (hy:y.ok) {R1 R2:List Bool} (e:bc x.t++(x.b++R1)=bc y.t++(y.b++R2)):x=y:=by
 have ht:x.t=y.t:=by
  have h1:=BV (M:=x.b++R1) x.t_lt;rw[e,BV y.t_lt] at h1;exact h1.symm
 have hgd:∀{k a b:Nat},aL k a b→k≤1048575∧a≤1048575∧b≤1048575:=fun{k a b} h=>by rcases h with h | h | h | h<;>omega
 cases x<;>cases y<;>first | (simp[Itm.t] at ht;done) | skip
 case rg.rg k a b s k' a' b' s'=>
  obtain ⟨h1,h2,h3⟩:=hgd hx.1;obtain ⟨h1',h2',h3'⟩:=hgd hy.1;simp only[Itm.t,Itm.b,ajq] at e;have p:=fv (A:=bc 1) (T:=cD k a b s++R1) h1 h2 h3;rw[e,fv h1' h2' h3'] at p;simp only[Prod.mk.injEq] at p;obtain ⟨⟨e1,e2,e3⟩,-⟩:=p;obtain rfl:k'=k:=by omega
  obtain rfl:a'=a:=by omega
  obtain rfl:b'=b:=by omega
  have r:=ix (A:=bc 1++bj [k',a',b']) (R:=R1) hx.1 hx.2;have r':=ix (A:=bc 1++bj [k',a',b']) (R:=R2) hy.1 hy.2;simp only[ajq] at r r';rw[e,r'] at r;simp only[Prod.mk.injEq,Option.some.injEq] at r;rw[r.1]
 case ar.ar k a b l k' a' b' l'=>
  obtain ⟨h1,h2,h3⟩:=hgd hx.1;obtain ⟨h1',h2',h3'⟩:=hgd hy.1;have n1:=hx.2.1;have n2:=hy.2.1
  have g4:∀k a b n,bj [k,a,b,n]=bj [k,a,b]++ai (n+1):=fun k a b n=>by
   have g1:bj [n]=ai (n+1):=by simp[bj]
   rw[←g1];exact vQ [k,a,b] [n]
  simp only[Itm.t,Itm.b,g4,np,ajq] at e;have p:=fv (A:=bc 2) (T:=ai (l.length+1)++(l.flatMap (cD k a b)++R1)) h1 h2 h3;rw[e,fv h1' h2' h3'] at p;simp only[Prod.mk.injEq] at p;obtain ⟨⟨e1,e2,e3⟩,-⟩:=p;obtain rfl:k'=k:=by omega
  obtain rfl:a'=a:=by omega
  obtain rfl:b'=b:=by omega
  have q:=aQ (A:=bc 2++bj [k',a',b']) (T:=l.flatMap (cD k' a' b')++R1) (n:=l.length) zo;have q':=aQ (A:=bc 2++bj [k',a',b']) (T:=l'.flatMap (cD k' a' b')++R2) (n:=l'.length) zo;simp only[ajq] at q q';rw[e,q'] at q;simp only[Prod.mk.injEq] at q;have hn:l.length=l'.length:=by omega
  have r:=kH (R:=R1) hx.1 l (bc 2++bj [k',a',b']++ai (l.length+1)) hx.2.2;have r':=kH (R:=R2) hy.1 l' (bc 2++bj [k',a',b']++ai (l'.length+1)) hy.2.2;rw[←hn] at r' e;simp only[ajq] at r r';rw[e,r'] at r;simp only[Prod.mk.injEq,Option.some.injEq] at r;rw[r.1]
 case sc.sc M D S st M' D' S' st'=>
  obtain ⟨hg,hn,ho⟩:=hx;obtain ⟨hg',hn',ho'⟩:=hy;obtain ⟨⟨a1,a2⟩,⟨a3,a4⟩,a5,a6⟩:=hg;obtain ⟨⟨b1,b2⟩,⟨b3,b4⟩,b5,b6⟩:=hg';have gg:∀M D S n:Nat,bj [M,D,S,n]=ai (M+1)++(ai (D+1)++(ai (S+1)++ai (n+1))):=fun M D S n=>by simp[bj]
  simp only[Itm.t,Itm.b,gg,ajq] at e;have p1:=aQ (A:=bc 3) (T:=ai (D+1)++(ai (S+1)++(ai (st.1.length+1)++(ey M D st++R1)))) (n:=M) zo;rw[e,aQ zo] at p1;simp only[Prod.mk.injEq] at p1;obtain rfl:M'=M:=by omega
  have p2:=aQ (A:=bc 3++ai (M'+1)) (T:=ai (S+1)++(ai (st.1.length+1)++(ey M' D st++R1))) (n:=D) zo;have p2':=aQ (A:=bc 3++ai (M'+1)) (T:=ai (S'+1)++(ai (st'.1.length+1)++(ey M' D' st'++R2))) (n:=D') zo;simp only[ajq] at p2 p2';rw[e,p2'] at p2;simp only[Prod.mk.injEq] at p2;obtain rfl:D'=D:=by omega
  have p3:=aQ (A:=bc 3++ai (M'+1)++ai (D'+1)) (T:=ai (st.1.length+1)++(ey M' D' st++R1)) (n:=S) zo;have p3':=aQ (A:=bc 3++ai (M'+1)++ai (D'+1)) (T:=ai (st'.1.length+1)++(ey M' D' st'++R2)) (n:=S') zo;simp only[ajq] at p3 p3';rw[e,p3'] at p3;simp only[Prod.mk.injEq] at p3;obtain rfl:S'=S:=by omega
  have p4:=aQ (A:=bc 3++ai (M'+1)++ai (D'+1)++ai (S'+1)) (T:=ey M' D' st++R1) (n:=st.1.length) zo;have p4':=aQ (A:=bc 3++ai (M'+1)++ai (D'+1)++ai (S'+1)) (T:=ey M' D' st'++R2) (n:=st'.1.length) zo;simp only[ajq] at p4 p4';rw[e,p4'] at p4;simp only[Prod.mk.injEq] at p4;have hl:st'.1.length=st.1.length:=by omega
  have r:=qW (A:=bc 3++ai (M'+1)++ai (D'+1)++ai (S'+1)++ai (st.1.length+1)) (R:=R1) zo ho;have r':=qW (A:=bc 3++ai (M'+1)++ai (D'+1)++ai (S'+1)++ai (st'.1.length+1)) (R:=R2) zo ho';rw[hl] at r' e;simp only[ajq] at r r';rw[e,r'] at r;simp only[Prod.mk.injEq,Option.some.injEq] at r;rw[r.1]
 case ct.ct R C k a b T l R' C' k' a' b' T' l'=>
  obtain ⟨hg,hC,hR,hl,hT,hw⟩:=hx;obtain ⟨hg',hC',hR',hl',hT',hw'⟩:=hy;obtain ⟨h1,h2,h3⟩:=hgd hg;obtain ⟨h1',h2',h3'⟩:=hgd hg';have g5:∀R C k a b:Nat,bj [R,C,k,a,b]=ai (R+1)++(ai (C+1)++bj [k,a,b]):=fun R C k a b=>by simp[bj]
  simp only[Itm.t,Itm.b,g5,ajq] at e;have p1:=aQ (A:=bc 4) (T:=ai (C+1)++(bj [k,a,b]++(nX k a b l T++R1))) (n:=R) zo;rw[e,aQ zo] at p1;simp only[Prod.mk.injEq] at p1;obtain rfl:R'=R:=by omega
  have p2:=aQ (A:=bc 4++ai (R'+1)) (T:=bj [k,a,b]++(nX k a b l T++R1)) (n:=C) zo;have p2':=aQ (A:=bc 4++ai (R'+1)) (T:=bj [k',a',b']++(nX k' a' b' l' T'++R2)) (n:=C') zo;simp only[ajq] at p2 p2';rw[e,p2'] at p2;simp only[Prod.mk.injEq] at p2;obtain rfl:C'=C:=by omega
  have p3:=fv (A:=bc 4++ai (R'+1)++ai (C'+1)) (T:=nX k a b l T++R1) h1 h2 h3;have p3':=fv (A:=bc 4++ai (R'+1)++ai (C'+1)) (T:=nX k' a' b' l' T'++R2) h1' h2' h3';simp only[ajq] at p3 p3';rw[e,p3'] at p3;simp only[Prod.mk.injEq] at p3;obtain ⟨⟨e1,e2,e3⟩,-⟩:=p3;obtain rfl:k'=k:=by omega
  obtain rfl:a'=a:=by omega
  obtain rfl:b'=b:=by omega
  have r:=qH (A:=bc 4++ai (R'+1)++ai (C'+1)++bj [k',a',b']) (R:=R1) hg hT hw;have r':=qH (A:=bc 4++ai (R'+1)++ai (C'+1)++bj [k',a',b']) (R:=R2) hg' hT' hw';rw[hl] at r;rw[hl'] at r';simp only[ajq] at r r';rw[e,r'] at r;simp only[Prod.mk.injEq,Option.some.injEq] at r;rw[r.1.1,r.1.2]
 case sm.sm K P C T X K' P' C' T' X'=>
  obtain ⟨⟨hKP,hC1,hC2⟩,ho⟩:=hx;obtain ⟨⟨hKP',hC1',hC2'⟩,ho'⟩:=hy;have g3:∀K P C:Nat,bj [K,P,C]=ai (K+1)++(ai (P+1)++ai (C+1)):=fun K P C=>by simp[bj]
  simp only[Itm.t,Itm.b,g3,ajq] at e;have p1:=aQ (A:=bc 5) (T:=ai (P+1)++(ai (C+1)++(eE X T++R1))) (n:=K) zo;rw[e,aQ zo] at p1;simp only[Prod.mk.injEq] at p1;obtain rfl:K'=K:=by omega
  have p2:=aQ (A:=bc 5++ai (K'+1)) (T:=ai (C+1)++(eE X T++R1)) (n:=P) zo;have p2':=aQ (A:=bc 5++ai (K'+1)) (T:=ai (C'+1)++(eE X' T'++R2)) (n:=P') zo;simp only[ajq] at p2 p2';rw[e,p2'] at p2;simp only[Prod.mk.injEq] at p2;obtain rfl:P'=P:=by omega
  have p3:=aQ (A:=bc 5++ai (K'+1)++ai (P'+1)) (T:=eE X T++R1) (n:=C) zo;have p3':=aQ (A:=bc 5++ai (K'+1)++ai (P'+1)) (T:=eE X' T'++R2) (n:=C') zo;simp only[ajq] at p3 p3';rw[e,p3'] at p3;simp only[Prod.mk.injEq] at p3;obtain rfl:C'=C:=by omega
  have r:=sC (A:=bc 5++ai (K'+1)++ai (P'+1)++ai (C'+1)) (R:=R1) ho;have r':=sC (A:=bc 5++ai (K'+1)++ai (P'+1)++ai (C'+1)) (R:=R2) ho';simp only[ajq] at r r';rw[e,r'] at r;simp only[Prod.mk.injEq,Option.some.injEq] at r;rw[r.1.1,r.1.2]
theorem Itm.bits {x:Itm} (h:x.ok):bitsOf (nl (dS x.E))=bc x.t++(x.b++l9 (bc x.t++x.b)):=(fS x.t_lt (Itm.len h)).2.2.2.2.2.1
theorem Itm.E_inj {x y:Itm} (hx:x.ok) (hy:y.ok) (e:nl x.E=nl y.E):x=y:=by
 have e:=QR.1 e;have h1:=Itm.bits hx;rw[e,Itm.bits hy] at h1;exact(Itm.uni hy hx h1).symm
theorem Itm.same {x y:Itm} (hx:x.ok) (hy:y.ok):aA Tryz.prog 13 [x.v,y.v] [] (.lit (.bool (decide (nl x.E=nl y.E)))) []:=by
 have hi:=Itm.E_inj hx hy
 cases x with
 | rg k a b s=>
   cases y with
   | rg k' a' b' s'=>
     rw[show decide (nl (Itm.rg k a b s).E=nl (Itm.rg k' a' b' s').E)=decide (k=k'∧a=a'∧b=b'∧s=s') from decide_eq_decide.2 ⟨fun h=>by cases hi h;exact⟨rfl,rfl,rfl,rfl⟩,fun h=>by obtain ⟨rfl,rfl,rfl,rfl⟩:=h;rfl⟩];exact DX hx.1 hx.2 hy.1 hy.2
   | ar _ _ _ _=>rw[ajn fun h=>by cases hi h];exact bH (t:=1) (u:=2) zd rfl rfl
   | sc _ _ _ _=>rw[ajn fun h=>by cases hi h];exact bH (t:=1) (u:=3) zd rfl rfl
   | ct _ _ _ _ _ _ _=>rw[ajn fun h=>by cases hi h];exact bH (t:=1) (u:=4) zd rfl rfl
   | sm _ _ _ _ _=>rw[ajn fun h=>by cases hi h];exact bH (t:=1) (u:=5) zd rfl rfl
 | ar k a b l=>
   cases y with
   | ar k' a' b' l'=>
     rw[show decide (nl (Itm.ar k a b l).E=nl (Itm.ar k' a' b' l').E)=decide (k=k'∧a=a'∧b=b'∧l=l') from decide_eq_decide.2 ⟨fun h=>by cases hi h;exact⟨rfl,rfl,rfl,rfl⟩,fun h=>by obtain ⟨rfl,rfl,rfl,rfl⟩:=h;rfl⟩];exact E5 hx.1 hx.2.1.2 rfl rfl hx.2.2 hy.2.2
   | rg _ _ _ _=>rw[ajn fun h=>by cases hi h];exact bH (t:=2) (u:=1) zd rfl rfl
   | sc _ _ _ _=>rw[ajn fun h=>by cases hi h];exact bH (t:=2) (u:=3) zd rfl rfl
   | ct _ _ _ _ _ _ _=>rw[ajn fun h=>by cases hi h];exact bH (t:=2) (u:=4) zd rfl rfl
   | sm _ _ _ _ _=>rw[ajn fun h=>by cases hi h];exact bH (t:=2) (u:=5) zd rfl rfl
 | sc M D S st=>
   cases y with
   | sc M' D' S' st'=>
     rw[show decide (nl (Itm.sc M D S st).E=nl (Itm.sc M' D' S' st').E)=decide (M=M'∧D=D'∧S=S'∧st=st') from decide_eq_decide.2 ⟨fun h=>by cases hi h;exact⟨rfl,rfl,rfl,rfl⟩,fun h=>by obtain ⟨rfl,rfl,rfl,rfl⟩:=h;rfl⟩];exact DO hx.2.1.2 hy.2.1.2
   | rg _ _ _ _=>rw[ajn fun h=>by cases hi h];exact bH (t:=3) (u:=1) zd rfl rfl
   | ar _ _ _ _=>rw[ajn fun h=>by cases hi h];exact bH (t:=3) (u:=2) zd rfl rfl
   | ct _ _ _ _ _ _ _=>rw[ajn fun h=>by cases hi h];exact bH (t:=3) (u:=4) zd rfl rfl
   | sm _ _ _ _ _=>rw[ajn fun h=>by cases hi h];exact bH (t:=3) (u:=5) zd rfl rfl
 | ct R C k a b T l=>
   cases y with
   | ct R' C' k' a' b' T' l'=>
     rw[show decide (nl (Itm.ct R C k a b T l).E=nl (Itm.ct R' C' k' a' b' T' l').E)=decide (R=R'∧C=C'∧k=k'∧a=a'∧b=b'∧l=l'∧T=T') from decide_eq_decide.2 ⟨fun h=>by cases hi h;exact⟨rfl,rfl,rfl,rfl,rfl,rfl,rfl⟩,fun h=>by obtain ⟨rfl,rfl,rfl,rfl,rfl,rfl,rfl⟩:=h;rfl⟩];obtain ⟨hg,hC,hR,hl,hT,hw⟩:=hx;obtain ⟨hg',hC',hR',hl',hT',hw'⟩:=hy;exact Ef hg zo hl hl' zo zo hw hw'
   | rg _ _ _ _=>rw[ajn fun h=>by cases hi h];exact bH (t:=4) (u:=1) zd rfl rfl
   | ar _ _ _ _=>rw[ajn fun h=>by cases hi h];exact bH (t:=4) (u:=2) zd rfl rfl
   | sc _ _ _ _=>rw[ajn fun h=>by cases hi h];exact bH (t:=4) (u:=3) zd rfl rfl
   | sm _ _ _ _ _=>rw[ajn fun h=>by cases hi h];exact bH (t:=4) (u:=5) zd rfl rfl
 | sm K P C T X=>
   cases y with
   | sm K' P' C' T' X'=>
     rw[show decide (nl (Itm.sm K P C T X).E=nl (Itm.sm K' P' C' T' X').E)=decide (K=K'∧P=P'∧C=C'∧X=X'∧T=T') from decide_eq_decide.2 ⟨fun h=>by cases hi h;exact⟨rfl,rfl,rfl,rfl,rfl⟩,fun h=>by obtain ⟨rfl,rfl,rfl,rfl,rfl⟩:=h;rfl⟩];obtain ⟨⟨hKP,hC1,hC2⟩,k1,k2,k3,k4⟩:=hx;obtain ⟨⟨hKP',hC1',hC2'⟩,k1',k2',k3',k4'⟩:=hy;exact DS zo zo
   | rg _ _ _ _=>rw[ajn fun h=>by cases hi h];exact bH (t:=5) (u:=1) zd rfl rfl
   | ar _ _ _ _=>rw[ajn fun h=>by cases hi h];exact bH (t:=5) (u:=2) zd rfl rfl
   | sc _ _ _ _=>rw[ajn fun h=>by cases hi h];exact bH (t:=5) (u:=3) zd rfl rfl
   | ct _ _ _ _ _ _ _=>rw[ajn fun h=>by cases hi h];exact bH (t:=5) (u:=4) zd rfl rfl
theorem Itm.parts {x:Itm}:∃c1 c2 c3 c4 c5 c6 c7 c8 c9 c10:V,x.v=.agg [.lit (.int .i64 (x.t:Int)),c1,c2,c3,c4,c5,c6,c7,c8,c9,c10]∧lh.plnL [.lit (.int .i64 (x.t:Int)),c1,c2,c3,c4,c5,c6,c7,c8,c9,c10]=true:=by
 cases x<;>exact⟨_,_,_,_,_,_,_,_,_,_,rfl,rfl⟩
end Go.Proofs.YtcnlmelpnflhnaaGreat
