import Derived.Test.YtcnlmelpnflhnaaGreatBo
import Derived.Test.YtcnlmelpnflhnaaGreatBn
import Derived.Test.YtcnlmelpnflhnaaGreatBj
import Derived.Test.YtcnlmelpnflhnaaGreatAc
import Derived.Test.YtcnlmelpnflhnaaGreatAb
import Derived.Test.YtcnlmelpnflhnaaGreatAf
import Derived.Test.YtcnlmelpnflhnaaGreatBg
namespace Go.Proofs.YtcnlmelpnflhnaaGreat
open Go.Eng Go.Vx
set_option linter.unusedSimpArgs false
set_option linter.unusedVariables false
set_option maxRecDepth 100000
def l9 (L:List Bool):List Bool:=List.replicate (8*((L.length+7)/8)-L.length) false
theorem fS {t:Nat} {M:List Bool} (ht:t<8) (hm:(bc t++M).length≤9600):let E:=bV (iF (bc t++M))
 (∀x∈E,x<256)∧4≤E.length∧E.length≤4096∧bV (E.take (E.length-4))=E∧4<E.length∧bitsOf (nl (dS E))=bc t++(M++l9 (bc t++M))∧E.length-4=((bc t++M).length+7)/8∧
 numOf ((bitsOf (nl (dS E))).take 4)=1∧numOf (((bitsOf (nl (dS E))).drop 4).take 3)=t∧jR (bitsOf (nl (dS E))) (bc t++M).length=0:=by
 intro E;have hl:E.length=(iF (bc t++M)).length+4:=g9 _;have hp:=gJ (bc t++M);have hh:=da t;have hap:(bc t++M).length=7+M.length:=by rw[ajj,hh]
 have htk:E.take (E.length-4)=iF (bc t++M):=by rw[hl,akW];exact BR _
 have hi:dS E=iF (bc t++M):=htk;have hb:bitsOf (nl (dS E))=bc t++(M++l9 (bc t++M)):=by rw[hi,←si,oH,ajq];rfl
 refine⟨Gq (mT _),by omega,by omega,by rw[htk],by omega,hb,by omega,?_,?_,?_⟩
 · rw[hb]
   unfold bc;rw[ajq,akv (aj _ _),aX]
 · rw[hb]
   unfold bc;rw[ajq,List.drop_left' (aj _ _),akv (aj _ _),aX,ajL zo]
 · rw[hb,←ajq]
   have hz:(l9 (bc t++M)).length<8:=by unfold l9;rw[ajF];omega
   unfold jR;rw[if_neg (by rw[ajj];omega),List.drop_left' rfl,if_neg];unfold l9
   simp
theorem tN {k a b:Nat} {s:SR} (h:aL k a b) (w:aP k a b s):aA Tryz.prog 11 [.row 1 ((nl (bV (iF (bc 1++(bj [k,a,b]++cD k a b s))))).map (ie .u8))] [] (.tup [uw k a b s,.lit (.int .i64 0)]) []:=by
 have en:=CK h w;rw[ajq] at en;have hN:k≤1000∧a≤5000∧b≤1000:=by rcases h with h | h | h | h<;>omega
 have hgl:=cu (N:=[k,a,b]) (by intro x hx;simp only[ajC,aj5,or_false] at hx;omega);have hhl:=da 1;have hwd:=dN h;have hrl:(cD k a b s).length=wd k a b:=dL k a b s;have hN3:([k,a,b]:List Nat).length=3:=rfl;obtain ⟨f1,f2,f3,f4,f5,f6,f7,f8,f9,f10⟩:=fS (t:=1) (M:=bj [k,a,b]++cD k a b s) zd (by simp only[ajj];omega);have hlen:(bc 1++(bj [k,a,b]++cD k a b s)).length=7+((bj [k,a,b]).length+wd k a b):=by simp only[ajj];omega
 have p1:=fv (A:=bc 1) (T:=cD k a b s++l9 (bc 1++(bj [k,a,b]++cD k a b s))) (k:=k) (a:=a) (b:=b) zo zo zo;have r1:=ix (A:=bc 1++bj [k,a,b]) (R:=l9 (bc 1++(bj [k,a,b]++cD k a b s))) h w;rw[hhl] at p1;rw[ajj,hhl] at r1;have e1:bc 1++(bj [k,a,b]++(cD k a b s++l9 (bc 1++(bj [k,a,b]++cD k a b s))))=bc 1++((bj [k,a,b]++cD k a b s)++l9 (bc 1++(bj [k,a,b]++cD k a b s))):=by simp only[ajq]
 have e2:(bc 1++bj [k,a,b])++(cD k a b s++l9 (bc 1++(bj [k,a,b]++cD k a b s)))=bc 1++((bj [k,a,b]++cD k a b s)++l9 (bc 1++(bj [k,a,b]++cD k a b s))):=by simp only[ajq]
 rw[e1,←f6] at p1;rw[e2,←f6] at r1;rw[hlen] at f7 f10;generalize bV (iF (bc 1++(bj [k,a,b]++cD k a b s)))=E at*
 have hI:ke (nl (dS E)):=iW fun x hx=>f1 x (ajM hx);have hlb:(nl (dS E)).length=E.length-4:=by rw[ay];unfold dS;simp
 have rd:=qx (p:=7+(bj [k,a,b]).length) h hI zo zo;rw[r1] at rd;have hb:=Bl hI zo zo p1 rd;rw[aj8] at hb;exact MX f1 f2 f3 f4 f5 f8 f9 h w zo f10 hb en.2 rfl zo rfl
set_option maxHeartbeats 1000000 in
theorem tZ {k a b n:Nat} {l:List SR} (h:aL k a b) (hn:1≤n∧n≤256) (hl:l.length=n) (hw:∀s∈l,aP k a b s):aA Tryz.prog 11 [.row 1 ((nl (bV (iF (bc 2++(bj [k,a,b,n]++cX (wd k a b) (l.map (fj k a b))))))).map (ie .u8))] [] (.tup [OR 0,.lit (.int .i64 0)]) [some (cP 1 k a b),some (cC 2 n (wd k a b)),some (ch n (wd k a b) (bg k a b l))]:=by
 have en:=Cd h hn.2 hl;rw[ajq] at en;have hN:k≤1000∧a≤5000∧b≤1000:=by rcases h with h | h | h | h<;>omega
 have hgl:=cu (N:=[k,a,b]) (by intro x hx;simp only[ajC,aj5,or_false] at hx;omega);have hg1:=cu (N:=[n]) (by intro x hx;simp only[ajC,aj5,or_false] at hx;omega);have g1:bj [n]=ai (n+1):=by simp[bj]
 have g4:bj [k,a,b,n]=bj [k,a,b]++ai (n+1):=by rw[←g1];exact vQ [k,a,b] [n]
 have hhl:=da 2;have hwd:=dN h;have hwb:=gU (wd k a b) (l.map (fj k a b));rw[ajl,hl] at hwb;have hmul:n*wd k a b≤256*16:=ajO hn.2 hwd.2;have hN3:([k,a,b]:List Nat).length=3:=rfl;have hN1:([n]:List Nat).length=1:=rfl;rw[g1] at hg1;rw[g4,ajq] at en ⊢;generalize hW:cX (wd k a b) (l.map (fj k a b))=W at*
 obtain ⟨f1,f2,f3,f4,f5,f6,f7,f8,f9,f10⟩:=fS (t:=2) (M:=bj [k,a,b]++(ai (n+1)++W)) zd (by simp only[ajj];omega);have hlen:(bc 2++(bj [k,a,b]++(ai (n+1)++W))).length=7+((bj [k,a,b]).length+((ai (n+1)).length+W.length)):=by simp only[ajj];omega
 generalize hZ:l9 (bc 2++(bj [k,a,b]++(ai (n+1)++W)))=Z at*
 have p1:=fv (A:=bc 2) (T:=ai (n+1)++(W++Z)) (k:=k) (a:=a) (b:=b) zo zo zo;have p2:=aQ (A:=bc 2++bj [k,a,b]) (T:=W++Z) (n:=n) zo;have r1:=kH (R:=Z) h l (bc 2++bj [k,a,b]++ai (n+1)) hw;rw[←np,hW,hl] at r1;rw[hhl] at p1;rw[ajj,hhl] at p2;rw[ajj,ajj,hhl] at r1;simp only[ajq] at p1 p2 r1 f6;rw[←f6] at p1 p2 r1;rw[hlen] at f7 f10;generalize bV (iF (bc 2++(bj [k,a,b]++(ai (n+1)++W))))=E at*
 have hI:ke (nl (dS E)):=iW fun x hx=>f1 x (ajM hx);have hlb:(nl (dS E)).length=E.length-4:=by rw[ay];unfold dS;simp
 have rd:=x8 (n:=n) (p:=7+(bj [k,a,b]).length+(ai (n+1)).length) h hn hI zo zo;rw[r1] at rd;have hb:=By hI zo zo p1 p2 rd;rw[if_pos rfl,aj8,aj8] at hb;exact K7 f1 f2 f3 f4 f5 f8 f9 zo f10 hb en.2 rfl zo rfl
set_option maxHeartbeats 1000000 in
theorem tG {R C k a b T:Nat} {l:List RW} (h:aL k a b) (hC:1≤C∧C≤64) (hR:1≤R∧R≤4) (hl:l.length=R) (hT:T≤1099511627776) (hw:∀r∈l,bC k a b C r) (hm:(bc 4++(bj [R,C,k,a,b]++nX k a b l T)).length≤9600):aA Tryz.prog 11 [.row 1 ((nl (bV (iF (bc 4++(bj [R,C,k,a,b]++nX k a b l T))))).map (ie .u8))] [] (.tup [FL 0,.lit (.int .i64 0)]) [some (fy R C k a b l T)]:=by
 have en:=C9 (R:=R) h hC hR.2 zo hw hT;rw[ajq] at en;have hN:k≤1000∧a≤5000∧b≤1000:=by rcases h with h | h | h | h<;>omega
 have g5:bj [R,C,k,a,b]=ai (R+1)++(ai (C+1)++bj [k,a,b]):=by simp[bj]
 have hhl:=da 4;rw[g5,ajq,ajq] at en hm ⊢;have hbk:=fun A R'=>qH (A:=A) (R:=R') (T:=T) h hT hw;rw[hl] at hbk;generalize hW:nX k a b l T=W at*
 obtain ⟨f1,f2,f3,f4,f5,f6,f7,f8,f9,f10⟩:=fS (t:=4) (M:=ai (R+1)++(ai (C+1)++(bj [k,a,b]++W))) zd hm;have hlen:(bc 4++(ai (R+1)++(ai (C+1)++(bj [k,a,b]++W)))).length=7+((ai (R+1)).length+((ai (C+1)).length+((bj [k,a,b]).length+W.length))):=by simp only[ajj];omega
 generalize hZ:l9 (bc 4++(ai (R+1)++(ai (C+1)++(bj [k,a,b]++W))))=Z at*
 have p1:=aQ (A:=bc 4) (T:=ai (C+1)++(bj [k,a,b]++(W++Z))) (n:=R) zo;have p2:=aQ (A:=bc 4++ai (R+1)) (T:=bj [k,a,b]++(W++Z)) (n:=C) zo;have p3:=fv (A:=bc 4++ai (R+1)++ai (C+1)) (T:=W++Z) (k:=k) (a:=a) (b:=b) zo zo zo;have r1:=hbk (bc 4++ai (R+1)++ai (C+1)++bj [k,a,b]) Z;rw[hhl] at p1;rw[ajj,hhl] at p2;rw[ajj,ajj,hhl] at p3;rw[ajj,ajj,ajj,hhl] at r1;simp only[ajq] at p1 p2 p3 r1 f6;rw[←f6] at p1 p2 p3 r1;rw[hlen] at f7 f10;generalize bV (iF (bc 4++(ai (R+1)++(ai (C+1)++(bj [k,a,b]++W)))))=E at*
 have hI:ke (nl (dS E)):=iW fun x hx=>f1 x (ajM hx);have hlb:(nl (dS E)).length=E.length-4:=by rw[ay];unfold dS;simp
 have rd:=D6 (R:=R) (C:=C) (p:=7+(ai (R+1)).length+(ai (C+1)).length+(bj [k,a,b]).length) hR hC h hI zo zo;rw[r1] at rd;have hb:=BP hI zo zo p1 p2 p3 rd;rw[if_pos rfl,aj8,aj8,aj8] at hb;exact Le f1 f2 f3 f4 f5 f8 f9 zo f10 hb en.2 rfl zo rfl
set_option maxHeartbeats 1000000 in
theorem uf {M D S n:Nat} {st:SS} (h:tQ M D S) (hn:1≤n∧n≤256) (ok:okS M D S n st) (hs8:st.2.1≤8) (hm:(bc 3++(bj [M,D,S,n]++ey M D st)).length≤9600):aA Tryz.prog 11 [.row 1 ((nl (bV (iF (bc 3++(bj [M,D,S,n]++ey M D st))))).map (ie .u8))] [] (.tup [Oe 0,.lit (.int .i64 0)]) [some (tJ M D S st)]:=by
 obtain ⟨hM,hD,hS⟩:=id h;have ok':=id ok;obtain ⟨o1,o2,o3,o4,o5⟩:=ok';have en:=CV (M:=M) (D:=D) (S:=S) (st:=st) zo zo zo zo (fun c hc=>⟨(o2 c hc).1,(o2 c hc).2.1⟩) ⟨o3,hs8⟩;rw[o1] at en;rw[ajq] at en;have gg:bj [M,D,S,n]=ai (M+1)++(ai (D+1)++(ai (S+1)++ai (n+1))):=by simp[bj]
 have hhl:=da 3;rw[gg] at en hm ⊢;simp only[ajq] at en hm ⊢;have hbk:=fun A R'=>qW (A:=A) (R:=R') zo ok;generalize hW:ey M D st=W at*
 obtain ⟨f1,f2,f3,f4,f5,f6,f7,f8,f9,f10⟩:=fS (t:=3) (M:=ai (M+1)++(ai (D+1)++(ai (S+1)++(ai (n+1)++W)))) zd hm;have hlen:(bc 3++(ai (M+1)++(ai (D+1)++(ai (S+1)++(ai (n+1)++W))))).length=7+((ai (M+1)).length+((ai (D+1)).length+((ai (S+1)).length+((ai (n+1)).length+W.length)))):=by simp only[ajj];omega
 generalize hZ:l9 (bc 3++(ai (M+1)++(ai (D+1)++(ai (S+1)++(ai (n+1)++W)))))=Z at*
 have p1:=aQ (A:=bc 3) (T:=ai (D+1)++(ai (S+1)++(ai (n+1)++((W++Z))))) (n:=M) zo;have p2:=aQ (A:=bc 3++ai (M+1)) (T:=ai (S+1)++(ai (n+1)++((W++Z)))) (n:=D) zo;have p3:=aQ (A:=bc 3++ai (M+1)++ai (D+1)) (T:=ai (n+1)++((W++Z))) (n:=S) zo;have p4:=aQ (A:=bc 3++ai (M+1)++ai (D+1)++ai (S+1)) (T:=(W++Z)) (n:=n) zo;have r1:=hbk (bc 3++ai (M+1)++ai (D+1)++ai (S+1)++ai (n+1)) Z;rw[hhl] at p1;rw[ajj,hhl] at p2;rw[ajj,ajj,hhl] at p3;rw[ajj,ajj,ajj,hhl] at p4;rw[ajj,ajj,ajj,ajj,hhl] at r1;simp only[ajq] at p1 p2 p3 p4 r1 f6;rw[←f6] at p1 p2 p3 p4 r1;rw[hlen] at f7 f10;generalize bV (iF (bc 3++(ai (M+1)++(ai (D+1)++(ai (S+1)++(ai (n+1)++W))))))=E at*
 have hI:ke (nl (dS E)):=iW fun x hx=>f1 x (ajM hx);have hlb:(nl (dS E)).length=E.length-4:=by rw[ay];unfold dS;simp
 have rd:=Ji (n:=n) (p:=7+(ai (M+1)).length+(ai (D+1)).length+(ai (S+1)).length+(ai (n+1)).length) h hn hI zo zo;rw[r1] at rd;have hb:=zX hI zo zo p1 p2 p3 p4 rd;rw[if_pos rfl,aj8,aj8,aj8,aj8] at hb;exact MK f1 f2 f3 f4 f5 f8 f9 zo f10 hb en.2 rfl zo rfl
set_option maxHeartbeats 1000000 in
theorem uM {K P C T:Nat} {X:List (Nat×Nat)} (h:rF (K:Int) (P:Int) (C:Int)) (ok:okA C X T) (hm:(bc 5++(bj [K,P,C]++eE X T)).length≤9600):aA Tryz.prog 11 [.row 1 ((nl (bV (iF (bc 5++(bj [K,P,C]++eE X T))))).map (ie .u8))] [] (.tup [NW 0,.lit (.int .i64 0)]) [some (mr (K:Int) (P:Int) (C:Int) X T)]:=by
 obtain ⟨h1,h2,h3⟩:=id h;have ok':=id ok;obtain ⟨o1,o2,o3,o4⟩:=ok';have en:=Cr (K:=K) (P:=P) (C:=C) (T:=T) (X:=X) zo zo zo zo (fun x hx=>⟨(o3 x hx).1,ajD (o3 x hx).2 o2⟩) (o4.elim (fun h=>.inr h.2) (fun h=>.inl h.1)) o2;rw[ajq] at en;have gg:bj [K,P,C]=ai (K+1)++(ai (P+1)++ai (C+1)):=by simp[bj]
 have hhl:=da 5;rw[gg] at en hm ⊢;simp only[ajq] at en hm ⊢;have hbk:=fun A R'=>sC (A:=A) (R:=R') ok;generalize hW:eE X T=W at*
 obtain ⟨f1,f2,f3,f4,f5,f6,f7,f8,f9,f10⟩:=fS (t:=5) (M:=ai (K+1)++(ai (P+1)++(ai (C+1)++W))) zd hm;have hlen:(bc 5++(ai (K+1)++(ai (P+1)++(ai (C+1)++W)))).length=7+((ai (K+1)).length+((ai (P+1)).length+((ai (C+1)).length+W.length))):=by simp only[ajj];omega
 generalize hZ:l9 (bc 5++(ai (K+1)++(ai (P+1)++(ai (C+1)++W))))=Z at*
 have p1:=aQ (A:=bc 5) (T:=ai (P+1)++(ai (C+1)++((W++Z)))) (n:=K) zo;have p2:=aQ (A:=bc 5++ai (K+1)) (T:=ai (C+1)++((W++Z))) (n:=P) zo;have p3:=aQ (A:=bc 5++ai (K+1)++ai (P+1)) (T:=(W++Z)) (n:=C) zo;have r1:=hbk (bc 5++ai (K+1)++ai (P+1)++ai (C+1)) Z;rw[hhl] at p1;rw[ajj,hhl] at p2;rw[ajj,ajj,hhl] at p3;rw[ajj,ajj,ajj,hhl] at r1;simp only[ajq] at p1 p2 p3 r1 f6;rw[←f6] at p1 p2 p3 r1;rw[hlen] at f7 f10;generalize bV (iF (bc 5++(ai (K+1)++(ai (P+1)++(ai (C+1)++W)))))=E at*
 have hI:ke (nl (dS E)):=iW fun x hx=>f1 x (ajM hx);have hlb:(nl (dS E)).length=E.length-4:=by rw[ay];unfold dS;simp
 have rd:=Iu (K:=(K:Int)) (P:=(P:Int)) (C:=C) (p:=7+(ai (K+1)).length+(ai (P+1)).length+(ai (C+1)).length) h hI zo zo;rw[r1] at rd;have hb:=Bg hI zo zo p1 p2 p3 rd;rw[if_pos rfl,aj8,aj8,aj8] at hb;exact MD f1 f2 f3 f4 f5 f8 f9 zo f10 hb en.2 rfl zo rfl
attribute [local go_sem] List.take_succ_cons List.take_zero List.drop_succ_cons List.drop_zero
theorem rP {k a b:Nat} {s:SR} (h:aL k a b) (w:aP k a b s):aA Tryz.prog 12 [uw k a b s] [] (uw k a b s) []:=by
 have g:=qa h w;refine zF lZ Tryz.call12 Tryz.func12 [.cell 2 42] fun Q hQ=>?_;refine ae ?_;refine zC g ?_;exact ak [] hQ
theorem zp {k a b n:Nat} {l:List SR} (h:aL k a b) (hn:n≤256):aA Tryz.prog 12 [jz k a b n l] [] (jz k a b n l) []:=by
 have g:=sO (k:=k) (a:=a) (b:=b) (n:=n) (l:=l);have hw:=dN h;have hlw:=aq (aZ n (wd k a b)) (aV (wd k a b) (l.map (fj k a b)));have c:=cU (k:=k) (a:=a) (b:=b) (n:=n) (w:=wd k a b) (X:=aV (wd k a b) (l.map (fj k a b))) hn ⟨hw.1,by omega⟩;simp only[jz] at g ⊢;generalize aV (wd k a b) (l.map (fj k a b))=X at*
 generalize wd k a b=w at*
 refine zF lZ Tryz.call12 Tryz.func12 [.cell 2 42] fun Q hQ=>?_;refine ae ?_;refine zC g ?_;refine zW [] [] c ?_;exact ak [] hQ
theorem zt {M D S:Nat} {st:SS} (hX:st.1.length≤256) (h:st.1≠ []):aA Tryz.prog 12 [l6 M D S st] [] (l6 M D S st) []:=by
 have g:=sS (M:=M) (D:=D) (S:=S) (st:=st);have c:=oR (M:=M) (D:=D) (S:=S) hX h;refine zF lZ Tryz.call12 Tryz.func12 [.cell 2 42] fun Q hQ=>?_;refine ae ?_;refine zC g ?_;refine zW [] [] c ?_;exact ak [] hQ
theorem Bh {K P C T:Nat} {X:List (Nat×Nat)} (hX:X.length≤1000000) (h:X≠ []):aA Tryz.prog 12 [lW K P C X T] [] (lW K P C X T) []:=by
 have g:=qv (K:=K) (P:=P) (C:=C) (X:=X) (T:=T);have c:=lQ (K:=(K:Int)) (P:=(P:Int)) (C:=(C:Int)) (N:=T) hX h;refine zF lZ Tryz.call12 Tryz.func12 [.cell 2 42] fun Q hQ=>?_;refine ae ?_;refine zC g ?_;refine zW [] [] c ?_;exact ak [] hQ
theorem xB {C k a b T:Nat} {r0:RW} (h:aL k a b) (hC:C≤256):aA Tryz.prog 12 [dP 1 C k a b [r0] T] [] (dP 1 C k a b [r0] T) []:=by
 have g:=ib (R:=1) (C:=C) (k:=k) (a:=a) (b:=b) (l:=[r0]) (T:=T);have c:=kr (C:=C) (T:=T) (r0:=r0) h hC;have l0:=aq (aZ C (wd k a b)) (bg k a b r0.2.2);obtain ⟨A0,B0,m0⟩:=r0;dsimp only at*
 simp only[dP,nk,ajK,ajQ,fW,jV] at g c ⊢;generalize bg k a b m0=X0 at*
 generalize wd k a b=w at*
 refine zF lZ Tryz.call12 Tryz.func12 [.cell 2 42] fun Q hQ=>?_;refine ae ?_;refine zC g ?_;refine zW [] [] c ?_;exact ak [] hQ
theorem xj {C k a b T:Nat} {r0 r1:RW} (h:aL k a b) (hC:C≤256):aA Tryz.prog 12 [dP 2 C k a b [r0,r1] T] [] (dP 2 C k a b [r0,r1] T) []:=by
 have g:=ib (R:=2) (C:=C) (k:=k) (a:=a) (b:=b) (l:=[r0,r1]) (T:=T);have c:=k7 (C:=C) (T:=T) (r0:=r0) (r1:=r1) h hC;have l0:=aq (aZ C (wd k a b)) (bg k a b r0.2.2);have l1:=aq (aZ C (wd k a b)) (bg k a b r1.2.2);obtain ⟨A0,B0,m0⟩:=r0;obtain ⟨A1,B1,m1⟩:=r1;dsimp only at*
 simp only[dP,nk,ajK,ajQ,fW,jV] at g c ⊢;generalize bg k a b m0=X0 at*
 generalize bg k a b m1=X1 at*
 generalize wd k a b=w at*
 refine zF lZ Tryz.call12 Tryz.func12 [.cell 2 42] fun Q hQ=>?_;refine ae ?_;refine zC g ?_;refine zW [] [] c ?_;exact ak [] hQ
theorem xc {C k a b T:Nat} {r0 r1 r2:RW} (h:aL k a b) (hC:C≤256):aA Tryz.prog 12 [dP 3 C k a b [r0,r1,r2] T] [] (dP 3 C k a b [r0,r1,r2] T) []:=by
 have g:=ib (R:=3) (C:=C) (k:=k) (a:=a) (b:=b) (l:=[r0,r1,r2]) (T:=T);have c:=ki (C:=C) (T:=T) (r0:=r0) (r1:=r1) (r2:=r2) h hC;have l0:=aq (aZ C (wd k a b)) (bg k a b r0.2.2);have l1:=aq (aZ C (wd k a b)) (bg k a b r1.2.2);have l2:=aq (aZ C (wd k a b)) (bg k a b r2.2.2);obtain ⟨A0,B0,m0⟩:=r0;obtain ⟨A1,B1,m1⟩:=r1;obtain ⟨A2,B2,m2⟩:=r2;dsimp only at*
 simp only[dP,nk,ajK,ajQ,fW,jV] at g c ⊢;generalize bg k a b m0=X0 at*
 generalize bg k a b m1=X1 at*
 generalize bg k a b m2=X2 at*
 generalize wd k a b=w at*
 refine zF lZ Tryz.call12 Tryz.func12 [.cell 2 42] fun Q hQ=>?_;refine ae ?_;refine zC g ?_;refine zW [] [] c ?_;exact ak [] hQ
theorem yC {C k a b T:Nat} {r0 r1 r2 r3:RW} (h:aL k a b) (hC:C≤256):aA Tryz.prog 12 [dP 4 C k a b [r0,r1,r2,r3] T] [] (dP 4 C k a b [r0,r1,r2,r3] T) []:=by
 have g:=ib (R:=4) (C:=C) (k:=k) (a:=a) (b:=b) (l:=[r0,r1,r2,r3]) (T:=T);have c:=km (C:=C) (T:=T) (r0:=r0) (r1:=r1) (r2:=r2) (r3:=r3) h hC;have l0:=aq (aZ C (wd k a b)) (bg k a b r0.2.2);have l1:=aq (aZ C (wd k a b)) (bg k a b r1.2.2);have l2:=aq (aZ C (wd k a b)) (bg k a b r2.2.2);have l3:=aq (aZ C (wd k a b)) (bg k a b r3.2.2);obtain ⟨A0,B0,m0⟩:=r0;obtain ⟨A1,B1,m1⟩:=r1;obtain ⟨A2,B2,m2⟩:=r2;obtain ⟨A3,B3,m3⟩:=r3;dsimp only at*
 simp only[dP,nk,ajK,ajQ,fW,jV] at g c ⊢;generalize bg k a b m0=X0 at*
 generalize bg k a b m1=X1 at*
 generalize bg k a b m2=X2 at*
 generalize bg k a b m3=X3 at*
 generalize wd k a b=w at*
 refine zF lZ Tryz.call12 Tryz.func12 [.cell 2 42] fun Q hQ=>?_;refine ae ?_;refine zC g ?_;refine zW [] [] c ?_;exact ak [] hQ
theorem zn {R C k a b T:Nat} {l:List RW} (h:aL k a b) (hC:C≤256) (hl:l.length=R) (hR:1≤R∧R≤4):aA Tryz.prog 12 [dP R C k a b l T] [] (dP R C k a b l T) []:=by
 subst hl
 match l,hR with
 | [],h=>exact absurd h.1 (by simp)
 | [_],_=>exact xB h hC
 | [_,_],_=>exact xj h hC
 | [_,_,_],_=>exact xc h hC
 | [_,_,_,_],_=>exact yC h hC
 | _::_::_::_::_::_,h=>exact absurd h.2 (by simp)
end Go.Proofs.YtcnlmelpnflhnaaGreat

namespace Go.Proofs.YtcnlmelpnflhnaaGreat
open Go.Eng Go.Vx
set_option linter.unusedSimpArgs false
set_option linter.unusedVariables false
set_option maxRecDepth 100000
theorem El {L:List Bool} {n p:Nat} (hL:L.length≤1048576) (hn:2≤n) (hn2:n<18446744073709551616):aA Tryz.prog 77 [.ref 0 0 0 0,.lit (.int .u64 (n:Int))] [some (bt L p true)]
 (.tup [.lit (.int .u64 0),.lit (.int .i64 8)]) [some (bt L p true)]:=by
 refine zF pl Tryz.call77 Tryz.func77 [.tmp 4,.tmp 5] fun Q hQ=>?_;have hn1:(n:Int)-1=((n-1:Nat):Int):=by omega
 have hw:=bP (n:=n-1) (k:=64) zo;have hnw:=jY (n-1);generalize hwd:bl (n-1)=w at*
 have hw1:1≤w:=by
  rcases ajW w with h | h
  · rw[h,alQ] at hnw;omega
  · exact h
 refine br hn1 ?_;refine zC (hwd▸kZ (n:=n-1) zo) ?_
 refine aR (X:=Unit) (st:=fun q=>([(0,.ref 0 0 0 0),(1,.lit (.int .u64 (n:Int))),(6,.lit (.int .i64 (w:Int)))],[some (bt L p true)]))
  (inv:=fun q=>True) (m:=fun q=>0) () [some 0] trivial ?_
 rintro ⟨⟩-;refine ae ?_
 refine aR (X:=Unit) (st:=fun i=>([(0,.ref 0 0 0 0),(1,.lit (.int .u64 (n:Int))),(6,.lit (.int .i64 (w:Int))),(7,.lit (.int .u64 0)),(15,.lit (.int .i64 (w:Int))),(16,.lit (.int .i64 0))],[some (bt L p true)]))
  (inv:=fun i=>True) (m:=fun i=>0) () [some 0] trivial ?_
 rintro ⟨⟩-;refine ae ?_;refine zW [some 0] [] (gw (L:=L) (p:=p) (d:=true) hL (.inl rfl)) ?_;exact ak [some 0] hQ
theorem HA {K P C:Int} {X:List (Nat×Nat)} {N key p:Nat} {L:List Bool} (hX:X.length≤1000000) (h:X≠ []) (hk:key<2305843009213693951) (hN:N<1048576) (hN1:1≤N) (hL:L.length≤1048576):
 aA Tryz.prog 20 [.ref 0 0 0 0,.ref 1 0 0 0,.lit (.int .u64 (key:Int))] [some (mr K P C X N),some (bt L p true)]
 (.lit (.int .i64 8)) [some (mr K P C X N),some (bt L p true)]:=by
 have hc:=lQ (K:=K) (P:=P) (C:=C) (N:=N) hX h;have hNN:(N:Int)+1=((N+1:Nat):Int):=by omega
 have hb:=El (L:=L) (n:=N+1) (p:=p) hL zo zo;have hXl:0<X.length:=alU.2 h;refine zF pl Tryz.call20 Tryz.func20 [.tmp 6] fun Q hQ=>?_;refine ae ?_;refine bI (hc) ?_;refine ae ?_
 refine aR (X:=Unit) (st:=fun y=>([(0,.ref 0 0 0 0),(1,.ref 1 0 0 0),(2,.lit (.int .u64 (key:Int))),(7,.ref 2 0 0 0),(34,.lit (.int .i64 (X.length:Int))),(35,.lit (.int .i64 0))],[some (mr K P C X N),some (bt L p true),some (.cells [.lit (.int .i64 K),.lit (.int .i64 P),.lit (.int .i64 C),.sl 3 2 0 X.length,.lit (.int .i64 ((N+1:Nat):Int))]),some (.row 2 (X.map sV))]))
  (inv:=fun y=>True) (m:=fun y=>0) () [some 0,some 1,some 2,some 3] trivial ?_
 rintro ⟨⟩-;refine ae ?_;refine zW [some 1] [] hb ?_;exact ak [some 0,some 1] hQ
theorem DH {L:List Bool} {N key:Nat} {X X':List (Nat×Nat)} {p q:Nat} (hX:0<N→∀x∈X,1≤x.2) (h:fM L (N+1) key X p=some (X',q)):∀x∈X',1≤x.2:=by
 have st:∀(x:Nat×Nat) (a:Nat),a<N+1→(N=0∨1≤x.2)→1≤(OD key a x).2:=by
  intro x a ha hx;unfold OD
  split
  · exact ajp _
  · split
    · show 1≤x.2+1;omega
    · omega
 rcases ajW N with h0 | h0
 · exact sy (alb N) (A:=fun _=>True) (fun x a ha _=>st x a ha (.inl h0)) (fun _ _=>trivial) h
 · exact sy (alb N) (A:=fun x=>1≤x.2) (fun x a ha hx=>st x a ha (.inr hx)) (hX h0) h
def Sb (C:Nat) (X:List (Nat×Nat)) (N:Nat):Prop:=X.length=C∧(∀x∈X,x.1<2305843009213693951∧x.2≤N)∧((0<N∧∀x∈X,1≤x.2)∨(N=0∧∀x∈X,x=(0,0)))
theorem Px {L:List Bool} {p:Nat} (hp:p≤L.length):cg L 1 p=(0,0,p,false):=by
 obtain ⟨f,hf⟩:∃f,L.length+1-p=f+1:=⟨L.length-p,by omega⟩;unfold cg;rw[hf,show bl (1-1)=0 from rfl];unfold dx;rw[if_pos zo,akj,tX,if_pos zd]
 rfl
theorem qC {L:List Bool} {key:Nat}:∀{X:List (Nat×Nat)} {p:Nat},p≤L.length→fM L (0+1) key X p≠none
 | [],p,hp=>fun h=>by cases h
 | x::xs,p,hp=>fun h=>by
   unfold fM at h;rw[show 0+1=1 from rfl,Px hp,if_pos rfl,Option.map_eq_none_iff] at h;exact qC (X:=xs) hp h
theorem CZ {C:Nat}:Sb C (List.replicate C (0,0)) 0:=by
 refine⟨ajF,fun x hx=>?_,.inr ⟨rfl,fun x hx=>(alk.1 hx).2⟩⟩;rw[(alk.1 hx).2];exact⟨by decide,ajp _⟩
theorem uZ {K P:Int} {C:Nat} {X:List (Nat×Nat)} {N key p:Nat} {d:Bool} {L:List Bool} (hC:1≤C∧C≤1000) (h:Sb C X N) (hk:key<2305843009213693951) (hN:N≤1000) (hd:d=true→1≤N) (hL:L.length≤1048576) (hp:p≤L.length):
 ∃(e:Int) (X':List (Nat×Nat)) (N' q:Nat) (d':Bool),Sb C X' N'∧N'≤N+1∧(d'=true→1≤N')∧q≤L.length∧
 aA Tryz.prog 20 [.ref 0 0 0 0,.ref 1 0 0 0,.lit (.int .u64 (key:Int))] [some (mr K P C X N),some (bt L p d)]
 (.lit (.int .i64 e)) [some (mr K P C X' N'),some (bt L q d')]:=by
 obtain ⟨hX,hR,hR1⟩:=h;have hXne:X≠ []:=fun e=>by rw[e] at hX;simp at hX;omega
 cases d with
 | true=>exact⟨8,X,N,p,true,⟨hX,hR,hR1⟩,by omega,fun _=>hd rfl,hp,HA zo hXne hk zo (hd rfl) hL⟩
 | false=>
   have hu:=MQ (K:=K) (P:=P) (C:=C) (X:=X) (N:=N) (key:=key) (p:=p) (L:=L) zo hXne zo zo hL hp (fun x hx=>by have:=hR x hx;omega)
   cases hup:fM L (N+1) key X p with
   | some r=>
     obtain ⟨X',q⟩:=r;obtain ⟨k1,k2,k3⟩:=KG hp hup;have hR':=MP (B:=2305843009213693951) zo hR hup;have hP1:=DH (fun h=>hR1.elim (fun h1=>h1.2) (fun h1=>absurd h1.1 zo)) hup;rw[hup] at hu;exact⟨0,X',N+1,q,false,⟨by omega,hR',.inl ⟨alb _,hP1⟩⟩,ajp _,fun h=>(by cases h),k2,hu⟩
   | none=>
     rw[hup] at hu
     have hN1:1≤N:=by
      rcases ajW N with h0 | h0
      · subst h0
        exact absurd hup (qC hp)
      · exact h0
     exact⟨8,X,N,L.length,true,⟨hX,hR,hR1⟩,by omega,fun _=>hN1,ajp _,hu⟩
end Go.Proofs.YtcnlmelpnflhnaaGreat
