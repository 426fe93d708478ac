import Derived.Test.YtcnlmelpnflhnaaGreatBg
import Derived.Test.YtcnlmelpnflhnaaGreatBc
import Derived.Test.YtcnlmelpnflhnaaGreatFw
namespace Go.Proofs.YtcnlmelpnflhnaaGreat
open Go.Eng Go.Vx
set_option linter.unusedSimpArgs false
set_option linter.unusedVariables false
set_option maxRecDepth 100000
theorem qe {A B R:List Bool} {n:Nat} (h:B.length=n):((A++(B++R)).drop A.length).take n=B:=by
 rw[List.drop_left' rfl,alo h]
theorem jE {A R:List Bool} {k a b:Nat} {s:SR} (h:aX k a b) (w:aZ k a b s):uS (A++(dr k a b s++R)) k a b A.length=(some s,A.length+wd k a b,0):=by
 obtain ⟨l1,l2⟩:=CL h w;have e0:A++(dr k a b s++R)=A++(numBits s.1 (w1 k a b)++(numBits s.2.1 (w2 k a b)++([s.2.2]++R))):=by unfold dr;simp
 have t1:=qe (A:=A) (B:=numBits s.1 (w1 k a b)) (R:=numBits s.2.1 (w2 k a b)++([s.2.2]++R)) (aj _ _);have e1:A++(numBits s.1 (w1 k a b)++(numBits s.2.1 (w2 k a b)++([s.2.2]++R)))=(A++numBits s.1 (w1 k a b))++(numBits s.2.1 (w2 k a b)++([s.2.2]++R)):=by simp
 have t2:=qe (A:=A++numBits s.1 (w1 k a b)) (B:=numBits s.2.1 (w2 k a b)) (R:=[s.2.2]++R) (aj _ _);have e2:A++(numBits s.1 (w1 k a b)++(numBits s.2.1 (w2 k a b)++([s.2.2]++R)))=(A++numBits s.1 (w1 k a b)++numBits s.2.1 (w2 k a b))++(s.2.2::R):=by simp
 have t3:((A++numBits s.1 (w1 k a b)++numBits s.2.1 (w2 k a b))++(s.2.2::R)).getD (A.length+w1 k a b+w2 k a b) false=s.2.2:=by
  have hl:A.length+w1 k a b+w2 k a b=(A++numBits s.1 (w1 k a b)++numBits s.2.1 (w2 k a b)).length:=by simp only[ake,aj]
  rw[hl,akf,akq (akk _),alw]
  rfl
 rw[←e1,ake,aj] at t2;rw[←e2] at t3
 have hst:Fx (A++(dr k a b s++R)) k a b A.length=s:=by
  unfold Fx;rw[e0,t1,t2,t3,ba,ba,akG l1,akG l2]
 have hlen:A.length+wd k a b≤(A++(dr k a b s++R)).length:=by
  rw[ake,ake,ey];unfold wd;omega
 unfold uS;rw[if_pos hlen,hst,if_pos w]
theorem n5 {k a b:Nat} {s:SR}:numBits (iL k a b s) (wd k a b)=dr k a b s:=by
 have h:=jb (dr k a b s);rw[ey] at h;exact h
set_option maxHeartbeats 2000000 in
theorem My {k a b n i:Nat} {l:List SR} (h:aX k a b) (hn:n≤256) (hi:i<n) (hl:l.length=n) (hw:∀s∈l,aZ k a b s):
 aA Tryz.prog 70 [kO k a b n (wd k a b) (bV k a b l),.I i] [] (.tup [sR (l.getD i (0,0,false)),.I 0]) []:=by
 have hwd:=ff h;have hlw:=aB (bq n (wd k a b)) (bV k a b l);have g:=wI (n:=n) (w:=wd k a b) (i:=i) (N:=l.map (iL k a b)) hn ⟨hwd.1,by omega⟩ hi (by intro x hx;obtain ⟨s,_,rfl⟩:=alb.1 hx;exact kT k a b s)
 have e1:(l.map (iL k a b)).getD i 0=iL k a b (l.getD i (0,0,false)):=by
  rw[akf,akf,akX,akh zo]
  rfl
 rw[e1] at g
 have hs:aZ k a b (l.getD i (0,0,false)):=by
  rw[akf,akh zo];exact hw _ (aly _)
 generalize l.getD i (0,0,false)=s at*
 have hx:iL k a b s<2^16:=akT (kT k a b s) (ako zd hwd.2);have wdt:=yX (n:=n) (w:=wd k a b) (L:=words (bq n (wd k a b)) (bV k a b l));have bf:=uU (L:=dr k a b s) (by rw[ey];unfold wd at hwd;omega);have hpl:=k9 (dr k a b s);have hrl:=ey k a b s
 have hI:gQ (pk (dr k a b s)):=by
  intro x hx;unfold pk kK at hx;obtain ⟨j,_,rfl⟩:=alb.1 hx
  have:=iz (dr k a b s) j
  omega
 have rd:=db (B:=pk (dr k a b s)) (by unfold wd at hwd;omega);have rr:=qS (p:=0) h hI (by unfold wd at hwd;omega) zo;have bk:=jE (A:=[]) (R:=List.replicate (8*(((dr k a b s).length+7)/8)-(dr k a b s).length) false) h hs;rw[List.nil_append,←oU,List.length_nil] at bk;rw[bk] at rr;dsimp only at rr;have wn:=cC (L:=[]) (n:=iL k a b s) (m:=(wd k a b:Int)) zo zd zo zo (by rw[Int.toNat_natCast];exact kT k a b s);rw[Int.toNat_natCast,n5,List.nil_append] at wn;change aA _ _ [jQ n (wd k a b) (words (bq n (wd k a b)) (bV k a b l)),_] _ _ _ at g;generalize bV k a b l=X at*
 generalize wd k a b=w at*
 refine zF Xt Tryz.call70 Tryz.func70 [.cell 4 36,.tmp 5] fun Q hQ=>?_;refine ae ?_;refine zC g ?_;refine ch (wdt) ?_;refine ae ?_;refine zW [some 1,none] [] wn ?_;refine dk (bf) ?_;refine ae ?_;refine zW [] [4] rd ?_;refine zW [some 5] [] rr ?_;exact ai [] hQ
theorem dL {k a b n w X:Nat} (hn:n≤256) (hw:1≤w∧w≤32):aA Tryz.prog 52 [kO k a b n w X] [] (.ref 0 0 0 0) [some (cX 1 k a b),some (cI 2 n w),some (cx n w X)]:=by
 have c:=Et (X:=X) hn hw;have hlw:=aB (bq n w) X;refine zF aaR Tryz.call52 Tryz.func52 [.tmp 2] fun Q hQ=>?_;refine ae ?_;refine zW [] [] c ?_;exact ai [some 2,some 0,some 1] hQ
theorem nS {k a b n w X k2 a2 b2 n2 X2 w2:Nat} {e:Bool} (hs:aA Tryz.prog 115 [jQ n w (words (bq n w) X),jQ n2 w2 (words (bq n2 w2) X2)] [] (.lit (.bool e)) []):aA Tryz.prog 56 [kO k a b n w X,kO k2 a2 b2 n2 w2 X2] [] (.lit (.bool (decide (k=k2∧a=a2∧b=b2)&&e))) []:=by
 have hlw:=aB (bq n w) X;have hlw2:=aB (bq n2 w2) X2
 by_cases hq:k=k2∧a=a2∧b=b2
 · obtain ⟨rfl,rfl,rfl⟩:=hq
   rw[aks ⟨rfl,rfl,rfl⟩,alB];refine zF QY Tryz.call56 Tryz.func56 [.tmp 4] fun Q hQ=>?_;refine ae ?_;refine zC hs ?_;exact ai [] hQ
 · have hd:(decide ((k:Int)=(k2:Int))&&(decide ((a:Int)=(a2:Int))&&decide ((b:Int)=(b2:Int))))=false:=by
    rw[al1];intro h;simp only[akn,decide_eq_true_eq] at h;exact hq ⟨by omega,by omega,by omega⟩
   rw[akg hq,amz];refine zF QY Tryz.call56 Tryz.func56 [.tmp 4] fun Q hQ=>?_;refine bg hd ?_;exact ai [] hQ
theorem He {α β:Type} (f:α→β) (l:List α) (i:Nat) (x:α):(l.set i x).map f=(l.map f).set i (f x):=by
 simp
theorem eS {L:List Bool} {k a b n m i p:Nat} {d:Bool} {l:List SR} (hL:L.length≤1048576) (hs:jU k a b) (hm:m≤100) (hn:n≤256) (hi:i<n) (hl:l.length=n) (hw:∀s∈l,aZ k a b s) (hp:p≤L.length):
 ∃(e:Int) (l':List SR) (q:Nat) (d':Bool),l'.length=n∧(∀s∈l',aZ k a b s)∧q≤L.length∧
 aA Tryz.prog 17 [.ref 0 0 0 0,.ref 3 0 0 0,.I i,.I m] [some (cX 1 k a b),some (cI 2 n (wd k a b)),some (cx n (wd k a b) (bV k a b l)),some (bm L p d)] (.I e)
  [some (cX 1 k a b),some (cI 2 n (wd k a b)),some (cx n (wd k a b) (bV k a b l')),some (bm L q d')]:=by
 have h:=fm hs;have g:=My h hn hi hl hw;have hwd:=ff h
 have hws:aZ k a b (l.getD i (0,0,false)):=by
  rw[akf,akh zo];exact hw _ (aly _)
 generalize l.getD i (0,0,false)=s at*
 obtain ⟨e,s',q,d',w',hq,ad⟩:=MK (d:=d) hL hs hm hws hp;have hlw:=aB (bq n (wd k a b)) (bV k a b l)
 by_cases he:e=0
 · subst he
   have st:=nV (N:=l.map (iL k a b)) h w' hn hi (by rw[aki,hl]) (by intro x hx;obtain ⟨s,_,rfl⟩:=alb.1 hx;exact kT k a b s);refine⟨0,l.set i s',q,d',by rw[akJ,hl],fun x hx=>?_,hq,?_⟩
   · rcases amb hx with hx | rfl
     · exact hw x hx
     · exact w'
   have e2:bj (wd k a b) ((l.map (iL k a b)).set i (numOf (dr k a b s')))=bV k a b (l.set i s'):=by
    unfold bV;rw[He]
    rfl
   have hlw2:=aB (bq n (wd k a b)) (bV k a b (l.set i s'));rw[e2] at st;change aA _ _ _ [_,_,some (cx n (wd k a b) (bV k a b l))] _ _ at st;generalize bV k a b (l.set i s')=Y at*
   generalize bV k a b l=X at*
   generalize wd k a b=w at*
   refine zF R6 Tryz.call17 Tryz.func17 [.tmp 8] fun Q hQ=>?_;refine ae ?_;refine ch (g) ?_;refine ae ?_;refine zW [some 3] [] ad ?_;refine zW [some 0,some 1,some 2] [] st ?_;exact ai [some 0,some 1,some 2,some 3] hQ
 · refine⟨e,l,q,d',hl,hw,hq,?_⟩
   generalize bV k a b l=X at*
   generalize wd k a b=w at*
   refine zF R6 Tryz.call17 Tryz.func17 [.tmp 8] fun Q hQ=>?_;refine ae ?_;refine ch (g) ?_;refine ae ?_;refine zW [some 3] [] ad ?_;exact ai [some 0,some 1,some 2,some 3] hQ
def cZ (M D S:Nat):SP:=⟨2^M-1,2^D-1,S⟩
structure WB (M D S:Nat):Prop where
 m1:1≤M
 m8:M≤8
 d1:1≤D
 d2:D≤2
 s1:1≤S
 s4:S≤4
theorem WB.pw {M D S:Nat} (h:WB M D S):PW (cZ M D S):=by
 have a1:2^1≤2^M:=ako zd h.m1;have a2:2^M≤2^8:=ako zd h.m8;have b1:2^1≤2^D:=ako zd h.d1;have b2:2^D≤2^2:=ako zd h.d2
 have:=h.s1
 have:=h.s4
 exact{m1:=by show 1≤2^M-1;omega,m2:=by show 2^M-1≤65535;omega,d1:=by show 1≤2^D-1;omega,d2:=by show 2^D-1≤15;omega,s1:=h.s1,s2:=by show S≤8;omega,m255:=by show 2^M-1≤255;omega,d3:=by show 2^D-1≤3;omega,s4:=h.s4}
theorem BN {M D S n s sc v p:Nat} {cs:List Cell} {f d:Bool} {L:List Bool} (hw:WB M D S) (hL:L.length≤1048576) (hp:p≤L.length) (hd:d=true→p=L.length) (hv:v≤1099511627776) (hsc:sc≤5):
 aA Tryz.prog 172 [.ref 0 0 0 0,.ref 1 0 0 0,NV v,.I sc] (W3 M D S n cs s f L p d)
 (.tup [cA ((gL L d v (sc*bu (cZ M D S) v sc (cZ M D S).d 0) p).1,bu (cZ M D S) v sc (cZ M D S).d 0),.I (gL L d v (sc*bu (cZ M D S) v sc (cZ M D S).d 0) p).2.1])
 (W3 M D S n cs s f L (gL L d v (sc*bu (cZ M D S) v sc (cZ M D S).d 0) p).2.2.1 (gL L d v (sc*bu (cZ M D S) v sc (cZ M D S).d 0) p).2.2.2):=by
 have ht:=tn (M:=M) (D:=D) (S:=S) (by have:=hw.m8;omega) (by have:=hw.d2;omega);have hpw:=hw.pw;have hd3:=hpw.d3;have hm255:=hpw.m255;have hml:=wc (P:=cZ M D S) (v:=v) (s:=sc);rw[show 2^M-1=(cZ M D S).m from rfl,show 2^D-1=(cZ M D S).d from rfl] at ht;have hsm:sc*bu (cZ M D S) v sc (cZ M D S).d 0≤5*3:=akH hsc zo;have hr:=pz (L:=L) (n:=v) (k:=sc*bu (cZ M D S) v sc (cZ M D S).d 0) (p:=p) (d:=d) hL hp hd hv zo;generalize hP:cZ M D S=P at*
 generalize hmm:bu P v sc P.d 0=mm at*
 have hvw:(wg v).length≤1:=di zo;refine zF pl Tryz.call172 Tryz.func172 [.cell 8 151,.tmp 9] fun Q hQ=>?_;refine ae ?_;refine zC ht ?_
 refine aU (X:=Nat) (st:=fun m=>([(0,.ref 0 0 0 0),(1,.ref 1 0 0 0),(3,.I sc),(6,.ref 3 0 0 0),(8,.ref 4 0 0 0),(10,.I (P.m:Int)),(11,.I (P.d:Int)),(12,.I m)],W3 M D S n cs s f L p d++[some (.cells [.row 1 ((nl (wg v)).map (ie .u64))]),some (.cells [.I 0,.I 0])]))
  (inv:=fun m=>m≤P.d∧bu P v sc (P.d-m) m=mm) (m:=fun m=>P.d-m) 0 [some 0,some 1,some 2,some 3,some 4] ⟨akF _,hmm⟩ ?_
 rintro m ⟨hm,hmo⟩
 by_cases h1:m<P.d
 · obtain ⟨g,hg⟩:∃g,P.d-m=g+1:=⟨P.d-m-1,by omega⟩
   have hsm2:sc*m≤5*3:=akH hsc zo;have e:(sc:Int)*(m:Int)=((sc*m:Nat):Int):=by simp
   have sh:=Cc (v:=v) (N:=sc*m) (n:=((sc*m:Nat):Int)) zo zo zo;have o:=eI (x:=P.m) zo;have c:=fE (a:=v/2^(sc*m)) (b:=P.m) (akE (di (ak4 (alq _ _) zo)) zd) (akE (di zo) zd);rw[hg] at hmo;unfold bu at hmo
   by_cases h2:P.m<v/2^(sc*m)
   · rw[if_pos ⟨h1,h2⟩] at hmo
     rw[NT h2] at c;generalize v/2^(sc*m)=u at*
     generalize sc*m=k at*
     refine bg e ?_;refine zC sh ?_;refine zW [] [5] o ?_;refine zC c ?_;refine aR (m+1) [some 0,some 1,some 2,some 3,some 4] ⟨by omega,by rw[←hmo];congr 1;omega⟩ zo
   · rw[if_neg (fun h=>h2 h.2)] at hmo
     subst hmo;have hc:iP (v/2^(sc*m)) P.m≤0:=by unfold iP;split<;>(try split)<;>omega
     have hc2:=akg (show¬iP (v/2^(sc*m)) P.m>0 by omega);generalize iP (v/2^(sc*m)) P.m=ci at*
     generalize v/2^(sc*m)=u at*
     generalize gL L d v (sc*m) p=x at*
     generalize sc*m=k at*
     refine bg e ?_;refine zC sh ?_;refine zW [] [5] o ?_;refine aC (c) rfl rfl ?_;refine bg e ?_;refine zW [some 1] [] hr ?_;exact ai [some 0,some 1,some 2] hQ
 · obtain rfl:m=P.d:=by omega
   rw[alw] at hmo;unfold bu at hmo;subst hmo;have e:(sc:Int)*(P.d:Int)=((sc*P.d:Nat):Int):=by simp
   generalize gL L d v (sc*P.d) p=x at*
   generalize sc*P.d=k at*
   refine bg e ?_;refine zW [some 1] [] hr ?_;exact ai [some 0,some 1,some 2] hQ
theorem II (k a b:Nat):iL k a b (0,0,false)=0:=by
 have e:dr k a b (0,0,false)=numBits 0 (wd k a b):=by
  unfold dr wd;rw[fH,fH,fH,List.replicate_succ',←List.replicate_append_replicate]
 unfold iL;rw[e,ba,Nat.zero_mod]
def zs (C:Nat):List SR:=List.replicate C (0,0,false)
theorem Lk (k a b C:Nat):bV k a b (zs C)=0:=by
 unfold bV zs;rw[List.map_replicate,II,ij]
theorem Ei {k a b:Nat}:aZ k a b (0,0,false):=by
 unfold aZ
 split
 · exact⟨akF _,akF _,fun h=>by cases h⟩
 · exact⟨rfl,akF _,fun h=>by cases h⟩
theorem Ka {k a b n:Nat} (h:aX k a b) (hn:1≤n∧n≤256):aA Tryz.prog 79 [pR k a b,.I n] [] (.tup [kO k a b n (wd k a b) (bV k a b (zs n)),.I 0]) []:=by
 have cr:=oF h hn;rw[Lk]
 have aux:∀x,aA Tryz.prog 79 [pR k a b,.I n] [] (.tup [.ref 0 0 0 0,.I 0]) [some (cX 1 k a b),some (cI 2 n (wd k a b)),some (cx n (wd k a b) x)]→aA Tryz.prog 79 [pR k a b,.I n] [] (.tup [kO k a b n (wd k a b) x,.I 0]) []:=by
  intro x cr;have hlw:=aB (bq n (wd k a b)) x;exact sF [] (cr)
 exact aux 0 cr
def hV (h:Nat×Nat):List PV:=[.lit (.int .u64 h.1),.lit (.int .u64 h.2)]
attribute [go_sem] hV
def rws (C:Nat) (l:List (Nat×Nat)):List RW:=l.map fun h=>(h.1,h.2,zs C)
theorem EW {C k a b:Nat} {hs:List (Nat×Nat)} (hR:1≤hs.length∧hs.length≤4) (hC:1≤C∧C≤64) (h:aX k a b) (hh:∀x∈hs,x.1<2305843009213693951∧x.2<2305843009213693951):
 aA Tryz.prog 31 [.agg [.I hs.length,.I C,.I k,.I a,.I b],.row 2 (hs.map hV)] [] (.tup [.ref 0 0 0 0,.I 0]) [some (jd hs.length C k a b (rws C hs) 0)]:=by
 have ck:=ri (R:=(hs.length:Int)) (C:=(C:Int)) ⟨by omega,by omega,by omega,by omega⟩ h;have nw:=Ka (n:=C) h ⟨hC.1,by omega⟩;refine zF Xk Tryz.call31 Tryz.func31 [.tmp 4,.tmp 5] fun Q hQ=>?_;refine ae ?_;refine zC ck ?_
 refine aW (X:=Nat) (st:=fun i=>([(2,.ref 0 0 0 0),(7,.ref 1 0 0 0),(28,.row 2 (hs.map hV)),(29,.I hs.length),(30,.I i)],
  [some (.cells [.I hs.length,.I C,.I k,.I a,.I b]),some (.cells [.I hs.length,.I C,.I k,.I a,.I b,.sl 2 3 0 i,.I 0]),some (.row 3 ((rws C (hs.take i)).map (iM k a b C)))]))
  (inv:=fun i=>i≤hs.length) (m:=fun i=>hs.length-i) 0 [some 0,some 1,none] rfl ?_ zM (akF _) ?_
 · dsimp only
   (simp(disch:=(first | omega | (simp only[cS,aki,akj,true_and,and_true];(try omega);done) | fail)) only[go_sem,Int.reduceEq,Int.reduceToNat,Nat.reduceAdd,Nat.reduceMul,Nat.reduceEqDiff, ↓reduceIte,true_and,and_true,and_self,akv,akw,akk,V.lit.injEq,Value.int.injEq,Value.bool.injEq];try (first | omega | (simp;done) | (simp;omega)))
   rfl
 intro i hi
 by_cases hil:i<hs.length
 · have hx:=hh (hs.getD i default) (by rw[akf,akh hil];exact aly _)
   have ht:rws C (hs.take (i+1))=rws C (hs.take i)++[((hs.getD i default).1,(hs.getD i default).2,zs C)]:=by
    unfold rws;rw[akL hil,alQ,akf,akh hil]
    rfl
   have hlr:(rws C (hs.take i)).length=i:=by unfold rws;rw[aki,akr];omega
   generalize rws C (hs.take i)=l at*
   obtain ⟨⟨A,B⟩,ea⟩:∃a,hs.getD i default=a:=⟨_,rfl⟩;rw[ea] at ht hx;dsimp only at hx ht;have hc:=vo (A:=A) (B:=B);rw[if_pos hx] at hc;refine bg ea ?_;refine zC hc ?_;refine zC nw ?_;refine aI (i+1) [some 0,some 1,some 5] rfl ?_ zM zo zo;rw[ht,List.map_append];simp only[List.map_cons,List.map_nil,iM,m9]
   (simp(disch:=(first | omega | (simp only[cS,aki,akj,true_and,and_true];(try omega);done) | fail)) only[go_sem,Int.reduceEq,Int.reduceToNat,Nat.reduceAdd,Nat.reduceMul,Nat.reduceEqDiff, ↓reduceIte,true_and,and_true,and_self,akv,akw,akk,V.lit.injEq,Value.int.injEq,Value.bool.injEq];try (first | omega | (simp;done) | (simp;omega)))
 · obtain rfl:i=hs.length:=by omega
   rw[akw];have hlr:(rws C hs).length=hs.length:=by unfold rws;rw[aki]
   generalize rws C hs=l at*
   generalize hs.length=n at*
   subst hlr;exact zE [some 1] hQ
end Go.Proofs.YtcnlmelpnflhnaaGreat
