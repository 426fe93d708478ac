import Derived.Test.YtcnlmelpnflhnaaGreatBn
import Derived.Test.YtcnlmelpnflhnaaGreatBj
import Derived.Test.YtcnlmelpnflhnaaGreatAc
import Derived.Test.YtcnlmelpnflhnaaGreatAf
namespace Go.Proofs.YtcnlmelpnflhnaaGreat
open Go.Eng Go.Vx
set_option linter.unusedSimpArgs false
set_option linter.unusedVariables false
set_option maxRecDepth 100000
theorem zS {X:List Cell} (hX:X.length≤256) (h:X≠ []):aA Tryz.prog 112 [.row 2 (X.map cV)] [] (.sl 0 2 0 X.length) [some (.row 2 (X.map cV))]:=by
 refine zF pl Tryz.call112 Tryz.func112 [.tmp 2] fun Q hQ=>?_;have he:(X.map cV).isEmpty=false:=by simp[h]
 refine bg he ?_;exact ai [some 1] hQ
theorem Fu {M D S:Nat} {st:SS} (hX:st.1.length≤256) (h:st.1≠ []):aA Tryz.prog 53 [Km M D S st] [] (.ref 0 0 0 0) [some (Ly M D S 1 st.1.length st.2.1 st.2.2),some (.row 2 (st.1.map cV))]:=by
 have hc:=zS hX h;refine zF pl Tryz.call53 Tryz.func53 [.tmp 2] fun Q hQ=>?_;refine ae ?_;refine dk (hc) ?_;exact zE [some 0,some 1] hQ
def F3 (M D S:Nat) (L:List Bool) (d:Bool) (st:SS) (i n p:Nat):SS×Int×Nat×Bool:=Ft st L d ((tN (cZ M D S) st i n).run L p)
theorem HI {P:SP} {L:List Bool} {st:SS} {i n p:Nat}:(tN P st i n).run L p=match (fq n (st.2.1*(st.1.getD i (0,0)).2)).run L p with | some (b,q)=>(gK P i (q9 P st.2.1 (st.1.getD i (0,0)).2) st ((st.1.getD i (0,0)).1+b,(st.1.getD i (0,0)).2)).run L q | none=>none:=by
 unfold tN;rw[run_bind]
 cases (fq n (st.2.1*(st.1.getD i (0,0)).2)).run L p with
 | none=>rfl
 | some x=>rfl
set_option maxHeartbeats 4000000 in
theorem LZ {M D S p i n:Nat} {st:SS} {d:Bool} {L:List Bool} (hw:WB M D S) (hL:L.length≤1048576) (hp:p≤L.length) (hd:d=true→p=L.length) (hX:st.1.length≤256) (hi:i<st.1.length)
 (hs:SOk (cZ M D S) st) (hn:n≤1048576):
 aA Tryz.prog 18 [.ref 0 0 0 0,.ref 1 0 0 0,.I i,.I n] [some (zG M D S st),some (bm L p d)]
 (.I (F3 M D S L d st i n p).2.1) [some (zG M D S (F3 M D S L d st i n p).1),some (bm L (F3 M D S L d st i n p).2.2.1 (F3 M D S L d st i n p).2.2.2)]:=by
 have hpw:=hw.pw;have hd3:=hpw.d3;have hm255:=hpw.m255;have hs4:=hpw.s4;have hne:st.1≠ []:=by intro e;rw[e] at hi;exact absurd hi (by simp)
 have hgi:st.1[i]? =some (st.1.getD i (0,0)):=by rw[akf,akh hi];rfl
 have hok:=Da hs.c i;have g:=Mp (M:=M) (D:=D) (S:=S) hgi hX;have hcl:=Fu (M:=M) (D:=D) (S:=S) hX hne;have hfit:=fun(p':Nat) (c:Cell) (h1:p'≤L.length) (h2:d=true→p'=L.length) (h3:c.1≤16777216) (h4:c.2≤(cZ M D S).d)=>MW (F:=q9 (cZ M D S) st.2.1 c.2) hw hL h1 h2 hX hi hs h3 h4 (Dq _ _ _);unfold F3 at hcl ⊢;rw[HI];have hss2:=hs.s2;generalize hP:cZ M D S=P at*
 obtain ⟨cs,s,fu⟩:=st;dsimp only at hX hi hgi hok g hcl hfit hss2 ⊢;generalize hc0:cs.getD i (0,0)=c0 at*
 obtain ⟨hk1,hk2,-⟩:=hok;have hsm:=H6 (s:=s) (m:=c0.2) zo zo;have o:=eI (x:=n) zo;have e:(s:Int)*(c0.2:Int)=((s*c0.2:Nat):Int):=by simp
 have r:=pz (L:=L) (n:=n) (k:=s*c0.2) (p:=p) (d:=d) hL hp hd zo zo
 cases h1:(fq n (s*c0.2)).run L p with
 | none=>
   rw[jr h1] at r;dsimp only[Ft];generalize s*c0.2=k at*
   refine zF Ro Tryz.call18 Tryz.func18 [.tmp 8] fun Q hQ=>?_;refine ae ?_;refine ch (g) ?_;refine bg e ?_;refine aF [] [3] (o) ?_;refine bg e ?_;refine zW [some 1] [] r ?_;exact ai [some 0,some 1] hQ
 | some rr=>
   obtain ⟨b,q⟩:=rr;have hnx:=il hp hd h1;have hnl:=vF h1;have hf:=hfit q (c0.1+b,c0.2) hnx.1 hnx.2 (by dsimp only;omega) hk2;dsimp only at hf ⊢;rw[jj h1] at r;generalize s*c0.2=k at*
   refine zF Ro Tryz.call18 Tryz.func18 [.tmp 8] fun Q hQ=>?_;refine ae ?_;refine ch (g) ?_;refine bg e ?_;refine aF [] [3] (o) ?_;refine bg e ?_;refine zW [some 1] [] r ?_;refine dk (hcl) ?_;refine ae ?_;refine Pq [some 4,some 1,some 5] [] (hf) ?_;rintro ⟨⟨Y,s',fu'⟩,e',q',d'⟩ hx;unfold MN at hx
   cases h4:(gK P i (q9 P s c0.2) (cs,s,fu) (c0.1+b,c0.2)).run L q with
   | none=>
     rw[h4] at hx hQ;dsimp only[Ft] at hx hQ;simp only[Prod.mk.injEq] at hx;obtain ⟨rfl,rfl,rfl⟩:=hx;exact zE [some 0,some 1] hQ
   | some r=>
     obtain ⟨⟨Y1,s1,fu1⟩,q1⟩:=r;have hln:=(i5 (Cz P i _ (cs,s,fu) (c0.1+b,c0.2)) h4).1;dsimp only at hln;rw[h4] at hx hQ;dsimp only[Ft] at hx hQ;simp only[Prod.mk.injEq] at hx;obtain ⟨⟨rfl,rfl,rfl⟩,rfl,rfl,rfl⟩:=hx;exact zE [some 0,some 1] hQ
attribute [local go_sem] List.take_succ_cons List.take_zero List.drop_succ_cons List.drop_zero
end Go.Proofs.YtcnlmelpnflhnaaGreat

namespace Go.Proofs.YtcnlmelpnflhnaaGreat
open Go.Eng Go.Vx
set_option linter.unusedSimpArgs false
set_option linter.unusedVariables false
set_option maxRecDepth 100000
def Zx (x:Int×Int×Bool):List PV:=[.I x.1,.I x.2.1,.lit (.bool x.2.2)]
@[go_sem] theorem ag9 {x:Int×Int×Bool}:Zx x=[.I x.1,.I x.2.1,.lit (.bool x.2.2)]:=(rfl)
def qy (x:Nat×Nat×Bool):List PV:=[.I x.1,.I x.2.1,.lit (.bool x.2.2)]
@[go_sem] theorem RQ {x:Nat×Nat×Bool}:qy x=[.I x.1,.I x.2.1,.lit (.bool x.2.2)]:=(rfl)
theorem jS {α:Type} [Inhabited α] {l:List α} {i:Nat} {x:α} (h:l[i]? =some x):l.getD i default=x:=by rw[akf,h];rfl
def qA (k a b:Nat) (l:List (Int×Int×Bool)):List (Nat×Nat×Bool):=if l=[] then [(0,0,false)] else(l.take 8).map (wi k a b)
def tI (k a b:Nat) (S:List (Nat×Nat×Bool)) (i:Nat):List Nat:=(S.take i).map (fun s=>numOf (dr k a b s))++List.replicate (S.length-i) 0
theorem wT (k a b:Nat) (S:List (Nat×Nat×Bool)) {i:Nat} (hi:i≤S.length):(tI k a b S i).length=S.length:=by
 unfold tI;rw[ake,aki,akr,akB];omega
theorem BK (k a b:Nat) (S:List (Nat×Nat×Bool)) (i:Nat):∀x∈tI k a b S i,x<2^wd k a b:=by
 intro x hx;unfold tI at hx;rcases alK.1 hx with hx | hx
 · obtain ⟨s,_,rfl⟩:=alb.1 hx
   have:=dw (dr k a b s)
   rw[ey] at this;exact this
 · rw[(amq.1 hx).2]
   exact akN zd
theorem vY (k a b:Nat) {S:List (Nat×Nat×Bool)} {i:Nat} {s:Nat×Nat×Bool} (h:S[i]? =some s):(tI k a b S i).set i (numOf (dr k a b s))=tI k a b S (i+1):=by
 have hi:i<S.length:=(ali.1 h).1;unfold tI;rw[List.set_append,if_neg (by simp;omega),aki,akr,alh zo,alw];obtain ⟨q,hq⟩:∃q,S.length-i=q+1:=⟨S.length-i-1,by omega⟩;rw[hq,alE,amt,ama,h,show S.length-(i+1)=q by omega]
 simp
theorem NQ {k a b:Nat} {l:List (Int×Int×Bool)}:1≤(qA k a b l).length∧(qA k a b l).length≤8:=by
 unfold qA
 by_cases h:l=[]
 · rw[if_pos h];exact⟨akk _,by decide⟩
 · rw[if_neg h,aki,akr]
   have:=amT.2 h
   omega
theorem n9 {k a b:Nat} {l:List (Int×Int×Bool)}:∀s∈qA k a b l,aZ k a b s:=by
 intro s hs;unfold qA at hs
 split at hs
 · rw[ak1.1 hs]
   unfold aZ
   split
   · exact⟨akF _,akF _,fun h=>by cases h⟩
   · exact⟨rfl,akF _,fun h=>by cases h⟩
 · obtain ⟨x,_,rfl⟩:=alb.1 hs
   exact DO
set_option maxHeartbeats 4000000 in
theorem ES {k a b:Nat} {l:List (Int×Int×Bool)} (h:Pe k a b) (hl:l.length≤9223372036854775807):
 aA Tryz.prog 25 [pR k a b,.row 3 (l.map Zx)] [] (.tup [.ref 0 0 0 0,.row 3 ((qA k a b l).map qy),.lit (.bool true)])
  [some (cX 1 k a b),some (cI 2 (qA k a b l).length (wd k a b)),some (cx (qA k a b l).length (wd k a b) (bj (wd k a b) (tI k a b (qA k a b l) (qA k a b l).length)))]:=by
 have hb:=aaS h;have hgood:=eR h;have wn:=fun s=>ji (k:=k) (a:=a) (b:=b) (s:=s) hb.2 hb.1;refine zF aae Tryz.call25 Tryz.func25 [.tmp 4,.tmp 5,.tmp 6] fun Q hQ=>?_;refine ae ?_
 refine aU (X:=Nat) (st:=fun i=>([(1,.row 3 (l.map Zx)),(2,.ref 0 0 0 0),(7,.sl 1 3 0 i),(8,.I i)],
  [some (.cells [.I k,.I a,.I b]),some (.row 3 (((l.take i).map (wi k a b)).map qy))]))
  (inv:=fun i=>i≤l.length∧i≤8) (m:=fun i=>8-i) 0 [some 0,none] ⟨akF _,akF _⟩ ?_
 rintro i ⟨hi,hi8⟩
 by_cases hil:i<l.length
 · by_cases hil8:i<8
   · have hgi:l[i]? =some l[i]:=akh hil
     have hget:=jS hgi;have wnx:=wn l[i];have htk:(l.take (i+1)).map (wi k a b)=(l.take i).map (wi k a b)++[wi k a b l[i]]:=by rw[ama,hgi,alQ];rfl
     have hml:((l.take i).map (wi k a b)).length=i:=by rw[aki,akr];omega
     generalize (l.take i).map (wi k a b)=M at*
     generalize wi k a b l[i]=r at*
     have st17:=iw (s:=r);refine bg hget ?_;refine aC (wnx) rfl rfl ?_;refine bg hget ?_;refine aC (st17) rfl rfl ?_;refine bg hget ?_;refine aI (i+1) [some 0,some 3] rfl ?_ ?_ ⟨hil,hil8⟩ zo
     · dsimp only
       rw[htk,alQ,List.map_singleton,RQ]
       (simp(disch:=(first | omega | (simp only[cS,aki,akj,true_and,and_true];(try omega);done) | fail)) only[go_sem,Int.reduceEq,Int.reduceToNat,Nat.reduceAdd,Nat.reduceMul,Nat.reduceEqDiff, ↓reduceIte,true_and,and_true,and_self,akv,akw,akk,V.lit.injEq,Value.int.injEq,Value.bool.injEq];try (first | omega | (simp;done) | (simp;omega)))
     · (simp(disch:=(first | omega | (simp only[cS,aki,akj,true_and,and_true];(try omega);done) | fail)) only[go_sem,Int.reduceEq,Int.reduceToNat,Nat.reduceAdd,Nat.reduceMul,Nat.reduceEqDiff, ↓reduceIte,true_and,and_true,and_self,akv,akw,akk,V.lit.injEq,Value.int.injEq,Value.bool.injEq];try (first | omega | (simp;done) | (simp;omega)))
   · have hie:i=8:=by omega
     have hS:qA k a b l=(l.take i).map (wi k a b):=by
      unfold qA;rw[if_neg (fun e=>by rw[e] at hil;simp at hil),hie]
     rw[←hS];have hSl:(qA k a b l).length=i:=by rw[hS,aki,akr];omega
     have hSw:=n9 (k:=k) (a:=a) (b:=b) (l:=l);generalize qA k a b l=S at*
     have own:=kS (k:=k) (a:=a) (b:=b);have cn:=oF (n:=i) hgood zo
     have hz:cx i (wd k a b) 0=cx i (wd k a b) (bj (wd k a b) (tI k a b S 0)):=by
      unfold tI;rw[alf];show _=cx i (wd k a b) (bj (wd k a b) (List.replicate _ 0));rw[ij]
     rw[hz] at cn;clear hz;rw[hSl] at hQ;refine bg hSl ?_;refine aC (own) rfl rfl ?_;refine bg hSl ?_;refine zW [] [] cn ?_
     refine aU (X:=Nat) (st:=fun j=>([(7,.row 3 (S.map qy)),(9,.ref 0 0 0 0),(52,.row 3 (S.map qy)),(53,.I i),(54,.I j)],
      [some (cX 1 k a b),some (cI 2 i (wd k a b)),some (cx i (wd k a b) (bj (wd k a b) (tI k a b S j)))]))
      (inv:=fun j=>j≤i) (m:=fun j=>i-j) 0 [some 2,some 3,some 4] (akF _) ?_
     intro j hj
     by_cases hjl:j<i
     · have hgj:S[j]? =some S[j]:=akh zo
       have hget:=jS hgj;have hset:=vY k a b hgj;have st:=nV (n:=i) (i:=j) (N:=tI k a b S j) (s:=S[j]) hgood (hSw _ (aly _)) zo hjl (by rw[wT k a b S zo,hSl]) (BK k a b S j);rw[hset] at st;generalize S[j]=r at*
       refine bg hget ?_;refine zW [some 0,some 1,some 2] [] st ?_;refine aR (j+1) [some 0,some 1,some 2] zo zo
     · obtain rfl:i=j:=by omega
       exact zE [some 0,some 1,some 2] hQ
 · have hie:i=l.length:=by omega
   by_cases h0:l=[]
   · subst h0
     obtain rfl:i=0:=by simpa using hie
     have hSr:(qA k a b []).map qy=dV [.int .i64 0,.int .i64 0,.bool false] 1:=rfl;have hSl:(qA k a b []).length=1:=rfl;have hSw:=n9 (k:=k) (a:=a) (b:=b) (l:=[]);generalize qA k a b []=S at*
     have own:=kS (k:=k) (a:=a) (b:=b);have cn:=oF (n:=1) hgood zo
     have hz:cx 1 (wd k a b) 0=cx 1 (wd k a b) (bj (wd k a b) (tI k a b S 0)):=by
      unfold tI;rw[alf];show _=cx 1 (wd k a b) (bj (wd k a b) (List.replicate _ 0));rw[ij]
     rw[hz] at cn;clear hz;rw[hSl] at hQ;refine bg hSl ?_;rw[←hSr];refine aC (own) rfl rfl ?_;refine bg hSl ?_;refine zW [] [] cn ?_
     refine aU (X:=Nat) (st:=fun j=>([(7,.row 3 (S.map qy)),(9,.ref 0 0 0 0),(52,.row 3 (S.map qy)),(53,.I 1),(54,.I j)],
      [some (cX 1 k a b),some (cI 2 1 (wd k a b)),some (cx 1 (wd k a b) (bj (wd k a b) (tI k a b S j)))]))
      (inv:=fun j=>j≤1) (m:=fun j=>1-j) 0 [some 3,some 4,some 5] (akF _) ?_
     intro j hj
     by_cases hjl:j<1
     · have hgj:S[j]? =some S[j]:=akh zo
       have hget:=jS hgj;have hset:=vY k a b hgj;have st:=nV (n:=1) (i:=j) (N:=tI k a b S j) (s:=S[j]) hgood (hSw _ (aly _)) zo hjl (by rw[wT k a b S zo,hSl]) (BK k a b S j);rw[hset] at st;generalize S[j]=r at*
       refine eo hget hSl ?_;refine zW [some 0,some 1,some 2] [] st ?_;refine aR (j+1) [some 0,some 1,some 2] zo zo
     · obtain rfl:j=1:=by omega
       exact zE [some 0,some 1,some 2] hQ
   · have hS:qA k a b l=(l.take i).map (wi k a b):=by
      unfold qA;rw[if_neg h0,hie,akw,aku zo]
     rw[←hS];have hSl:(qA k a b l).length=i:=by rw[hS,aki,akr];omega
     have hi1:1≤i:=by have:=amT.2 h0;omega
     have hSw:=n9 (k:=k) (a:=a) (b:=b) (l:=l);generalize qA k a b l=S at*
     have own:=kS (k:=k) (a:=a) (b:=b);have cn:=oF (n:=i) hgood zo
     have hz:cx i (wd k a b) 0=cx i (wd k a b) (bj (wd k a b) (tI k a b S 0)):=by
      unfold tI;rw[alf];show _=cx i (wd k a b) (bj (wd k a b) (List.replicate _ 0));rw[ij]
     rw[hz] at cn;clear hz;rw[hSl] at hQ;refine bg hSl ?_;refine aC (own) rfl rfl ?_;refine bg hSl ?_;refine zW [] [] cn ?_
     refine aU (X:=Nat) (st:=fun j=>([(7,.row 3 (S.map qy)),(9,.ref 0 0 0 0),(52,.row 3 (S.map qy)),(53,.I i),(54,.I j)],
      [some (cX 1 k a b),some (cI 2 i (wd k a b)),some (cx i (wd k a b) (bj (wd k a b) (tI k a b S j)))]))
      (inv:=fun j=>j≤i) (m:=fun j=>i-j) 0 [some 2,some 3,some 4] (akF _) ?_
     intro j hj
     by_cases hjl:j<i
     · have hgj:S[j]? =some S[j]:=akh zo
       have hget:=jS hgj;have hset:=vY k a b hgj;have st:=nV (n:=i) (i:=j) (N:=tI k a b S j) (s:=S[j]) hgood (hSw _ (aly _)) zo hjl (by rw[wT k a b S zo,hSl]) (BK k a b S j);rw[hset] at st;generalize S[j]=r at*
       refine bg hget ?_;refine zW [some 0,some 1,some 2] [] st ?_;refine aR (j+1) [some 0,some 1,some 2] zo zo
     · obtain rfl:i=j:=by omega
       exact zE [some 0,some 1,some 2] hQ
theorem Ab {a b c:Int}:∃M D S:Nat,WB M D S∧M≤4∧S≤3∧aA Tryz.prog 28 [.agg [.I a,.I b,.I c]] [] (pA M D S) []:=by
 obtain ⟨M,hM⟩:∃m:Nat,1+a%4=(m:Int):=⟨(1+a%4).toNat,by omega⟩;obtain ⟨D,hD⟩:∃m:Nat,1+b%2=(m:Int):=⟨(1+b%2).toNat,by omega⟩;obtain ⟨S,hS⟩:∃m:Nat,1+c%256%3=(m:Int):=⟨(1+c%256%3).toNat,by omega⟩;have m1:bS .and .i64 a 3=a%4:=eB (k:=.i64) (j:=2) (a:=a) zd;have m2:bS .and .i64 b 1=b%2:=eB (k:=.i64) (j:=1) (a:=b) zd;have m3:bS .and .i64 c 255=c%256:=eB (k:=.i64) (j:=8) (a:=c) zd;refine⟨M,D,S,⟨by omega,by omega,by omega,by omega,by omega,by omega⟩,by omega,by omega,?_⟩;refine zF pl Tryz.call28 Tryz.func28 [.cell 2 26] fun Q hQ=>?_;refine Mi m1 m2 m3 hM hD hS ?_;exact ai [] hQ
theorem KC {M D S:Nat}:aA Tryz.prog 27 [pA M D S] [] (pA M D S) []:=by
 refine zF pl Tryz.call27 Tryz.func27 [.cell 2 81] fun Q hQ=>?_;exact zE [] hQ
theorem WB.good {M D S:Nat} (h:WB M D S):mj M D S:=⟨⟨by have:=h.m1;omega,by have:=h.m8;omega⟩,⟨by have:=h.d1;omega,by have:=h.d2;omega⟩,by have:=h.s1;omega,by have:=h.s4;omega⟩
theorem ok0 {P:SP} (h:PB P) {n:Nat}:SOk P (List.replicate n (0,0),1,false):=⟨fun c hc=>by
 rw[alR hc];exact⟨akF _,akF _,fun _=>rfl⟩,akk _,h.s1,fun h=>by cases h⟩
theorem Bk:aA Tryz.prog 7 [] [] (.lit (.bool true)) []:=by
 have hg:aX 2 1 3:=.inr (.inl ⟨rfl,by decide,by decide,by decide⟩);have hw:aZ 2 1 3 (5,0,false):=by unfold aZ;rw[if_neg zd];exact⟨rfl,by decide,fun h=>by cases h⟩
 have hp:j9 (bT 1++cu [2,1,3]++dr 2 1 3 (5,0,false))=[18,209,40]:=by decide+kernel
 obtain ⟨c0,c1,c2,c3,hc⟩:∃c0 c1 c2 c3,(nl (aT [18,209,40])).map (ie .u8)=[[.lit (.int .u8 18)],[.lit (.int .u8 209)],[.lit (.int .u8 40)],c0,c1,c2,c3]:=⟨_,_,_,_,rfl⟩;have en:=N4 hg hw;have ck:=jy hg hw;rw[hp,hc] at en;generalize hx:zH 2 1 3 (5,0,false)=x at en ck;have hx':x=.agg [.I 1,.I 2,.I 1,.I 3,.I 5,.I 0,.lit (.bool false),.lit (.pointer none),.lit (.pointer none),.lit (.pointer none),.lit (.pointer none)]:=hx.symm;subst hx';clear hx;refine zF pl Tryz.call7 Tryz.func7 [.tmp 0] fun Q hQ=>?_;refine ae ?_;refine zC en ?_;refine zC ck ?_;exact ai [] hQ
def rgs (k a b:Nat) (S:List (Nat×Nat×Bool)):List Bool:=S.flatMap (dr k a b)
end Go.Proofs.YtcnlmelpnflhnaaGreat
