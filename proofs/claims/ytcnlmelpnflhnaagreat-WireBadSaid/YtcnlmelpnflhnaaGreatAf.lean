import Derived.Test.YtcnlmelpnflhnaaGreatAc
import Derived.Test.YtcnlmelpnflhnaaGreatBe
import Derived.Test.YtcnlmelpnflhnaaGreatBg
import Derived.Test.YtcnlmelpnflhnaaGreatOb
import Derived.Test.YtcnlmelpnflhnaaGreatBc
import Derived.Test.YtcnlmelpnflhnaaGreatFw
namespace Go.Proofs.YtcnlmelpnflhnaaGreat
open Go.Eng Go.Vx
set_option linter.unusedSimpArgs false
set_option linter.unusedVariables false
set_option maxRecDepth 100000
def Za (v:Nat):V:=.agg [.I 3,.I 0,.I 0,.I 0,.I 0,.I 0,.lit (.bool false),.lit (.pointer none),.ref v 0 0 0,.lit (.pointer none),.lit (.pointer none)]
def Yl (v:Nat):V:=.agg [.I 5,.I 0,.I 0,.I 0,.I 0,.I 0,.lit (.bool false),.lit (.pointer none),.lit (.pointer none),.lit (.pointer none),.ref v 0 0 0]
attribute [go_sem] Za Yl
theorem zQ {M D S:Nat} {st:SS}:aA Tryz.prog 93 [Km M D S st] [] (pA M D S) []:=by
 refine zF pl Tryz.call93 Tryz.func93 [.cell 2 81] fun Q hQ=>?_;exact zE [] hQ
theorem H7 {M D S:Nat} {st:SS}:aA Tryz.prog 30 [Km M D S st] [] (.I st.1.length) []:=by
 refine zF pl Tryz.call30 Tryz.func30 [.tmp 2] fun Q hQ=>?_;exact zE [] hQ
theorem Bz {K P C:Int} {X:List (Nat×Nat)} {N:Nat}:aA Tryz.prog 95 [L4 K P C X N] [] (.agg [.I K,.I P,.I C]) []:=by
 refine zF pl Tryz.call95 Tryz.func95 [.cell 2 93] fun Q hQ=>?_;exact zE [] hQ
theorem uX {n w:Nat} {N:List Nat} {L:List Bool} (hn:n≤256) (hw:1≤w∧w≤32) (hN:N.length=n) (hl:∀x∈N,x<2^w) (hL:L.length<1099511600000):
 aA Tryz.prog 40 [jQ n w (words (bq n w) (bj w N)),.ref 0 0 0 0] [some (jY 1 L),some (jN L)] (.tup []) [some (jY 2 (L++du w N)),none,some (jN (L++du w N))]:=by
 refine zF pl Tryz.call40 Tryz.func40 [] fun Q hQ=>?_;have hnw:n*w≤256*32:=akH hn hw.2;have hlw:=aB (bq n w) (bj w N);refine ae ?_
 refine aW (X:=Nat) (st:=fun i=>([(0,jQ n w (words (bq n w) (bj w N))),(1,.ref 0 0 0 0),(10,.I n),(11,.I i)],[some (jY 2 (L++du w (N.take i))),none,some (jN (L++du w (N.take i)))]))
  (inv:=fun i=>i≤n) (m:=fun i=>n-i) 0 [some 0,some 1,some 1] rfl (by simp only[alf,du,List.flatMap_nil,ak7];exact zM) zM zo ?_
 intro i hi
 by_cases h:i<n
 · have hx:=vO hl i
   have ht:=BH (w:=w) (N:=N) (i:=i) zo;have hlen:=jm w (N.take i);have hlen2:(N.take i).length*w≤256*32:=akH (by simp;omega) hw.2;have hp:=D5 hw;refine ae ?_;refine zC (wI (n:=n) (w:=w) (N:=N) (i:=i) hn hw h hl) ?_;refine aF [some 0,some 2] [] (cC (L:=L++du w (N.take i)) (n:=N.getD i 0) (m:=(w:Int)) zo (by rw[ake];omega) zo zo (by simpa using hx)) ?_;rw[ak0,akl,←ht];refine ae ?_;refine aR (i+1) [some 0,some 1,some 3] zo zo
 · obtain rfl:i=n:=by omega
   rw[aku (show N.length≤i by omega)];exact zE [some 0,some 1,some 2] hQ
set_option maxHeartbeats 4000000 in
theorem Ah {M D S:Nat} {st:SS} {L:List Bool} (hM:M≤16) (hD:D≤4) (hX:st.1.length≤256) (hc:∀c∈st.1,c.1<2^M∧c.2<2^D) (hs:1≤st.2.1∧st.2.1≤8) (hL:L.length<1000000000):
 aA Tryz.prog 41 [Km M D S st,.ref 0 0 0 0] [some (jY 1 L),some (jN L)] (.tup []) [some (jY 2 (L++eC M D st)),none,some (jN (L++eC M D st))]:=by
 obtain ⟨cs,s,f⟩:=st;dsimp only at hX hc hs;have n1:=cC (L:=L) (n:=s-1) (m:=3) zo zo zd zd (by show s-1<2^3;omega);have b1:=AZ (L:=L++numBits (s-1) 3) (x:=f) (by rw[List.length_append,aj];omega);rw[show Int.toNat 3=3 from rfl] at n1;have hs1:(s:Int)-1=((s-1:Nat):Int):=by omega
 have e:L++eC M D (cs,s,f)=L++numBits (s-1) 3++[f]++kz M D cs:=by simp[eC]
 have hl:(L++numBits (s-1) 3++[f]).length<1000000010:=by rw[ake,ake,aj,alj];omega
 have hpM:2^M≤2^16:=ako zd hM;have hpD:2^D≤2^4:=ako zd hD;rw[e];clear e;refine zF SI Tryz.call41 Tryz.func41 [] fun Q hQ=>?_;refine bg hs1 ?_;refine zW [some 0,some 1] [] n1 ?_;refine aF [some 0,some 2] [] (b1) ?_;generalize L++numBits (s-1) 3++[f]=Q0 at*
 refine ae ?_
 refine aW (X:=Nat) (st:=fun i=>([(0,Km M D S (cs,s,f)),(1,.ref 0 0 0 0),(23,.row 2 (cs.map cV)),(24,.I cs.length),(25,.I i)],[some (jY 2 (Q0++kz M D (cs.take i))),none,some (jN (Q0++kz M D (cs.take i)))]))
  (inv:=fun i=>i≤cs.length) (m:=fun i=>cs.length-i) 0 [some 0,some 1,some 3] rfl (by simp only[alf,kz,List.flatMap_nil,ak7];exact zM) zM (akF _) ?_
 intro i hi
 by_cases hil:i<cs.length
 · have hgi:cs[i]? =some cs[i]:=akh hil
   have hget:cs.getD i default=cs[i]:=by rw[akf,hgi];rfl
   have htk:=Hb (M:=M) (D:=D) hgi;have hcx:=hc cs[i] (aly hil);have hsl:=qq M D (cs.take i);have hsl2:(cs.take i).length*(M+D)≤256*20:=akH (by rw[akr];omega) zo;have hml:(Q0++kz M D (cs.take i)).length<1000010010:=by rw[ake];omega
   have e2:Q0++kz M D (cs.take (i+1))=Q0++kz M D (cs.take i)++numBits cs[i].1 M++numBits cs[i].2 D:=by rw[htk];simp
   clear htk hsl hsl2 hgi;generalize cs[i]=x at*
   generalize Q0++kz M D (cs.take i)=M1 at*
   have n2:=cC (L:=M1) (n:=x.1) (m:=(M:Int)) zo zo zo zo (by rw[ak0];exact hcx.1);have n3:=cC (L:=M1++numBits x.1 M) (n:=x.2) (m:=(D:Int)) zo (by rw[ake,aj];omega) zo zo (by rw[ak0];exact hcx.2);rw[ak0] at n2 n3;refine bg hget ?_;refine zW [some 0,some 2] [] n2 ?_;refine aF [some 0,some 4] [] (n3) ?_;rw[←e2];refine ae ?_;refine aR (i+1) [some 0,some 1,some 5] hil zo
 · obtain rfl:i=cs.length:=by omega
   rw[akw];exact zE [some 0,some 1,some 2] hQ
set_option maxHeartbeats 4000000 in
theorem AE {K P C:Int} {X:List (Nat×Nat)} {N:Nat} {L:List Bool} (hX:X.length≤1000) (hk:∀x∈X,x.1<2305843009213693951∧x.2≤1048576) (h1:N=0∨∀x∈X,1≤x.2) (hN:N≤1048576) (hL:L.length<1000000000):
 aA Tryz.prog 43 [L4 K P C X N,.ref 0 0 0 0] [some (jY 1 L),some (jN L)] (.tup []) [some (jY 2 (L++eG X N)),none,some (jN (L++eG X N))]:=by
 have hvl:=mT hN;refine zF pl Tryz.call43 Tryz.func43 [] fun Q hQ=>?_;refine ae ?_;refine aF [some 0,some 1] [] (uz (L:=L) (n:=N) zo zo) ?_
 by_cases h0:N=0
 · have e:eG X N=cR N:=by unfold eG;rw[if_pos h0,ak7]
   rw[e] at hQ;exact zE [some 0,some 1,some 2] hQ
 · have hr:∀x∈X,1≤x.2:=h1.elim (fun h1=>absurd h1 h0) id
   have e:L++eG X N=L++cR N++kp X:=by unfold eG;rw[if_neg h0,akl]
   rw[e] at hQ;have hl:(L++cR N).length<1000000030:=by rw[ake];omega
   generalize L++cR N=M at*
   clear e hvl;refine ae ?_
   refine aW (X:=Nat) (st:=fun i=>([(1,.ref 0 0 0 0),(21,.row 2 (X.map sV)),(22,.I X.length),(23,.I i)],[some (jY 2 (M++kp (X.take i))),none,some (jN (M++kp (X.take i)))]))
    (inv:=fun i=>i≤X.length) (m:=fun i=>X.length-i) 0 [some 0,some 1,some 2] rfl (by simp only[alf,kp,List.flatMap_nil,ak7];exact zM) zM (akF _) ?_
   intro i hi
   by_cases hil:i<X.length
   · have hgi:X[i]? =some X[i]:=akh hil
     have hget:X.getD i default=X[i]:=by rw[akf,hgi];rfl
     have htk:=HL hgi;have hkx:=hk X[i] (aly hil);have hrx:=hr X[i] (aly hil);have hsl:=qE (X:=X.take i) fun y hy=>⟨hr y (akt hy),(hk y (akt hy)).2⟩;have hsl2:(X.take i).length≤1000:=by rw[akr];omega
     have hml:(M++kp (X.take i)).length<1000200030:=by rw[ake];omega
     have e2:M++kp (X.take (i+1))=M++kp (X.take i)++numBits X[i].1 61++ay X[i].2:=by rw[htk];simp
     clear htk hsl hsl2 hgi;generalize X[i]=x at*
     generalize M++kp (X.take i)=M1 at*
     have n1:=cC (L:=M1) (n:=x.1) (m:=61) zo zo zd zd (by show x.1<2^61;omega);rw[show Int.toNat 61=61 from rfl] at n1;have p1:=dZ (L:=M1++numBits x.1 61) (n:=x.2) zo zo (by rw[ake,aj];omega);refine bg hget ?_;refine zW [some 0,some 2] [] n1 ?_;refine aF [some 0,some 4] [] (p1) ?_;rw[←e2];refine ae ?_;refine aR (i+1) [some 0,some 1,some 5] hil zo
   · obtain rfl:i=X.length:=by omega
     rw[akw];exact zE [some 0,some 1,some 2] hQ
theorem kE {l:List Nat} (hl:∀x∈l,x<256) (hm:l.length<1000000):aA Tryz.prog 44 [.row 1 ((nl l).map (ie .u8))] [] (.sl 0 1 0 (l.length+4)) [some (.row 1 ((nl (aT l)).map (ie .u8)))]:=by
 refine zF pl Tryz.call44 Tryz.func44 [.tmp 2] fun Q hQ=>?_;have hnl:=av l;refine ae ?_;refine zW [] [] (uI (B:=nl l) zo) ?_;refine zC (K0 hl zo) ?_;have hs:=qi l
 refine aW (X:=Nat) (st:=fun j=>([(3,.sl 0 1 0 (l.length+j)),(4,.I (3-(j:Int))),(5,.lit (.int .u32 ((eZ l:Nat):Int)))],[some (.row 1 ((nl (l++(fS (eZ l)).take j)).map (ie .u8)))]))
  (inv:=fun j=>j≤4) (m:=fun j=>4-j) 0 [some 0] rfl (by rw[alf,ak7];exact zM) zM zo ?_
 intro j hj;have hll:(nl (l++(fS (eZ l)).take j)).length=l.length+j:=by rw[av];simp[fS];omega
 by_cases h:j<4
 · have ht:nl (l++(fS (eZ l)).take (j+1))=nl (l++(fS (eZ l)).take j)++[((eZ l/2^(8*(3-j))%256:Nat):Int)]:=by
    rw[gE (by simp[fS];omega),DN _ _ h];simp[nl]
   have h83:((8:Int)*(3-(j:Int))).toNat=8*(3-j):=by omega
   have hdv:=hH (eZ l) (8*(3-j));generalize eZ l/2^(8*(3-j))=q at*
   refine qm h83 hdv @o8 ?_;refine aI (j+1) [some 2] rfl (by dsimp only;rw[ht];exact zM) zM zo zo
 · obtain rfl:j=4:=by omega
   have e:l++(fS (eZ l)).take 4=aT l:=rfl;rw[e] at*
   have hsl:=fj l;have hns:=av (aT l);exact zE [some 0] hQ
theorem BT {α:Type} [Inhabited α] {A B:List α} {i:Nat} (ha:i<A.length) (hb:i<B.length):A.take (i+1)=B.take (i+1)↔A.take i=B.take i∧A.getD i default=B.getD i default:=by
 rw[akL ha,akL hb];have e1:A.getD i default=A[i]:=by rw[akf,akh ha];rfl
 have e2:B.getD i default=B[i]:=by rw[akf,akh hb];rfl
 rw[e1,e2];constructor
 · intro h
   have:=List.append_inj h (by rw[akr,akr];omega)
   exact⟨this.1,by simpa using this.2⟩
 · rintro ⟨h1,h2⟩
   rw[h1,h2]
theorem EX {A B:List (Nat×Nat)} (hA:A.length≤1000000) (hB:B.length≤1000000):aA Tryz.prog 120 [.row 2 (A.map sV),.row 2 (B.map sV)] [] (.lit (.bool (decide (A=B)))) []:=by
 refine zF Pn Tryz.call120 Tryz.func120 [.tmp 4] fun Q hQ=>?_
 by_cases hl:A.length=B.length
 · refine ae ?_
   refine aU (X:=Nat) (st:=fun i=>([(0,.row 2 (A.map sV)),(1,.row 2 (B.map sV)),(12,.I A.length),(13,.I i)],[]))
    (inv:=fun i=>i≤A.length∧A.take i=B.take i) (m:=fun i=>A.length-i) 0 [] ⟨by omega,by simp⟩ ?_
   rintro i ⟨hi,ht⟩
   by_cases h:i<A.length
   · have hs:=BT h (show i<B.length by omega)
     have hne:A.getD i default≠B.getD i default→¬A=B:=fun h e=>h (by rw[e]);obtain ⟨⟨a1,a2⟩,ea⟩:∃a,A.getD i default=a:=⟨_,rfl⟩;obtain ⟨⟨b1,b2⟩,eb⟩:∃b,B.getD i default=b:=⟨_,rfl⟩;rw[ea,eb] at hs hne
     by_cases e1:a1=b1
     · by_cases e2:a2=b2
       · have hs':=hs.2 ⟨ht,by rw[e1,e2]⟩
         subst e1 e2;refine eo ea eb ?_;refine aR (i+1) [] ⟨by omega,hs'⟩ zo
       · rw[akg (hne (fun e=>e2 (by injection e)))] at hQ
         have e2':¬(a2:Int)=(b2:Int):=by omega
         subst e1;refine qm ea eb (akg e2') ?_;exact ai [] hQ
     · rw[akg (hne (fun e=>e1 (by injection e)))] at hQ
       have e1':¬(a1:Int)=(b1:Int):=by omega
       refine Sf ea eb (akg e1') ?_;exact ai [] hQ
   · obtain rfl:i=A.length:=by omega
     rw[akw,hl,akw] at ht;rw[aks ht] at hQ;exact zE [] hQ
 · rw[akg (fun e=>hl (by rw[e]))] at hQ
   exact zE [] hQ
theorem Ja {K P C:Int} {X Y:List (Nat×Nat)} {N M:Nat} (hX:X.length≤1000000) (hY:Y.length≤1000000):aA Tryz.prog 59 [L4 K P C X N,L4 K P C Y M] [] (.lit (.bool (decide (N=M∧X=Y)))) []:=by
 have q:=EX hX hY;refine zF RR Tryz.call59 Tryz.func59 [.tmp 4] fun Q hQ=>?_
 by_cases h:N=M
 · subst h
   rw[show decide (N=N∧X=Y)=decide (X=Y) by simp] at hQ;refine ae ?_;refine zC q ?_;exact ai [] hQ
 · have h':¬(N:Int)=(M:Int):=by omega
   rw[akg (fun e=>h e.1)] at hQ;refine bg (akg h') ?_;exact ai [] hQ
def rfC (X:List (Nat×Nat)) (N:Nat) (L:List Bool) (p:Nat) (e:Int):List V:=[.row 2 (X.map sV),.I N,.row 1 (L.map be),.I p,.I e]
def rfV (X:List (Nat×Nat)) (N:Nat) (L:List Bool) (p:Nat) (e:Int):V:=.agg (rfC X N L p e)
attribute [go_sem] rfC rfV
def ajB (L:List Bool) (N key:Nat) (X:List (Nat×Nat)) (p:Nat):List (Nat×Nat)×Nat×Int:=match fY L (N+1) key X p with | some r=>(r.1,r.2,0) | none=>(X,L.length,8)
theorem zL {α:Type} [Inhabited α] {A B:List α} {i:Nat} (ha:i<A.length) (hb:i<B.length):A.take (i+1)=B.take (i+1)↔A.take i=B.take i∧A.getD i default=B.getD i default:=by
 rw[akL ha,akL hb];have e1:A.getD i default=A[i]:=by rw[akf,akh ha];rfl
 have e2:B.getD i default=B[i]:=by rw[akf,akh hb];rfl
 rw[e1,e2];constructor
 · intro h
   have:=List.append_inj h (by rw[akr,akr];omega)
   exact⟨this.1,by simpa using this.2⟩
 · rintro ⟨h1,h2⟩
   rw[h1,h2]
theorem Gm {A B:List Cell} (hA:A.length≤1000000) (hB:B.length≤1000000):aA Tryz.prog 116 [.row 2 (A.map cV),.row 2 (B.map cV)] [] (.lit (.bool (decide (A=B)))) []:=by
 refine zF O0 Tryz.call116 Tryz.func116 [.tmp 4] fun Q hQ=>?_
 by_cases hl:A.length=B.length
 · refine ae ?_
   refine aU (X:=Nat) (st:=fun i=>([(0,.row 2 (A.map cV)),(1,.row 2 (B.map cV)),(12,.I A.length),(13,.I i)],[]))
    (inv:=fun i=>i≤A.length∧A.take i=B.take i) (m:=fun i=>A.length-i) 0 [] ⟨by omega,by simp⟩ ?_
   rintro i ⟨hi,ht⟩
   by_cases h:i<A.length
   · have hs:=zL h (show i<B.length by omega)
     have hne:A.getD i default≠B.getD i default→¬A=B:=fun h e=>h (by rw[e]);obtain ⟨⟨a1,a2⟩,ea⟩:∃a,A.getD i default=a:=⟨_,rfl⟩;obtain ⟨⟨b1,b2⟩,eb⟩:∃b,B.getD i default=b:=⟨_,rfl⟩;rw[ea,eb] at hs hne
     by_cases e1:a1=b1
     · by_cases e2:a2=b2
       · have hs':=hs.2 ⟨ht,by rw[e1,e2]⟩
         subst e1 e2;refine eo ea eb ?_;refine aR (i+1) [] ⟨by omega,hs'⟩ zo
       · rw[akg (hne (fun e=>e2 (by injection e)))] at hQ
         have e2':¬(a2:Int)=(b2:Int):=by omega
         subst e1;refine qm ea eb (akg e2') ?_;exact ai [] hQ
     · rw[akg (hne (fun e=>e1 (by injection e)))] at hQ
       have e1':¬(a1:Int)=(b1:Int):=by omega
       refine Sf ea eb (akg e1') ?_;exact ai [] hQ
   · obtain rfl:i=A.length:=by omega
     rw[akw,hl,akw] at ht;rw[aks ht] at hQ;exact zE [] hQ
 · rw[akg (fun e=>hl (by rw[e]))] at hQ
   exact zE [] hQ
end Go.Proofs.YtcnlmelpnflhnaaGreat
