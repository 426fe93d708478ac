import Derived.Test.YtcnlmelpnflhnaaGreatAf
import Derived.Test.YtcnlmelpnflhnaaGreatBh
import Derived.Test.YtcnlmelpnflhnaaGreatBe
namespace Go.Proofs.YtcnlmelpnflhnaaGreat
open Go.Eng Go.Vx
set_option linter.unusedSimpArgs false
set_option linter.unusedVariables false
set_option maxRecDepth 100000
def BD (k a b:Nat) (r:RW):List Bool:=numBits r.1 61++numBits r.2.1 61++du (wd k a b) (r.2.2.map (iL k a b))
def dQ (k a b:Nat) (l:List RW):List Bool:=l.flatMap (BD k a b)
def pW (k a b:Nat) (l:List RW) (T:Nat):List Bool:=cR T++dQ k a b l
theorem EP (k a b:Nat) (x:RW) (l:List RW):dQ k a b (x::l)=BD k a b x++dQ k a b l:=by simp[dQ]
theorem GX (k a b:Nat) (l m:List RW):dQ k a b (l++m)=dQ k a b l++dQ k a b m:=by simp[dQ]
theorem Fs {k a b:Nat} {l:List RW} {i:Nat} {x:RW} (h:l[i]? =some x):dQ k a b (l.take (i+1))=dQ k a b (l.take i)++numBits x.1 61++numBits x.2.1 61++du (wd k a b) (x.2.2.map (iL k a b)):=by
 rw[ama,h,GX];simp[dQ,BD]
theorem OO {k a b C:Nat} {r:RW} (h:bB k a b C r):(BD k a b r).length=122+C*wd k a b:=by
 unfold BD;rw[ake,ake,aj,aj,jm,aki,h.2.2.1]
theorem nM {k a b C:Nat}:∀{l:List RW},(∀r∈l,bB k a b C r)→(dQ k a b l).length=l.length*(122+C*wd k a b)
 | [],_=>by simp[dQ]
 | r::l,h=>by
   rw[EP,ake,OO (h r (by simp)),nM (l:=l) (fun x hx=>h x (by simp[hx])),akm,Nat.succ_mul];omega
theorem r7 {n:Nat} (h:n≤1099511627776):(cR n).length≤48:=by
 have hb:=bI (n:=n) (k:=41) zo;rw[rF];omega
@[go_sem] theorem ae8 {k a b C:Nat} {r:RW}:iM k a b C r=[.lit (.int .u64 r.1),.lit (.int .u64 r.2.1),.ptr 4 [[.ptr 3 [[.row 1 ((words (bq C (wd k a b)) (bj (wd k a b) (r.2.2.map (iL k a b)))).map (ie .u64)),.I C,.I (wd k a b:Int)]] 0 0,.I k,.I a,.I b]] 0 0]:=(rfl)
set_option maxHeartbeats 4000000 in
theorem xF {R C k a b T:Nat} {l:List RW} {L:List Bool} (h:aX k a b) (hC:1≤C∧C≤64) (hR:l.length≤4) (hl:∀r∈l,bB k a b C r) (hT:T≤1099511627776) (hL:L.length<1000000000):
 aA Tryz.prog 42 [tQ R C k a b l T,.ref 0 0 0 0] [some (jY 1 L),some (jN L)] (.tup []) [some (jY 2 (L++pW k a b l T)),none,some (jN (L++pW k a b l T))]:=by
 have hvl:=r7 hT;have hwd:=ff h;refine zF pl Tryz.call42 Tryz.func42 [] fun Q hQ=>?_;refine ae ?_;refine aF [some 0,some 1] [] (uz (L:=L) (n:=T) zo zo) ?_;have e:L++pW k a b l T=L++cR T++dQ k a b l:=by unfold pW;rw[akl]
 rw[e] at hQ;have hml:(L++cR T).length<1000000050:=by rw[ake];omega
 generalize L++cR T=M at*
 clear e hvl;refine ae ?_
 refine aW (X:=Nat) (st:=fun i=>([(1,.ref 0 0 0 0),(16,.row 3 (l.map (iM k a b C))),(17,.I l.length),(18,.I i)],[some (jY 2 (M++dQ k a b (l.take i))),none,some (jN (M++dQ k a b (l.take i)))]))
  (inv:=fun i=>i≤l.length) (m:=fun i=>l.length-i) 0 [some 0,some 1,some 2] rfl (by simp only[alf,dQ,List.flatMap_nil,ak7];exact zM) zM (akF _) ?_
 intro i hi
 by_cases hil:i<l.length
 · have hgi:l[i]? =some l[i]:=akh hil
   have hget:l.getD i default=l[i]:=by rw[akf,hgi];rfl
   have htk:=Fs (k:=k) (a:=a) (b:=b) hgi;have hok:=hl l[i] (aly hil);have hsl:=nM (l:=l.take i) fun x hx=>hl x (akt hx);have hsl2:(l.take i).length*(122+C*wd k a b)≤4*(122+64*16):=akH (by rw[akr];omega) (Nat.add_le_add_left (akH hC.2 hwd.2) _);have hm2:(M++dQ k a b (l.take i)).length<1000100050:=by rw[ake];omega
   have e2:M++dQ k a b (l.take (i+1))=M++dQ k a b (l.take i)++numBits l[i].1 61++numBits l[i].2.1 61++du (wd k a b) (l[i].2.2.map (iL k a b)):=by rw[htk];simp
   clear htk hsl hsl2 hgi;generalize l[i]=x at*
   generalize M++dQ k a b (l.take i)=M1 at*
   obtain ⟨o1,o2,o3,o4⟩:=hok;have n1:=cC (L:=M1) (n:=x.1) (m:=61) zo zo zd zd (by show x.1<2^61;omega);have n2:=cC (L:=M1++numBits x.1 61) (n:=x.2.1) (m:=61) zo (by rw[ake,aj];omega) zd zd (by show x.2.1<2^61;omega);rw[show Int.toNat 61=61 from rfl] at n1 n2
   have wr:=uX (n:=C) (w:=wd k a b) (N:=x.2.2.map (iL k a b)) (L:=M1++numBits x.1 61++numBits x.2.1 61) zo ⟨hwd.1,by omega⟩ (by rw[aki];exact o3) (fun y hy=>by
    obtain ⟨s,_,rfl⟩:=alb.1 hy;exact kT k a b s) (by rw[ake,ake,aj,aj];omega)
   rw[←e2] at wr;refine bg hget ?_;refine zW [some 0,some 2] [] n1 ?_;refine zW [some 0,some 4] [] n2 ?_;refine zW [some 0,some 5] [] wr ?_;refine aR (i+1) [some 0,some 1,some 6] hil zo
 · obtain rfl:i=l.length:=by omega
   rw[akw];exact zE [some 0,some 1,some 2] hQ
theorem L5 {k a b:Nat} {s t:SR} (h:aX k a b) (hs:aZ k a b s) (ht:aZ k a b t) (e:iL k a b s=iL k a b t):s=t:=by
 have e1:dr k a b s=dr k a b t:=by rw[←n5,←n5,e]
 have r1:=jE (A:=[]) (R:=[]) h hs;have r2:=jE (A:=[]) (R:=[]) h ht;rw[e1,r2] at r1;injection r1 with r1;injection r1 with r1;exact r1.symm
theorem sa {α β:Type} {f:α→β} {P:α→Prop} (hf:∀x y,P x→P y→f x=f y→x=y):∀{l m:List α},(∀x∈l,P x)→(∀x∈m,P x)→l.map f=m.map f→l=m
 | [],[],_,_,_=>rfl
 | [],y::ys,_,_,h=>by cases h
 | x::xs,[],_,_,h=>by cases h
 | x::xs,y::ys,h1,h2,h=>by
   injection h with h3 h4;rw[hf x y (h1 x amr) (h2 y amr) h3,sa hf (fun z hz=>h1 z (alI _ hz)) (fun z hz=>h2 z (alI _ hz)) h4]
theorem Oy {k a b n:Nat} {l m:List SR} (h:aX k a b) (hl:l.length=n) (hm:m.length=n) (wl:∀s∈l,aZ k a b s) (wm:∀s∈m,aZ k a b s):
 words (bq n (wd k a b)) (bV k a b l)=words (bq n (wd k a b)) (bV k a b m)↔l=m:=by
 have hw:=ff h
 have lt:∀(l:List SR),∀x∈l.map (iL k a b),x<2^wd k a b:=by
  intro l x hx;obtain ⟨s,_,rfl⟩:=alb.1 hx;exact kT k a b s
 unfold bV;rw[H2 zo (by rw[aki,hl]) (by rw[aki,hm]) (lt l) (lt m)];exact⟨fun e=>sa (fun x y hx hy=>L5 h hx hy) wl wm e,fun e=>by rw[e]⟩
theorem uQ {n w X m v Y:Nat} (h:n≠m):aA Tryz.prog 115 [jQ n w (words (bq n w) X),jQ m v (words (bq m v) Y)] [] (.lit (.bool false)) []:=by
 have h':¬(n:Int)=(m:Int):=by omega
 refine zF Dk Tryz.call115 Tryz.func115 [.tmp 4] fun Q hQ=>?_;refine bg (akg h') ?_;exact ai [] hQ
theorem uW {k a b n k2 a2 b2 n2:Nat} {l m:List SR} (h:aX k a b) (hn:n≤256) (hl:l.length=n) (hm:m.length=n2) (wl:∀s∈l,aZ k a b s) (wm:∀s∈m,aZ k2 a2 b2 s):
 aA Tryz.prog 56 [kO k a b n (wd k a b) (bV k a b l),kO k2 a2 b2 n2 (wd k2 a2 b2) (bV k2 a2 b2 m)] [] (.lit (.bool (decide (k=k2∧a=a2∧b=b2∧l=m)))) []:=by
 have hw:=ff h
 by_cases hq:k=k2∧a=a2∧b=b2
 · obtain ⟨rfl,rfl,rfl⟩:=hq
   by_cases hnn:n=n2
   · subst hnn
     have s:=nS (k:=k) (a:=a) (b:=b) (k2:=k) (a2:=a) (b2:=b) (xw (X:=bV k a b l) (Y:=bV k a b m) hn ⟨hw.1,by omega⟩);rw[decide_eq_decide.2 (Oy h hl hm wl wm),aks ⟨rfl,rfl,rfl⟩,alB] at s;rw[show decide (k=k∧a=a∧b=b∧l=m)=decide (l=m) by simp];exact s
   · have s:=nS (k:=k) (a:=a) (b:=b) (k2:=k) (a2:=a) (b2:=b) (uQ (w:=wd k a b) (v:=wd k a b) (X:=bV k a b l) (Y:=bV k a b m) hnn)
     rw[Bool.and_false] at s;rw[akg (fun e=>hnn (by rw[←hl,←hm,e.2.2.2]))];exact s
 · by_cases hnn:n=n2∧wd k a b=wd k2 a2 b2
   · obtain ⟨h1,h2⟩:=hnn
     subst h1;rw[←h2];have s:=nS (k:=k) (a:=a) (b:=b) (k2:=k2) (a2:=a2) (b2:=b2) (xw (X:=bV k a b l) (Y:=bV k2 a2 b2 m) hn ⟨hw.1,by omega⟩);rw[akg hq,amz] at s;rw[akg (fun e=>hq ⟨e.1,e.2.1,e.2.2.1⟩)];exact s
   · have sv:aA Tryz.prog 115 [jQ n (wd k a b) (words (bq n (wd k a b)) (bV k a b l)),jQ n2 (wd k2 a2 b2) (words (bq n2 (wd k2 a2 b2)) (bV k2 a2 b2 m))] [] (.lit (.bool false)) []:=by
      by_cases h1:n=n2
      · have h2:¬((wd k a b:Nat):Int)=((wd k2 a2 b2:Nat):Int):=fun e=>hnn ⟨h1,by omega⟩
        subst h1;refine zF Dk Tryz.call115 Tryz.func115 [.tmp 4] fun Q hQ=>?_;refine bg (akg h2) ?_;exact ai [] hQ
      · exact uQ h1
     have s:=nS (k:=k) (a:=a) (b:=b) (k2:=k2) (a2:=a2) (b2:=b2) sv;rw[Bool.and_false] at s;rw[akg (fun e=>hq ⟨e.1,e.2.1,e.2.2.1⟩)];exact s
def hW (r:RW):List PV:=[.lit (.int .u64 r.1),.lit (.int .u64 r.2.1)]
attribute [go_sem] hW
theorem pH {R C k a b T:Nat} {l:List RW} (hl:l.length≤100):aA Tryz.prog 155 [tQ R C k a b l T] [] (.row 2 (l.map hW)) []:=by
 refine zF pl Tryz.call155 Tryz.func155 [.tmp 2] fun Q hQ=>?_;refine ae ?_
 refine aU (X:=Nat) (st:=fun i=>([(3,.sl 0 2 0 i),(9,.row 3 (l.map (iM k a b C))),(10,.I l.length),(11,.I i)],[some (.row 2 ((l.take i).map hW))]))
  (inv:=fun i=>i≤l.length) (m:=fun i=>l.length-i) 0 [none] (akF _) ?_
 intro i hi
 by_cases hil:i<l.length
 · have ht:l.take (i+1)=l.take i++[l.getD i default]:=by
    rw[akL hil,akf,akh hil]
    rfl
   have hlr:(l.take i).length=i:=by rw[akr];omega
   generalize l.take i=m at*
   obtain ⟨⟨A,B,x⟩,ea⟩:∃a,l.getD i default=a:=⟨_,rfl⟩;rw[ea] at ht
   simp(maxSteps:=1000000) (disch:=(first | omega | (simp only[cS,aki,akj,true_and,and_true];(try omega);done) | fail)) only[go_sem,ea,iM,Int.reduceEq,Int.reduceToNat,Nat.reduceAdd,Nat.reduceMul,Nat.reduceEqDiff, ↓reduceIte]
   refine aI (i+1) [some 3] rfl ?_ zM zo zo;dsimp only;rw[ht,List.map_append];simp only[List.map_cons,List.map_nil,hW]
   (simp(disch:=(first | omega | (simp only[cS,aki,akj,true_and,and_true];(try omega);done) | fail)) only[go_sem,Int.reduceEq,Int.reduceToNat,Nat.reduceAdd,Nat.reduceMul,Nat.reduceEqDiff, ↓reduceIte,true_and,and_true,and_self,akv,akw,akk,V.lit.injEq,Value.int.injEq,Value.bool.injEq];try (first | omega | (simp;done) | (simp;omega)))
 · obtain rfl:i=l.length:=by omega
   rw[akw];exact zE [] hQ
def hk (r:RW):Nat×Nat:=(r.1,r.2.1)
theorem ER {A B:List RW} (hA:A.length≤1000000) (hB:B.length≤1000000):aA Tryz.prog 154 [.row 2 (A.map hW),.row 2 (B.map hW)] [] (.lit (.bool (decide (A.map hk=B.map hk)))) []:=by
 refine zF O4 Tryz.call154 Tryz.func154 [.tmp 4] fun Q hQ=>?_
 by_cases hl:A.length=B.length
 · refine ae ?_
   refine aU (X:=Nat) (st:=fun i=>([(0,.row 2 (A.map hW)),(1,.row 2 (B.map hW)),(12,.I A.length),(13,.I i)],[]))
    (inv:=fun i=>i≤A.length∧(A.take i).map hk=(B.take i).map hk) (m:=fun i=>A.length-i) 0 [] ⟨by omega,by simp⟩ ?_
   rintro i ⟨hi,ht⟩
   by_cases h:i<A.length
   · have hB':i<B.length:=by omega
     have gA:A.getD i default=A[i]:=by rw[akf,akh h];rfl
     have gB:B.getD i default=B[i]:=by rw[akf,akh hB'];rfl
     have hs:hk (A.getD i default)=hk (B.getD i default)→(A.take (i+1)).map hk=(B.take (i+1)).map hk:=by
      intro e;rw[akL h,akL hB',alQ,alQ,ht,←gA,←gB];simp only[akK,akV,e]
     have hne:hk (A.getD i default)≠hk (B.getD i default)→¬A.map hk=B.map hk:=by
      intro hn e;apply hn;have e1:(A.map hk)[i]? =(B.map hk)[i]? :=by rw[e]
      rw[akX,akX,akh h,akh hB'] at e1;rw[gA,gB];injection e1
     clear gA gB;obtain ⟨⟨a1,a2,a3⟩,ea⟩:∃a,A.getD i default=a:=⟨_,rfl⟩;obtain ⟨⟨b1,b2,b3⟩,eb⟩:∃b,B.getD i default=b:=⟨_,rfl⟩;rw[ea,eb] at hs hne
     by_cases e1:a1=b1
     · by_cases e2:a2=b2
       · subst e1 e2
         have hs':=hs rfl;refine eo ea eb ?_;refine aR (i+1) [] ⟨by omega,hs'⟩ zo
       · have e2':¬(a2:Int)=(b2:Int):=by omega
         rw[akg (hne (fun e=>e2 (by injection e)))] at hQ;subst e1;refine qm ea eb (akg e2') ?_;exact ai [] hQ
     · have e1':¬(a1:Int)=(b1:Int):=by omega
       rw[akg (hne (fun e=>e1 (by injection e)))] at hQ;refine Sf ea eb (akg e1') ?_;exact ai [] hQ
   · obtain rfl:i=A.length:=by omega
     rw[akw,hl,akw] at ht;rw[aks ht] at hQ;exact zE [] hQ
 · have hl':¬A.map hk=B.map hk:=fun e=>hl (by rw[←aki (f:=hk),e,aki])
   rw[akg hl'] at hQ;exact zE [] hQ
theorem z9 {R C k a b T R2 C2 k2 a2 b2 T2:Nat} {l m:List RW} (hl:l.length≤100) (hm:m.length≤100):aA Tryz.prog 118 [tQ R C k a b l T,tQ R2 C2 k2 a2 b2 m T2] []
 (.lit (.bool (decide (R=R2∧C=C2∧k=k2∧a=a2∧b=b2∧l.map hk=m.map hk)))) []:=by
 have h1:=pH (R:=R) (C:=C) (k:=k) (a:=a) (b:=b) (T:=T) hl;have h2:=pH (R:=R2) (C:=C2) (k:=k2) (a:=a2) (b:=b2) (T:=T2) hm;have he:=ER (A:=l) (B:=m) zo zo
 by_cases hq:R=R2∧C=C2∧k=k2∧a=a2∧b=b2
 · obtain ⟨rfl,rfl,rfl,rfl,rfl⟩:=hq
   rw[show decide (R=R∧C=C∧k=k∧a=a∧b=b∧l.map hk=m.map hk)=decide (l.map hk=m.map hk) by simp];refine zF JS Tryz.call118 Tryz.func118 [.tmp 4] fun Q hQ=>?_;refine ae ?_;refine zC h1 ?_;refine zC h2 ?_;refine zC he ?_;exact ai [] hQ
 · rw[akg (fun e=>hq ⟨e.1,e.2.1,e.2.2.1,e.2.2.2.1,e.2.2.2.2.1⟩)]
   have hd:(decide ((R:Int)=(R2:Int))&&(decide ((C:Int)=(C2:Int))&&(decide ((k:Int)=(k2:Int))&&(decide ((a:Int)=(a2:Int))&&decide ((b:Int)=(b2:Int))))))=false:=by
    rw[al1];intro h;simp only[akn,decide_eq_true_eq] at h;exact hq ⟨by omega,by omega,by omega,by omega,by omega⟩
   refine zF JS Tryz.call118 Tryz.func118 [.tmp 4] fun Q hQ=>?_;refine bg hd ?_;exact ai [] hQ
theorem Ha {k a b C:Nat} {l m:List SR} {A B A2 B2:Nat} (h:aX k a b) (hC:C≤256) (hl:l.length=C) (hm:m.length=C) (wl:∀s∈l,aZ k a b s) (wm:∀s∈m,aZ k a b s):
 aA Tryz.prog 117 [.agg [.lit (.int .u64 A),.lit (.int .u64 B),kO k a b C (wd k a b) (bV k a b l)],.agg [.lit (.int .u64 A2),.lit (.int .u64 B2),kO k a b C (wd k a b) (bV k a b m)]] [] (.lit (.bool (decide (l=m)))) []:=by
 have s:=uW h hC hl hm wl wm;rw[show decide (k=k∧a=a∧b=b∧l=m)=decide (l=m) by simp] at s;have hlw:=aB (bq C (wd k a b)) (bV k a b l);have hlm:=aB (bq C (wd k a b)) (bV k a b m);refine zF pl Tryz.call117 Tryz.func117 [.tmp 4] fun Q hQ=>?_;refine ae ?_;refine zC s ?_;exact ai [] hQ
def hc (r:RW):List SR:=r.2.2
theorem EO {k a b C:Nat} {A B:List RW} (h:aX k a b) (hC:C≤256) (hA:A.length≤100) (hl:A.length=B.length) (wA:∀r∈A,bB k a b C r) (wB:∀r∈B,bB k a b C r):
 aA Tryz.prog 119 [.row 3 (A.map (iM k a b C)),.row 3 (B.map (iM k a b C)),.clo 117 []] [] (.lit (.bool (decide (A.map hc=B.map hc)))) []:=by
 refine zF pl Tryz.call119 Tryz.func119 [.tmp 6] fun Q hQ=>?_;refine ae ?_
 refine aU (X:=Nat) (st:=fun i=>([(1,.row 3 (B.map (iM k a b C))),(2,.clo 117 []),(15,.row 3 (A.map (iM k a b C))),(16,.I A.length),(17,.I i)],[]))
  (inv:=fun i=>i≤A.length∧(A.take i).map hc=(B.take i).map hc) (m:=fun i=>A.length-i) 0 [] ⟨by omega,by simp⟩ ?_
 rintro i ⟨hi,ht⟩
 by_cases hil:i<A.length
 · have hB':i<B.length:=by omega
   have gA:A.getD i default=A[i]:=by rw[akf,akh hil];rfl
   have gB:B.getD i default=B[i]:=by rw[akf,akh hB'];rfl
   have hs:hc (A.getD i default)=hc (B.getD i default)→(A.take (i+1)).map hc=(B.take (i+1)).map hc:=by
    intro e;rw[akL hil,akL hB',alQ,alQ,ht,←gA,←gB];simp only[akK,akV,e]
   have hne:hc (A.getD i default)≠hc (B.getD i default)→¬A.map hc=B.map hc:=by
    intro hn e;apply hn;have e1:(A.map hc)[i]? =(B.map hc)[i]? :=by rw[e]
    rw[akX,akX,akh hil,akh hB'] at e1;rw[gA,gB];injection e1
   have oA:bB k a b C (A.getD i default):=by rw[gA];exact wA _ (aly _)
   have oB:bB k a b C (B.getD i default):=by rw[gB];exact wB _ (aly _)
   clear gA gB;obtain ⟨⟨a1,a2,a3⟩,ea⟩:∃a,A.getD i default=a:=⟨_,rfl⟩;obtain ⟨⟨b1,b2,b3⟩,eb⟩:∃b,B.getD i default=b:=⟨_,rfl⟩;rw[ea,eb] at hs hne;rw[ea] at oA;rw[eb] at oB;have sm:=Ha (A:=a1) (B:=a2) (A2:=b1) (B2:=b2) h hC oA.2.2.1 oB.2.2.1 oA.2.2.2 oB.2.2.2;dsimp only at sm
   by_cases e:a3=b3
   · have hs':=hs e
     rw[aks e] at sm
     simp(maxSteps:=1000000) (disch:=(first | omega | (simp only[cS,aki,akj,true_and,and_true];(try omega);done) | fail)) only[go_sem,ea,eb,iM,m9,Int.reduceEq,Int.reduceToNat,Nat.reduceAdd,Nat.reduceMul,Nat.reduceEqDiff, ↓reduceIte]
     refine zC sm ?_;refine aR (i+1) [] ⟨by omega,hs'⟩ zo
   · rw[akg e] at sm
     rw[akg (hne e)] at hQ
     simp(maxSteps:=1000000) (disch:=(first | omega | (simp only[cS,aki,akj,true_and,and_true];(try omega);done) | fail)) only[go_sem,ea,eb,iM,m9,Int.reduceEq,Int.reduceToNat,Nat.reduceAdd,Nat.reduceMul,Nat.reduceEqDiff, ↓reduceIte]
     refine zC sm ?_;exact ai [] hQ
 · obtain rfl:i=A.length:=by omega
   rw[akw,hl,akw] at ht;rw[aks ht] at hQ;exact zE [] hQ
theorem Ac {l m:List RW}:(l.map hk=m.map hk∧l.map hc=m.map hc)↔l=m:=by
 refine⟨fun h=>?_,fun h=>by rw[h];exact⟨rfl,rfl⟩⟩;obtain ⟨h1,h2⟩:=h
 induction l generalizing m with
 | nil=>cases m with
   | nil=>rfl
   | cons y ys=>cases h1
 | cons x xs ih=>cases m with
   | nil=>cases h1
   | cons y ys=>
     injection h1 with h3 h4;injection h2 with h5 h6;rw[ih h4 h6];obtain ⟨x1,x2,x3⟩:=x;obtain ⟨y1,y2,y3⟩:=y;injection h3 with h7 h8;have g7:x1=y1:=h7;have g8:x2=y2:=h8;have g5:x3=y3:=h5;rw[g7,g8,g5]
set_option maxHeartbeats 2000000 in
theorem Ec {R C k a b T R2 C2 k2 a2 b2 T2:Nat} {l m:List RW} (h:aX k a b) (hC:C≤256) (hl:l.length=R) (hm:m.length=R2) (hR:R≤100) (hR2:R2≤100) (wl:∀r∈l,bB k a b C r) (wm:∀r∈m,bB k2 a2 b2 C2 r):
 aA Tryz.prog 58 [tQ R C k a b l T,tQ R2 C2 k2 a2 b2 m T2] [] (.lit (.bool (decide (R=R2∧C=C2∧k=k2∧a=a2∧b=b2∧l=m∧T=T2)))) []:=by
 have al:=z9 (R:=R) (C:=C) (k:=k) (a:=a) (b:=b) (T:=T) (R2:=R2) (C2:=C2) (k2:=k2) (a2:=a2) (b2:=b2) (T2:=T2) (l:=l) (m:=m) zo zo
 by_cases h1:R=R2∧C=C2∧k=k2∧a=a2∧b=b2∧l.map hk=m.map hk
 · rw[aks h1] at al
   obtain ⟨rfl,rfl,rfl,rfl,rfl,hh⟩:=h1
   by_cases h2:T=T2
   · subst h2
     have ef:=EO h hC zo (hl.trans hm.symm) wl wm;have e2:(R=R∧C=C∧k=k∧a=a∧b=b∧l=m∧T=T)↔l.map hc=m.map hc:=⟨fun h=>by rw[h.2.2.2.2.2.1],fun h=>⟨rfl,rfl,rfl,rfl,rfl,Ac.1 ⟨hh,h⟩,rfl⟩⟩;rw[←decide_eq_decide.2 e2] at ef;generalize decide (R=R∧C=C∧k=k∧a=a∧b=b∧l=m∧T=T)=r at*
     refine zF L9 Tryz.call58 Tryz.func58 [.tmp 4] fun Q hQ=>?_;refine ae ?_;refine zC al ?_;refine zC ef ?_;exact ai [] hQ
   · have h2':¬(T:Int)=(T2:Int):=by omega
     rw[akg (fun e=>h2 e.2.2.2.2.2.2)];refine zF L9 Tryz.call58 Tryz.func58 [.tmp 4] fun Q hQ=>?_;refine ae ?_;refine aC (al) rfl rfl ?_;refine bg (akg h2') ?_;exact ai [] hQ
 · rw[akg h1] at al
   rw[akg (fun e=>h1 ⟨e.1,e.2.1,e.2.2.1,e.2.2.2.1,e.2.2.2.2.1,by rw[e.2.2.2.2.2.1]⟩)];refine zF L9 Tryz.call58 Tryz.func58 [.tmp 4] fun Q hQ=>?_;refine ae ?_;refine zC al ?_;exact ai [] hQ
theorem rQ {W:List Nat} (hL:W.length≤9223372036854775807):aA Tryz.prog 29 [.row 1 ((nl W).map (ie .u64))] [] (.row 1 ((nl (W.take 12)).map (ie .u64))) []:=by
 have e:nl (W.take 12)=(nl W).take 12:=by simp[nl,amn]
 have hn:=av W;rw[e];refine zF pl Tryz.call29 Tryz.func29 [.tmp 2] fun Q hQ=>?_
 by_cases h:12<W.length
 · refine agT ?_
   exact ai [] hQ
 · have e2:(nl W).take 12=nl W:=aku zo
   rw[e2] at hQ;exact zE [] hQ
def TR (R C k a b:Int) (W:List Nat):List V:=[.I R,.I C,.I k,.I a,.I b,.row 1 ((nl W).map (ie .u64))]
attribute [go_sem] TR
def my (W:List Nat) (i:Nat):Nat:=if i<W.length then W.getD i 0%2305843009213693951 else i+1
theorem yf {W:List Nat} {i:Nat} (hi:i≤100):my W i<2305843009213693951:=by
 unfold my
 split
 · exact akD _ zd
 · omega
theorem xR {R C k a b:Int} {W:List Nat} {i:Nat} (hi:i≤100) (hW:W.length≤9223372036854775807) (hk:∀x∈W,x<18446744073709551616):aA Tryz.prog 84 [.I i,.ref 0 0 0 0] [some (.cells (TR R C k a b W))] (.lit (.int .u64 (my W i:Int))) [some (.cells (TR R C k a b W))]:=by
 have hn:=av W;have hg:(nl W).getD i 0=((W.getD i 0:Nat):Int):=bt W i;unfold my;refine zF pl Tryz.call84 Tryz.func84 [.tmp 3] fun Q hQ=>?_
 by_cases h:i<W.length
 · rw[if_pos h] at hQ
   have hm:((W.getD i 0:Nat):Int).tmod 2305843009213693951=((W.getD i 0%2305843009213693951:Nat):Int):=by
    rw[al7 zo];omega
   generalize W.getD i 0=x at*
   refine eo hg hm ?_;exact ai [some 0] hQ
 · rw[if_neg h] at hQ
   have hi1:((i+1:Nat):Int)=(i:Int)+1:=by omega
   rw[hi1] at hQ;exact zE [some 0] hQ
def kR (W:List Nat) (m:Nat):List (Nat×Nat):=(List.range m).map fun i=>(my W (2*i),my W (2*i+1))
theorem yG {R C k a b:Int} {W:List Nat} {m:Nat} (hm:R%4=(m:Int)) (hW:W.length≤9223372036854775807) (hk:∀x∈W,x<18446744073709551616):aA Tryz.prog 33 [.agg (TR R C k a b W)] [] (.row 2 ((kR W (m+1)).map hV)) []:=by
 have hn:=av W;have m1:bS .and .i64 R 3=R%4:=eB (k:=.i64) (j:=2) (a:=R) zd;have hm4:m≤3:=by omega
 have hmm:(1:Int)+(m:Int)=((m+1:Nat):Int):=by omega
 refine zF pl Tryz.call33 Tryz.func33 [.tmp 2] fun Q hQ=>?_;refine qm m1 hm hmm ?_
 refine aW (X:=Nat) (st:=fun i=>([(3,.sl 1 2 0 i),(4,.clo 84 [.ref 0 0 0 0]),(10,.I ((m+1:Nat):Int)),(11,.I i)],[some (.cells (TR R C k a b W)),some (.row 2 ((kR W i).map hV))]))
  (inv:=fun i=>i≤m+1) (m:=fun i=>m+1-i) 0 [some 0,none] rfl ?_ zM (akF _) ?_
 · dsimp only
   (simp(disch:=(first | omega | (simp only[cS,aki,akj,true_and,and_true];(try omega);done) | fail)) only[go_sem,Int.reduceEq,Int.reduceToNat,Nat.reduceAdd,Nat.reduceMul,Nat.reduceEqDiff, ↓reduceIte,true_and,and_true,and_self,akv,akw,akk,V.lit.injEq,Value.int.injEq,Value.bool.injEq];try (first | omega | (simp;done) | (simp;omega)))
   rfl
 intro i hi
 by_cases hil:i<m+1
 · have n1:=xR (R:=R) (C:=C) (k:=k) (a:=a) (b:=b) (W:=W) (i:=2*i) zo hW hk
   have n2:=xR (R:=R) (C:=C) (k:=k) (a:=a) (b:=b) (W:=W) (i:=2*i+1) zo hW hk;have ht:kR W (i+1)=kR W i++[(my W (2*i),my W (2*i+1))]:=by unfold kR;rw[amY,alQ];rfl
   have hl:(kR W i).length=i:=by unfold kR;rw[aki,akj]
   have e1:(2:Int)*(i:Int)=((2*i:Nat):Int):=by omega
   have e2:((2*i:Nat):Int)+1=((2*i+1:Nat):Int):=by omega
   generalize kR W i=l at*
   generalize my W (2*i)=x at*
   generalize my W (2*i+1)=y at*
   refine eo e1 e2 ?_;refine aF [some 0] [] (n1) ?_;refine eo e1 e2 ?_;refine zW [some 0] [] n2 ?_;refine aI (i+1) [some 0,some 3] rfl ?_ zM zo zo;dsimp only;rw[ht,List.map_append];simp only[List.map_cons,List.map_nil,hV]
   (simp(disch:=(first | omega | (simp only[cS,aki,akj,true_and,and_true];(try omega);done) | fail)) only[go_sem,Int.reduceEq,Int.reduceToNat,Nat.reduceAdd,Nat.reduceMul,Nat.reduceEqDiff, ↓reduceIte,true_and,and_true,and_self,akv,akw,akk,V.lit.injEq,Value.int.injEq,Value.bool.injEq];try (first | omega | (simp;done) | (simp;omega)))
 · obtain rfl:i=m+1:=by omega
   have hle:(kR W (m+1)).length=m+1:=by unfold kR;rw[aki,akj]
   generalize kR W (m+1)=l at*
   generalize m+1=n at*
   subst hle;exact zE [] hQ
theorem z7 {R C kk aa bb:Int} {W:List Nat} {m c k a b:Nat} (hm:R%4=(m:Int)) (hc:C%256%64=(c:Int)) (hs:∀(s:Int×Int×Bool),aA Tryz.prog 22 [.agg [.I kk,.I aa,.I bb],.agg [.I s.1,.I s.2.1,.lit (.bool s.2.2)]] [] (.tup [pR k a b,sR (wi k a b s)]) []):
 aA Tryz.prog 32 [.agg (TR R C kk aa bb W)] [] (.agg [.I ((m+1:Nat):Int),.I ((c+1:Nat):Int),.I k,.I a,.I b]) []:=by
 have m1:bS .and .i64 R 3=R%4:=eB (k:=.i64) (j:=2) (a:=R) zd;have m2:bS .and .i64 C 255=C%256:=eB (k:=.i64) (j:=8) (a:=C) zd;have ht:(C%256).tmod 64=(c:Int):=by rw[al7 zo];exact hc
 have h0:=hs (0,0,false);have ow:=kS (k:=k) (a:=a) (b:=b);have e1:(1:Int)+(m:Int)=((m+1:Nat):Int):=by omega
 have e2:(1:Int)+(c:Int)=((c+1:Nat):Int):=by omega
 have hc64:c<64:=by omega
 have hm4:m<4:=by omega
 dsimp only at h0;refine zF Zi Tryz.call32 Tryz.func32 [.cell 2 88] fun Q hQ=>?_;refine ae ?_;refine aC (h0) rfl rfl ?_;refine Mi m1 m2 hm ht e1 e2 ?_;refine aC (ow) rfl rfl ?_;refine Mi m1 m2 hm ht e1 e2 ?_;exact ai [] hQ
end Go.Proofs.YtcnlmelpnflhnaaGreat
