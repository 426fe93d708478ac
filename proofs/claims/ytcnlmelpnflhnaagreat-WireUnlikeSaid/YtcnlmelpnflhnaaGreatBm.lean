import Derived.Test.YtcnlmelpnflhnaaGreatBi
import Derived.Test.YtcnlmelpnflhnaaGreatAf
namespace Go.Proofs.YtcnlmelpnflhnaaGreat
open Go.Eng Go.Vx
set_option linter.unusedSimpArgs false
set_option linter.unusedVariables false
set_option maxRecDepth 100000
theorem KD {k a b:Nat} {s t:SR} (h:aL k a b) (hs:aP k a b s) (ht:aP k a b t) (e:fj k a b s=fj k a b t):s=t:=by
 have e1:cD k a b s=cD k a b t:=by rw[←nO,←nO,e]
 have r1:=ix (A:=[]) (R:=[]) h hs;have r2:=ix (A:=[]) (R:=[]) h ht;rw[e1,r2] at r1;injection r1 with r1;injection r1 with r1;exact r1.symm
theorem rI {α β:Type} {f:α→β} {P:α→Prop} (hf:∀x y,P x→P y→f x=f y→x=y):∀{l m:List α},(∀x∈l,P x)→(∀x∈m,P x)→l.map f=m.map f→l=m
 | [],[],_,_,_=>rfl
 | [],y::ys,_,_,h=>by cases h
 | x::xs,[],_,_,h=>by cases h
 | x::xs,y::ys,h1,h2,h=>by
   injection h with h3 h4;rw[hf x y (h1 x alm) (h2 y alm) h3,rI hf (fun z hz=>h1 z (akJ _ hz)) (fun z hz=>h2 z (akJ _ hz)) h4]
theorem M5 {k a b n:Nat} {l m:List SR} (h:aL k a b) (hl:l.length=n) (hm:m.length=n) (wl:∀s∈l,aP k a b s) (wm:∀s∈m,aP k a b s):
 words (aZ n (wd k a b)) (bg k a b l)=words (aZ n (wd k a b)) (bg k a b m)↔l=m:=by
 have hw:=dN h
 have lt:∀(l:List SR),∀x∈l.map (fj k a b),x<2^wd k a b:=by
  intro l x hx;obtain ⟨s,_,rfl⟩:=akh.1 hx;exact kG k a b s
 unfold bg;rw[G7 zo (by rw[ajl,hl]) (by rw[ajl,hm]) (lt l) (lt m)];exact⟨fun e=>rI (fun x y hx hy=>KD h hx hy) wl wm e,fun e=>by rw[e]⟩
theorem uq {n w X m v Y:Nat} (h:n≠m):aA Tryz.prog 115 [jC n w (words (aZ n w) X),jC m v (words (aZ m v) Y)] [] (.lit (.bool false)) []:=by
 have h':¬(n:Int)=(m:Int):=by omega
 refine zF CI Tryz.call115 Tryz.func115 [.tmp 4] fun Q hQ=>?_;refine br (ajn h') ?_;exact ak [] hQ
theorem uy {k a b n k2 a2 b2 n2:Nat} {l m:List SR} (h:aL k a b) (hn:n≤256) (hl:l.length=n) (hm:m.length=n2) (wl:∀s∈l,aP k a b s) (wm:∀s∈m,aP k2 a2 b2 s):
 aA Tryz.prog 56 [kA k a b n (wd k a b) (bg k a b l),kA k2 a2 b2 n2 (wd k2 a2 b2) (bg k2 a2 b2 m)] [] (.lit (.bool (decide (k=k2∧a=a2∧b=b2∧l=m)))) []:=by
 have hw:=dN h
 by_cases hq:k=k2∧a=a2∧b=b2
 · obtain ⟨rfl,rfl,rfl⟩:=hq
   by_cases hnn:n=n2
   · subst hnn
     have s:=nF (k:=k) (a:=a) (b:=b) (k2:=k) (a2:=a) (b2:=b) (w8 (X:=bg k a b l) (Y:=bg k a b m) hn ⟨hw.1,by omega⟩);rw[decide_eq_decide.2 (M5 h hl hm wl wm),aju ⟨rfl,rfl,rfl⟩,akD] at s;rw[show decide (k=k∧a=a∧b=b∧l=m)=decide (l=m) by simp];exact s
   · have s:=nF (k:=k) (a:=a) (b:=b) (k2:=k) (a2:=a) (b2:=b) (uq (w:=wd k a b) (v:=wd k a b) (X:=bg k a b l) (Y:=bg k a b m) hnn)
     rw[Bool.and_false] at s;rw[ajn (fun e=>hnn (by rw[←hl,←hm,e.2.2.2]))];exact s
 · by_cases hnn:n=n2∧wd k a b=wd k2 a2 b2
   · obtain ⟨h1,h2⟩:=hnn
     subst h1;rw[←h2];have s:=nF (k:=k) (a:=a) (b:=b) (k2:=k2) (a2:=a2) (b2:=b2) (w8 (X:=bg k a b l) (Y:=bg k2 a2 b2 m) hn ⟨hw.1,by omega⟩);rw[ajn hq,alz] at s;rw[ajn (fun e=>hq ⟨e.1,e.2.1,e.2.2.1⟩)];exact s
   · have sv:aA Tryz.prog 115 [jC n (wd k a b) (words (aZ n (wd k a b)) (bg k a b l)),jC n2 (wd k2 a2 b2) (words (aZ n2 (wd k2 a2 b2)) (bg k2 a2 b2 m))] [] (.lit (.bool false)) []:=by
      by_cases h1:n=n2
      · have h2:¬((wd k a b:Nat):Int)=((wd k2 a2 b2:Nat):Int):=fun e=>hnn ⟨h1,by omega⟩
        subst h1;refine zF CI Tryz.call115 Tryz.func115 [.tmp 4] fun Q hQ=>?_;refine br (ajn h2) ?_;exact ak [] hQ
      · exact uq h1
     have s:=nF (k:=k) (a:=a) (b:=b) (k2:=k2) (a2:=a2) (b2:=b2) sv;rw[Bool.and_false] at s;rw[ajn (fun e=>hq ⟨e.1,e.2.1,e.2.2.1⟩)];exact s
def hW (r:RW):List PV:=[.lit (.int .u64 (r.1:Int)),.lit (.int .u64 (r.2.1:Int))]
attribute [go_sem] hW
theorem ph {R C k a b T:Nat} {l:List RW} (hl:l.length≤100):aA Tryz.prog 155 [nk R C k a b l T] [] (.row 2 (l.map hW)) []:=by
 refine zF pl Tryz.call155 Tryz.func155 [.tmp 2] fun Q hQ=>?_;refine ae ?_
 refine aR (X:=Nat) (st:=fun i=>([(3,.sl 0 2 0 i),(9,.row 3 (l.map (fW k a b C))),(10,.lit (.int .i64 (l.length:Int))),(11,.lit (.int .i64 (i:Int)))],[some (.row 2 ((l.take i).map hW))]))
  (inv:=fun i=>i≤l.length) (m:=fun i=>l.length-i) 0 [none] (ajH _) ?_
 intro i hi
 by_cases hil:i<l.length
 · have ht:l.take (i+1)=l.take i++[l.getD i default]:=by
    rw[ajN hil,ajk,ajm hil]
    rfl
   have hlr:(l.take i).length=i:=by rw[ajt];omega
   generalize l.take i=m at*
   obtain ⟨⟨A,B,x⟩,ea⟩:∃a,l.getD i default=a:=⟨_,rfl⟩;rw[ea] at ht
   simp(maxSteps:=1000000) (disch:=(first | omega | (simp only[cQ,ajl,ajo,true_and,and_true];(try omega);done) | fail)) only[go_sem,ea,fW,Int.reduceEq,Int.reduceToNat,Nat.reduceAdd,Nat.reduceMul,Nat.reduceEqDiff, ↓reduceIte]
   refine aH (i+1) [some 3] rfl ?_ zM zo zo;dsimp only;rw[ht,List.map_append];simp only[List.map_cons,List.map_nil,hW]
   (simp(disch:=(first | omega | (simp only[cQ,ajl,ajo,true_and,and_true];(try omega);done) | fail)) only[go_sem,Int.reduceEq,Int.reduceToNat,Nat.reduceAdd,Nat.reduceMul,Nat.reduceEqDiff, ↓reduceIte,true_and,and_true,and_self,ajE,ajz,ajp,V.lit.injEq,Value.int.injEq,Value.bool.injEq];try (first | omega | (simp;done) | (simp;omega)))
 · obtain rfl:i=l.length:=by omega
   rw[ajz];exact zE [] hQ
def hk (r:RW):Nat×Nat:=(r.1,r.2.1)
theorem Ed {A B:List RW} (hA:A.length≤1000000) (hB:B.length≤1000000):aA Tryz.prog 154 [.row 2 (A.map hW),.row 2 (B.map hW)] [] (.lit (.bool (decide (A.map hk=B.map hk)))) []:=by
 refine zF NG Tryz.call154 Tryz.func154 [.tmp 4] fun Q hQ=>?_
 by_cases hl:A.length=B.length
 · refine ae ?_
   refine aR (X:=Nat) (st:=fun i=>([(0,.row 2 (A.map hW)),(1,.row 2 (B.map hW)),(12,.lit (.int .i64 (A.length:Int))),(13,.lit (.int .i64 (i:Int)))],[]))
    (inv:=fun i=>i≤A.length∧(A.take i).map hk=(B.take i).map hk) (m:=fun i=>A.length-i) 0 [] ⟨by omega,by simp⟩ ?_
   rintro i ⟨hi,ht⟩
   by_cases h:i<A.length
   · have hB':i<B.length:=by omega
     have gA:A.getD i default=A[i]:=by rw[ajk,ajm h];rfl
     have gB:B.getD i default=B[i]:=by rw[ajk,ajm hB'];rfl
     have hs:hk (A.getD i default)=hk (B.getD i default)→(A.take (i+1)).map hk=(B.take (i+1)).map hk:=by
      intro e;rw[ajN h,ajN hB',akX,akX,ht,←gA,←gB];simp only[ajK,ajQ,e]
     have hne:hk (A.getD i default)≠hk (B.getD i default)→¬A.map hk=B.map hk:=by
      intro hn e;apply hn;have e1:(A.map hk)[i]? =(B.map hk)[i]? :=by rw[e]
      rw[aj1,aj1,ajm h,ajm hB'] at e1;rw[gA,gB];injection e1
     clear gA gB;obtain ⟨⟨a1,a2,a3⟩,ea⟩:∃a,A.getD i default=a:=⟨_,rfl⟩;obtain ⟨⟨b1,b2,b3⟩,eb⟩:∃b,B.getD i default=b:=⟨_,rfl⟩;rw[ea,eb] at hs hne
     by_cases e1:a1=b1
     · by_cases e2:a2=b2
       · subst e1 e2
         have hs':=hs rfl;refine ej ea eb ?_;refine aM (i+1) [] ⟨by omega,hs'⟩ zo
       · have e2':¬(a2:Int)=(b2:Int):=by omega
         rw[ajn (hne (fun e=>e2 (by injection e)))] at hQ;subst e1;refine qZ ea eb (ajn e2') ?_;exact ak [] hQ
     · have e1':¬(a1:Int)=(b1:Int):=by omega
       rw[ajn (hne (fun e=>e1 (by injection e)))] at hQ;refine QK ea eb (ajn e1') ?_;exact ak [] hQ
   · obtain rfl:i=A.length:=by omega
     rw[ajz,hl,ajz] at ht;rw[aju ht] at hQ;exact zE [] hQ
 · have hl':¬A.map hk=B.map hk:=fun e=>hl (by rw[←ajl (f:=hk),e,ajl])
   rw[ajn hl'] at hQ;exact zE [] hQ
theorem zG {R C k a b T R2 C2 k2 a2 b2 T2:Nat} {l m:List RW} (hl:l.length≤100) (hm:m.length≤100):aA Tryz.prog 118 [nk R C k a b l T,nk R2 C2 k2 a2 b2 m T2] []
 (.lit (.bool (decide (R=R2∧C=C2∧k=k2∧a=a2∧b=b2∧l.map hk=m.map hk)))) []:=by
 have h1:=ph (R:=R) (C:=C) (k:=k) (a:=a) (b:=b) (T:=T) hl;have h2:=ph (R:=R2) (C:=C2) (k:=k2) (a:=a2) (b:=b2) (T:=T2) hm;have he:=Ed (A:=l) (B:=m) zo zo
 by_cases hq:R=R2∧C=C2∧k=k2∧a=a2∧b=b2
 · obtain ⟨rfl,rfl,rfl,rfl,rfl⟩:=hq
   rw[show decide (R=R∧C=C∧k=k∧a=a∧b=b∧l.map hk=m.map hk)=decide (l.map hk=m.map hk) by simp];refine zF ID Tryz.call118 Tryz.func118 [.tmp 4] fun Q hQ=>?_;refine ae ?_;refine zC h1 ?_;refine zC h2 ?_;refine zC he ?_;exact ak [] hQ
 · rw[ajn (fun e=>hq ⟨e.1,e.2.1,e.2.2.1,e.2.2.2.1,e.2.2.2.2.1⟩)]
   have hd:(decide ((R:Int)=(R2:Int))&&(decide ((C:Int)=(C2:Int))&&(decide ((k:Int)=(k2:Int))&&(decide ((a:Int)=(a2:Int))&&decide ((b:Int)=(b2:Int))))))=false:=by
    rw[ak0];intro h;simp only[ajs,decide_eq_true_eq] at h;exact hq ⟨by omega,by omega,by omega,by omega,by omega⟩
   refine zF ID Tryz.call118 Tryz.func118 [.tmp 4] fun Q hQ=>?_;refine br hd ?_;exact ak [] hQ
theorem Gk {k a b C:Nat} {l m:List SR} {A B A2 B2:Nat} (h:aL k a b) (hC:C≤256) (hl:l.length=C) (hm:m.length=C) (wl:∀s∈l,aP k a b s) (wm:∀s∈m,aP k a b s):
 aA Tryz.prog 117 [.agg [.lit (.int .u64 (A:Int)),.lit (.int .u64 (B:Int)),kA k a b C (wd k a b) (bg k a b l)],.agg [.lit (.int .u64 (A2:Int)),.lit (.int .u64 (B2:Int)),kA k a b C (wd k a b) (bg k a b m)]] [] (.lit (.bool (decide (l=m)))) []:=by
 have s:=uy h hC hl hm wl wm;rw[show decide (k=k∧a=a∧b=b∧l=m)=decide (l=m) by simp] at s;have hlw:=aq (aZ C (wd k a b)) (bg k a b l);have hlm:=aq (aZ C (wd k a b)) (bg k a b m);refine zF pl Tryz.call117 Tryz.func117 [.tmp 4] fun Q hQ=>?_;refine ae ?_;refine zC s ?_;exact ak [] hQ
def hc (r:RW):List SR:=r.2.2
theorem Eb {k a b C:Nat} {A B:List RW} (h:aL k a b) (hC:C≤256) (hA:A.length≤100) (hl:A.length=B.length) (wA:∀r∈A,bC k a b C r) (wB:∀r∈B,bC k a b C r):
 aA Tryz.prog 119 [.row 3 (A.map (fW k a b C)),.row 3 (B.map (fW k a b C)),.clo 117 []] [] (.lit (.bool (decide (A.map hc=B.map hc)))) []:=by
 refine zF pl Tryz.call119 Tryz.func119 [.tmp 6] fun Q hQ=>?_;refine ae ?_
 refine aR (X:=Nat) (st:=fun i=>([(1,.row 3 (B.map (fW k a b C))),(2,.clo 117 []),(15,.row 3 (A.map (fW k a b C))),(16,.lit (.int .i64 (A.length:Int))),(17,.lit (.int .i64 (i:Int)))],[]))
  (inv:=fun i=>i≤A.length∧(A.take i).map hc=(B.take i).map hc) (m:=fun i=>A.length-i) 0 [] ⟨by omega,by simp⟩ ?_
 rintro i ⟨hi,ht⟩
 by_cases hil:i<A.length
 · have hB':i<B.length:=by omega
   have gA:A.getD i default=A[i]:=by rw[ajk,ajm hil];rfl
   have gB:B.getD i default=B[i]:=by rw[ajk,ajm hB'];rfl
   have hs:hc (A.getD i default)=hc (B.getD i default)→(A.take (i+1)).map hc=(B.take (i+1)).map hc:=by
    intro e;rw[ajN hil,ajN hB',akX,akX,ht,←gA,←gB];simp only[ajK,ajQ,e]
   have hne:hc (A.getD i default)≠hc (B.getD i default)→¬A.map hc=B.map hc:=by
    intro hn e;apply hn;have e1:(A.map hc)[i]? =(B.map hc)[i]? :=by rw[e]
    rw[aj1,aj1,ajm hil,ajm hB'] at e1;rw[gA,gB];injection e1
   have oA:bC k a b C (A.getD i default):=by rw[gA];exact wA _ (akA _)
   have oB:bC k a b C (B.getD i default):=by rw[gB];exact wB _ (akA _)
   clear gA gB;obtain ⟨⟨a1,a2,a3⟩,ea⟩:∃a,A.getD i default=a:=⟨_,rfl⟩;obtain ⟨⟨b1,b2,b3⟩,eb⟩:∃b,B.getD i default=b:=⟨_,rfl⟩;rw[ea,eb] at hs hne;rw[ea] at oA;rw[eb] at oB;have sm:=Gk (A:=a1) (B:=a2) (A2:=b1) (B2:=b2) h hC oA.2.2.1 oB.2.2.1 oA.2.2.2 oB.2.2.2;dsimp only at sm
   by_cases e:a3=b3
   · have hs':=hs e
     rw[aju e] at sm
     simp(maxSteps:=1000000) (disch:=(first | omega | (simp only[cQ,ajl,ajo,true_and,and_true];(try omega);done) | fail)) only[go_sem,ea,eb,fW,jV,Int.reduceEq,Int.reduceToNat,Nat.reduceAdd,Nat.reduceMul,Nat.reduceEqDiff, ↓reduceIte]
     refine zC sm ?_;refine aM (i+1) [] ⟨by omega,hs'⟩ zo
   · rw[ajn e] at sm
     rw[ajn (hne e)] at hQ
     simp(maxSteps:=1000000) (disch:=(first | omega | (simp only[cQ,ajl,ajo,true_and,and_true];(try omega);done) | fail)) only[go_sem,ea,eb,fW,jV,Int.reduceEq,Int.reduceToNat,Nat.reduceAdd,Nat.reduceMul,Nat.reduceEqDiff, ↓reduceIte]
     refine zC sm ?_;exact ak [] hQ
 · obtain rfl:i=A.length:=by omega
   rw[ajz,hl,ajz] at ht;rw[aju ht] at hQ;exact zE [] hQ
theorem zJ {l m:List RW}:(l.map hk=m.map hk∧l.map hc=m.map hc)↔l=m:=by
 refine⟨fun h=>?_,fun h=>by rw[h];exact⟨rfl,rfl⟩⟩;obtain ⟨h1,h2⟩:=h
 induction l generalizing m with
 | nil=>cases m with
   | nil=>rfl
   | cons y ys=>cases h1
 | cons x xs ih=>cases m with
   | nil=>cases h1
   | cons y ys=>
     injection h1 with h3 h4;injection h2 with h5 h6;rw[ih h4 h6];obtain ⟨x1,x2,x3⟩:=x;obtain ⟨y1,y2,y3⟩:=y;injection h3 with h7 h8;have g7:x1=y1:=h7;have g8:x2=y2:=h8;have g5:x3=y3:=h5;rw[g7,g8,g5]
set_option maxHeartbeats 2000000 in
theorem Dv {R C k a b T R2 C2 k2 a2 b2 T2:Nat} {l m:List RW} (h:aL k a b) (hC:C≤256) (hl:l.length=R) (hm:m.length=R2) (hR:R≤100) (hR2:R2≤100) (wl:∀r∈l,bC k a b C r) (wm:∀r∈m,bC k2 a2 b2 C2 r):
 aA Tryz.prog 58 [nk R C k a b l T,nk R2 C2 k2 a2 b2 m T2] [] (.lit (.bool (decide (R=R2∧C=C2∧k=k2∧a=a2∧b=b2∧l=m∧T=T2)))) []:=by
 have al:=zG (R:=R) (C:=C) (k:=k) (a:=a) (b:=b) (T:=T) (R2:=R2) (C2:=C2) (k2:=k2) (a2:=a2) (b2:=b2) (T2:=T2) (l:=l) (m:=m) zo zo
 by_cases h1:R=R2∧C=C2∧k=k2∧a=a2∧b=b2∧l.map hk=m.map hk
 · rw[aju h1] at al
   obtain ⟨rfl,rfl,rfl,rfl,rfl,hh⟩:=h1
   by_cases h2:T=T2
   · subst h2
     have ef:=Eb h hC zo (hl.trans hm.symm) wl wm;have e2:(R=R∧C=C∧k=k∧a=a∧b=b∧l=m∧T=T)↔l.map hc=m.map hc:=⟨fun h=>by rw[h.2.2.2.2.2.1],fun h=>⟨rfl,rfl,rfl,rfl,rfl,zJ.1 ⟨hh,h⟩,rfl⟩⟩;rw[←decide_eq_decide.2 e2] at ef;generalize decide (R=R∧C=C∧k=k∧a=a∧b=b∧l=m∧T=T)=r at*
     refine zF KH Tryz.call58 Tryz.func58 [.tmp 4] fun Q hQ=>?_;refine ae ?_;refine zC al ?_;refine zC ef ?_;exact ak [] hQ
   · have h2':¬(T:Int)=(T2:Int):=by omega
     rw[ajn (fun e=>h2 e.2.2.2.2.2.2)];refine zF KH Tryz.call58 Tryz.func58 [.tmp 4] fun Q hQ=>?_;refine ae ?_;refine aB (al) rfl rfl ?_;refine br (ajn h2') ?_;exact ak [] hQ
 · rw[ajn h1] at al
   rw[ajn (fun e=>h1 ⟨e.1,e.2.1,e.2.2.1,e.2.2.2.1,e.2.2.2.2.1,by rw[e.2.2.2.2.2.1]⟩)];refine zF KH Tryz.call58 Tryz.func58 [.tmp 4] fun Q hQ=>?_;refine ae ?_;refine zC al ?_;exact ak [] hQ
end Go.Proofs.YtcnlmelpnflhnaaGreat
