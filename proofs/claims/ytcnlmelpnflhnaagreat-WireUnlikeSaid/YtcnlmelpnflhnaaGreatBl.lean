import Derived.Test.YtcnlmelpnflhnaaGreatBi
import Derived.Test.YtcnlmelpnflhnaaGreatHf
import Derived.Test.YtcnlmelpnflhnaaGreatAe
import Derived.Test.YtcnlmelpnflhnaaGreatAf
import Derived.Test.YtcnlmelpnflhnaaGreatBh
namespace Go.Proofs.YtcnlmelpnflhnaaGreat
open Go.Eng Go.Vx
set_option linter.unusedSimpArgs false
set_option linter.unusedVariables false
set_option maxRecDepth 100000
theorem pX {W:List Nat} (hL:W.length≤9223372036854775807):aC Tryz.prog 29 [.row 1 ((nl W).map (ie .u64))] [] (.row 1 ((nl (W.take 12)).map (ie .u64))) []:=by
 have e:nl (W.take 12)=(nl W).take 12:=by simp[nl,aiI]
 have hn:=aD W;rw[e];refine zF pl Tryz.call29 Tryz.func29 [.tmp 2] fun Q hQ=>?_
 by_cases h:12<W.length
 · refine acV ?_
   exact ak [] hQ
 · have e2:(nl W).take 12=nl W:=agB zo
   rw[e2] at hQ;exact zE [] hQ
def Py (R C k a b:Int) (W:List Nat):List V:=[.lit (.int .i64 R),.lit (.int .i64 C),.lit (.int .i64 k),.lit (.int .i64 a),.lit (.int .i64 b),.row 1 ((nl W).map (ie .u64))]
attribute [go_sem] Py
def ld (W:List Nat) (i:Nat):Nat:=if i<W.length then W.getD i 0%2305843009213693951 else i+1
theorem vF {W:List Nat} {i:Nat} (hi:i≤100):ld W i<2305843009213693951:=by
 unfold ld
 split
 · exact agJ _ zd
 · omega
theorem vj {R C k a b:Int} {W:List Nat} {i:Nat} (hi:i≤100) (hW:W.length≤9223372036854775807) (hk:∀x∈W,x<18446744073709551616):aC Tryz.prog 84 [.lit (.int .i64 (i:Int)),.ref 0 0 0 0] [some (.cells (Py R C k a b W))] (.lit (.int .u64 (ld W i:Int))) [some (.cells (Py R C k a b W))]:=by
 have hn:=aD W;have hg:(nl W).getD i 0=((W.getD i 0:Nat):Int):=bg W i;unfold ld;refine zF pl Tryz.call84 Tryz.func84 [.tmp 3] fun Q hQ=>?_
 by_cases h:i<W.length
 · rw[if_pos h] at hQ
   have hm:((W.getD i 0:Nat):Int).tmod 2305843009213693951=((W.getD i 0%2305843009213693951:Nat):Int):=by
    rw[ah8 zo];omega
   generalize W.getD i 0=x at*
   refine dK hg hm ?_;exact ak [some 0] hQ
 · rw[if_neg h] at hQ
   have hi1:((i+1:Nat):Int)=(i:Int)+1:=by omega
   rw[hi1] at hQ;exact zE [some 0] hQ
def jS (W:List Nat) (m:Nat):List (Nat×Nat):=(List.range m).map fun i=>(ld W (2*i),ld W (2*i+1))
theorem v5 {R C k a b:Int} {W:List Nat} {m:Nat} (hm:R%4=(m:Int)) (hW:W.length≤9223372036854775807) (hk:∀x∈W,x<18446744073709551616):aC Tryz.prog 33 [.agg (Py R C k a b W)] [] (.row 2 ((jS W (m+1)).map hV)) []:=by
 have hn:=aD W;have m1:bY .and .i64 R 3=R%4:=dP (k:=.i64) (j:=2) (a:=R) zd;have hm4:m≤3:=by omega
 have hmm:(1:Int)+(m:Int)=((m+1:Nat):Int):=by omega
 refine zF pl Tryz.call33 Tryz.func33 [.tmp 2] fun Q hQ=>?_;refine rD m1 hm hmm ?_
 refine aM (X:=Nat) (st:=fun i=>([(3,.sl 1 2 0 i),(4,.clo 84 [.ref 0 0 0 0]),(10,.lit (.int .i64 ((m+1:Nat):Int))),(11,.lit (.int .i64 (i:Int)))],[some (.cells (Py R C k a b W)),some (.row 2 ((jS W i).map hV))]))
  (inv:=fun i=>i≤m+1) (m:=fun i=>m+1-i) 0 [some 0,none] rfl ?_ zM (agM _) ?_
 · dsimp only
   (simp(disch:=(first | omega | (simp only[dm,agr,ags,true_and,and_true];(try omega);done) | fail)) only[go_sem,Int.reduceEq,Int.reduceToNat,Nat.reduceAdd,Nat.reduceMul,Nat.reduceEqDiff, ↓reduceIte,true_and,and_true,and_self,agO,agF,agt,V.lit.injEq,Value.int.injEq,Value.bool.injEq];try (first | omega | (simp;done) | (simp;omega)))
   rfl
 intro i hi
 by_cases hil:i<m+1
 · have n1:=vj (R:=R) (C:=C) (k:=k) (a:=a) (b:=b) (W:=W) (i:=2*i) zo hW hk
   have n2:=vj (R:=R) (C:=C) (k:=k) (a:=a) (b:=b) (W:=W) (i:=2*i+1) zo hW hk;have ht:jS W (i+1)=jS W i++[(ld W (2*i),ld W (2*i+1))]:=by unfold jS;rw[aiZ,ah4];rfl
   have hl:(jS W i).length=i:=by unfold jS;rw[agr,ags]
   have e1:(2:Int)*(i:Int)=((2*i:Nat):Int):=by omega
   have e2:((2*i:Nat):Int)+1=((2*i+1:Nat):Int):=by omega
   generalize jS W i=l at*
   generalize ld W (2*i)=x at*
   generalize ld W (2*i+1)=y at*
   refine dK e1 e2 ?_;refine aV [some 0] [] (n1) ?_;refine dK e1 e2 ?_;refine zW [some 0] [] n2 ?_;refine aG (i+1) [some 0,some 3] rfl ?_ zM zo zo;dsimp only;rw[ht,List.map_append];simp only[List.map_cons,List.map_nil,hV]
   (simp(disch:=(first | omega | (simp only[dm,agr,ags,true_and,and_true];(try omega);done) | fail)) only[go_sem,Int.reduceEq,Int.reduceToNat,Nat.reduceAdd,Nat.reduceMul,Nat.reduceEqDiff, ↓reduceIte,true_and,and_true,and_self,agO,agF,agt,V.lit.injEq,Value.int.injEq,Value.bool.injEq];try (first | omega | (simp;done) | (simp;omega)))
 · obtain rfl:i=m+1:=by omega
   have hle:(jS W (m+1)).length=m+1:=by unfold jS;rw[agr,ags]
   generalize jS W (m+1)=l at*
   generalize m+1=n at*
   subst hle;exact zE [] hQ
theorem xu {R C kk aa bb:Int} {W:List Nat} {m c k a b:Nat} (hm:R%4=(m:Int)) (hc:C%256%64=(c:Int)) (hs:∀(s:Int×Int×Bool),aC Tryz.prog 22 [.agg [.lit (.int .i64 kk),.lit (.int .i64 aa),.lit (.int .i64 bb)],.agg [.lit (.int .i64 s.1),.lit (.int .i64 s.2.1),.lit (.bool s.2.2)]] [] (.tup [pR k a b,sR (wi k a b s)]) []):
 aC Tryz.prog 32 [.agg (Py R C kk aa bb W)] [] (.agg [.lit (.int .i64 ((m+1:Nat):Int)),.lit (.int .i64 ((c+1:Nat):Int)),.lit (.int .i64 (k:Int)),.lit (.int .i64 (a:Int)),.lit (.int .i64 (b:Int))]) []:=by
 have m1:bY .and .i64 R 3=R%4:=dP (k:=.i64) (j:=2) (a:=R) zd;have m2:bY .and .i64 C 255=C%256:=dP (k:=.i64) (j:=8) (a:=C) zd;have ht:(C%256).tmod 64=(c:Int):=by rw[ah8 zo];exact hc
 have h0:=hs (0,0,false);have ow:=jT (k:=k) (a:=a) (b:=b);have e1:(1:Int)+(m:Int)=((m+1:Nat):Int):=by omega
 have e2:(1:Int)+(c:Int)=((c+1:Nat):Int):=by omega
 have hc64:c<64:=by omega
 have hm4:m<4:=by omega
 dsimp only at h0;refine zF U1 Tryz.call32 Tryz.func32 [.cell 2 88] fun Q hQ=>?_;refine ae ?_;refine az (h0) rfl rfl ?_;refine Is m1 m2 hm ht e1 e2 ?_;refine az (ow) rfl rfl ?_;refine Is m1 m2 hm ht e1 e2 ?_;exact ak [] hQ
theorem B7 {L:List Bool} {n p:Nat} (hL:L.length≤1048576) (hn:2≤n) (hn2:n<18446744073709551616):aC Tryz.prog 77 [.ref 0 0 0 0,.lit (.int .u64 (n:Int))] [some (aX L p true)]
 (.tup [.lit (.int .u64 0),.lit (.int .i64 8)]) [some (aX L p true)]:=by
 refine zF pl Tryz.call77 Tryz.func77 [.tmp 4,.tmp 5] fun Q hQ=>?_;have hn1:(n:Int)-1=((n-1:Nat):Int):=by omega
 have hw:=bB (n:=n-1) (k:=64) zo;have hnw:=jr (n-1);generalize hwd:bl (n-1)=w at*
 have hw1:1≤w:=by
  rcases agX w with h | h
  · rw[h,aiP] at hnw;omega
  · exact h
 refine bh hn1 ?_;refine zC (hwd▸j8 (n:=n-1) zo) ?_
 refine aU (X:=Unit) (st:=fun q=>([(0,.ref 0 0 0 0),(1,.lit (.int .u64 (n:Int))),(6,.lit (.int .i64 (w:Int)))],[some (aX L p true)]))
  (inv:=fun q=>True) (m:=fun q=>0) () [some 0] trivial ?_
 rintro ⟨⟩-;refine ae ?_
 refine aU (X:=Unit) (st:=fun i=>([(0,.ref 0 0 0 0),(1,.lit (.int .u64 (n:Int))),(6,.lit (.int .i64 (w:Int))),(7,.lit (.int .u64 0)),(15,.lit (.int .i64 (w:Int))),(16,.lit (.int .i64 0))],[some (aX L p true)]))
  (inv:=fun i=>True) (m:=fun i=>0) () [some 0] trivial ?_
 rintro ⟨⟩-;refine ae ?_;refine zW [some 0] [] (fM (L:=L) (p:=p) (d:=true) hL (.inl rfl)) ?_;exact ak [some 0] hQ
theorem Fu {K P C:Int} {X:List (Nat×Nat)} {N key p:Nat} {L:List Bool} (hX:X.length≤1000000) (h:X≠ []) (hk:key<2305843009213693951) (hN:N<1048576) (hN1:1≤N) (hL:L.length≤1048576):
 aC Tryz.prog 20 [.ref 0 0 0 0,.ref 1 0 0 0,.lit (.int .u64 (key:Int))] [some (oF K P C X N),some (aX L p true)]
 (.lit (.int .i64 8)) [some (oF K P C X N),some (aX L p true)]:=by
 have hc:=sT (K:=K) (P:=P) (C:=C) (N:=N) hX h;have hNN:(N:Int)+1=((N+1:Nat):Int):=by omega
 have hb:=B7 (L:=L) (n:=N+1) (p:=p) hL zo zo;have hXl:0<X.length:=aiT.2 h;refine zF pl Tryz.call20 Tryz.func20 [.tmp 6] fun Q hQ=>?_;refine ae ?_;refine dB (hc) ?_;refine ae ?_
 refine aU (X:=Unit) (st:=fun y=>([(0,.ref 0 0 0 0),(1,.ref 1 0 0 0),(2,.lit (.int .u64 (key:Int))),(7,.ref 2 0 0 0),(34,.lit (.int .i64 (X.length:Int))),(35,.lit (.int .i64 0))],[some (oF K P C X N),some (aX L p true),some (.cells [.lit (.int .i64 K),.lit (.int .i64 P),.lit (.int .i64 C),.sl 3 2 0 X.length,.lit (.int .i64 ((N+1:Nat):Int))]),some (.row 2 (X.map sV))]))
  (inv:=fun y=>True) (m:=fun y=>0) () [some 0,some 1,some 2,some 3] trivial ?_
 rintro ⟨⟩-;refine ae ?_;refine zW [some 1] [] hb ?_;exact ak [some 0,some 1] hQ
theorem Bw {L:List Bool} {N key:Nat} {X X':List (Nat×Nat)} {p q:Nat} (hX:0<N→∀x∈X,1≤x.2) (h:fm L (N+1) key X p=some (X',q)):∀x∈X',1≤x.2:=by
 have st:∀(x:Nat×Nat) (a:Nat),a<N+1→(N=0∨1≤x.2)→1≤(LY key a x).2:=by
  intro x a ha hx;unfold LY
  split
  · exact agt _
  · split
    · show 1≤x.2+1;omega
    · omega
 rcases agX N with h0 | h0
 · exact qL (aic N) (A:=fun _=>True) (fun x a ha _=>st x a ha (.inl h0)) (fun _ _=>trivial) h
 · exact qL (aic N) (A:=fun x=>1≤x.2) (fun x a ha hx=>st x a ha (.inr hx)) (hX h0) h
def Th (C:Nat) (X:List (Nat×Nat)) (N:Nat):Prop:=X.length=C∧(∀x∈X,x.1<2305843009213693951∧x.2≤N)∧((0<N∧∀x∈X,1≤x.2)∨(N=0∧∀x∈X,x=(0,0)))
theorem MJ {L:List Bool} {p:Nat} (hp:p≤L.length):bP L 1 p=(0,0,p,false):=by
 obtain ⟨f,hf⟩:∃f,L.length+1-p=f+1:=⟨L.length-p,by omega⟩;unfold bP;rw[hf,show bl (1-1)=0 from rfl];unfold db;rw[if_pos zo,ahk,sd,if_pos zd]
 rfl
theorem pv {L:List Bool} {key:Nat}:∀{X:List (Nat×Nat)} {p:Nat},p≤L.length→fm L (0+1) key X p≠none
 | [],p,hp=>fun h=>by cases h
 | x::xs,p,hp=>fun h=>by
   unfold fm at h;rw[show 0+1=1 from rfl,MJ hp,if_pos rfl,Option.map_eq_none_iff] at h;exact pv (X:=xs) hp h
theorem AL {C:Nat}:Th C (List.replicate C (0,0)) 0:=by
 refine⟨agN,fun x hx=>?_,.inr ⟨rfl,fun x hx=>(aiz.1 hx).2⟩⟩;rw[(aiz.1 hx).2];exact⟨by decide,agt _⟩
theorem zL {K P:Int} {C:Nat} {X:List (Nat×Nat)} {N key p:Nat} {d:Bool} {L:List Bool} (hC:1≤C∧C≤1000) (h:Th C X N) (hk:key<2305843009213693951) (hN:N≤1000) (hd:d=true→1≤N) (hL:L.length≤1048576) (hp:p≤L.length):
 ∃(e:Int) (X':List (Nat×Nat)) (N' q:Nat) (d':Bool),Th C X' N'∧N'≤N+1∧(d'=true→1≤N')∧q≤L.length∧
 aC Tryz.prog 20 [.ref 0 0 0 0,.ref 1 0 0 0,.lit (.int .u64 (key:Int))] [some (oF K P C X N),some (aX L p d)]
 (.lit (.int .i64 e)) [some (oF K P C X' N'),some (aX L q d')]:=by
 obtain ⟨hX,hR,hR1⟩:=h;have hXne:X≠ []:=fun e=>by rw[e] at hX;simp at hX;omega
 cases d with
 | true=>exact⟨8,X,N,p,true,⟨hX,hR,hR1⟩,by omega,fun _=>hd rfl,hp,Fu zo hXne hk zo (hd rfl) hL⟩
 | false=>
   have hu:=Kj (K:=K) (P:=P) (C:=C) (X:=X) (N:=N) (key:=key) (p:=p) (L:=L) zo hXne zo zo hL hp (fun x hx=>by have:=hR x hx;omega)
   cases hup:fm L (N+1) key X p with
   | some r=>
     obtain ⟨X',q⟩:=r;obtain ⟨k1,k2,k3⟩:=Ih hp hup;have hR':=Ki (B:=2305843009213693951) zo hR hup;have hP1:=Bw (fun h=>hR1.elim (fun h1=>h1.2) (fun h1=>absurd h1.1 zo)) hup;rw[hup] at hu;exact⟨0,X',N+1,q,false,⟨by omega,hR',.inl ⟨aic _,hP1⟩⟩,agt _,fun h=>(by cases h),k2,hu⟩
   | none=>
     rw[hup] at hu
     have hN1:1≤N:=by
      rcases agX N with h0 | h0
      · subst h0
        exact absurd hup (pv hp)
      · exact h0
     exact⟨8,X,N,L.length,true,⟨hX,hR,hR1⟩,by omega,fun _=>hN1,agt _,hu⟩
end Go.Proofs.YtcnlmelpnflhnaaGreat
