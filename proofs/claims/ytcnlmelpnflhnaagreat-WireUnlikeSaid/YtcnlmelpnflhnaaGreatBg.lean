import Derived.Test.YtcnlmelpnflhnaaGreatBf
import Derived.Test.YtcnlmelpnflhnaaGreatAb
namespace Go.Proofs.YtcnlmelpnflhnaaGreat
open Go.Eng Go.Vx
set_option linter.unusedSimpArgs false
set_option linter.unusedVariables false
set_option maxRecDepth 100000
def Bx (L:List Bool) (a b:Nat) (x:TS):Prop:=x.1.1≤a∧x.1.2.1≤b∧(x.1.2.2=true→x.1.2.1=b)∧x.2.1≤L.length
theorem Bx.okD {L:List Bool} {a b:Nat} {x:TS} (ha:a≤1000) (h:Bx L a b x):okD L b x:=⟨ajD h.1 ha,h.2⟩
theorem Qd {L:List Bool} {a b:Nat} (hL:L.length≤1048576) (ha:a≤999) (hb:b≤100) (x:TS) (hx:Bx L a b x):∃y:Int×TS,y.2.2.1≤L.length∧(y.1=0→Bx L a b y.2)∧
 aA Tryz.prog 123 [.agg [.lit (.int .i64 (a:Int)),.lit (.int .i64 (b:Int))],.ref 0 0 0 0,sR x.1] [some (bt L x.2.1 x.2.2)] (.tup [sR y.2.1,.lit (.int .i64 y.1)]) [some (bt L y.2.2.1 y.2.2.2)]:=by
 obtain ⟨⟨Y,T,F⟩,p,d⟩:=x;obtain ⟨h1,h2,h3,h4⟩:=hx;dsimp only at h1 h2 h3 h4;obtain ⟨hb1,e,q,d',hq,h⟩:=v8 (k:=(T:Int)) (K:=T) (d:=d) hL h4 zo zo
 cases hb1 with
 | false=>
   refine⟨(e,(Y,T,F),q,d'),hq,fun _=>⟨h1,h2,h3,hq⟩,?_⟩;refine zF pl Tryz.call123 Tryz.func123 [.cell 6 131,.tmp 7] fun Q hQ=>?_;refine ae ?_;refine zW [some 0] [] h ?_;exact ak [some 0] hQ
 | true=>
   obtain ⟨y,y1,y2,y3⟩:=Mo (a:=a) hL zo hb ((Y+1,T,F),q,d') ⟨by dsimp only;omega,h2,h3,hq⟩;refine⟨y,y1,fun he=>⟨(y2 he).2,(y2 he).1.2⟩,?_⟩;obtain ⟨E,⟨Y2,T2,F2⟩,q2,d2⟩:=y;dsimp only at y3 ⊢;have hY1:((Y+1:Nat):Int)=(Y:Int)+1:=by omega
   simp only[sR,hY1] at y3;refine zF pl Tryz.call123 Tryz.func123 [.cell 6 131,.tmp 7] fun Q hQ=>?_;refine ae ?_;refine zW [some 0] [] h ?_;refine zW [some 0] [] y3 ?_;exact ak [some 0] hQ
theorem FD {a b:Nat} {s:Nat×Nat×Bool} (h1:1≤a) (h2:a≤1023) (h3:b≤20) (w1:s.1≤a) (w2:s.2.1≤b) (w3:s.2.2=true→s.2.1=b):aA Tryz.prog 122 [.agg [.lit (.int .i64 (a:Int)),.lit (.int .i64 (b:Int))],.row 3 [[.lit (.int .i64 (s.1:Int)),.lit (.int .i64 (s.2.1:Int)),.lit (.bool s.2.2)]]] [] (.lit (.int .i64 0)) []:=by
 have rc:=lV h1 h2 h3;have rw':=xx h1 h2 h3 w1 w2 w3;refine zF pl Tryz.call122 Tryz.func122 [.tmp 4] fun Q hQ=>?_;refine ae ?_;refine zC rc ?_
 refine aR (X:=Nat) (st:=fun i=>([(2,.ref 0 0 0 0),(13,.row 3 [[.lit (.int .i64 (s.1:Int)),.lit (.int .i64 (s.2.1:Int)),.lit (.bool s.2.2)]]),(14,.lit (.int .i64 1)),(15,.lit (.int .i64 (i:Int)))],
  [some (.cells [.lit (.int .i64 (a:Int)),.lit (.int .i64 (b:Int))])]))
  (inv:=fun i=>i≤1) (m:=fun i=>1-i) 0 [some 0] (ajH _) ?_
 intro i hi
 by_cases hil:i<1
 · obtain rfl:i=0:=by omega
   refine ae ?_;refine zC rw' ?_;refine aM 1 [some 0] (ajp _) zd
 · obtain rfl:i=1:=by omega
   exact zE [] hQ
def px (G:TS→Int×TS) (s:TS):Nat→TS→Int×TS
 | 0,x=>(0,x)
 | n+1,x=>if (G x).1≠0 then((G x).1,s.1,(G x).2.2) else px G s n (G x).2
theorem Br {G:TS→Int×TS} {s x:TS}:px G s 0 x=(0,x):=rfl
theorem sn {G:TS→Int×TS} {s x:TS} {n:Nat}:px G s (n+1) x=if (G x).1≠0 then((G x).1,s.1,(G x).2.2) else px G s n (G x).2:=rfl
theorem yw {L:List Bool} {a b:Nat} {G:TS→Int×TS} {s:TS} (hG:∀x,Bx L a b x→(G x).2.2.1≤L.length∧((G x).1=0→Bx L a b (G x).2)) (hs:Bx L a b s):∀n x,Bx L a b x→Bx L a b (px G s n x).2
 | 0,x,h=>h
 | n+1,x,h=>by
   rw[sn]
   split
   · exact⟨hs.1,hs.2.1,hs.2.2.1,(hG x h).1⟩
   · rename_i h1
     exact yw hG hs n _ ((hG x h).2 (Classical.not_not.1 h1))
theorem MC {L:List Bool} {a b n:Nat} (hL:L.length≤1048576) (ha1:1≤a) (ha:a≤999) (hb:b≤20) (hn:n≤100) (x:TS) (hx:Bx L a b x):∃y:Int×TS,Bx L a b y.2∧
 aA Tryz.prog 63 [.agg [.lit (.int .i64 (a:Int)),.lit (.int .i64 (b:Int))],.ref 0 0 0 0,sR x.1,.lit (.int .i64 (n:Int))] [some (bt L x.2.1 x.2.2)] (.tup [sR y.2.1,.lit (.int .i64 y.1)]) [some (bt L y.2.2.1 y.2.2.2)]:=by
 obtain ⟨G,hG⟩:=Classical.skolem.1 fun x=>show∃y:Int×TS,Bx L a b x→y.2.2.1≤L.length∧(y.1=0→Bx L a b y.2)∧
  aA Tryz.prog 123 [.agg [.lit (.int .i64 (a:Int)),.lit (.int .i64 (b:Int))],.ref 0 0 0 0,sR x.1] [some (bt L x.2.1 x.2.2)] (.tup [sR y.2.1,.lit (.int .i64 y.1)]) [some (bt L y.2.2.1 y.2.2.2)] from by
  by_cases h:Bx L a b x
  · obtain ⟨y,hy⟩:=Qd hL ha zo x h
    exact⟨y,fun _=>hy⟩
  · exact⟨(0,x),fun h'=>absurd h' h⟩
 refine⟨px G x n x,yw (fun x h=>⟨(hG x h).1,(hG x h).2.1⟩) hx n x hx,?_⟩;obtain ⟨⟨Y,T,F⟩,p,d⟩:=x;have wr:=FD (s:=(Y,T,F)) ha1 zo hb hx.1 hx.2.1 hx.2.2.1;have hmx:max 0 (n:Int)=(n:Int):=by omega
 dsimp only at wr ⊢;refine zF pl Tryz.call63 Tryz.func63 [.cell 8 131,.tmp 9] fun Q hQ=>?_;refine ae ?_;refine aF [] [4] (wr) ?_;refine br hmx ?_
 refine aR (X:=Nat×TS) (st:=fun z=>([(1,.ref 0 0 0 0),(4,.ref 1 0 0 0),(6,.ref 2 0 0 0),(8,.ref 3 0 0 0),(11,.ref 4 0 0 0),(27,.lit (.int .i64 (n:Int))),(28,.lit (.int .i64 (z.1:Int)))],
  [some (bt L z.2.2.1 z.2.2.2),some (.cells [.lit (.int .i64 (a:Int)),.lit (.int .i64 (b:Int))]),some (.cells [.lit (.int .i64 (Y:Int)),.lit (.int .i64 (T:Int)),.lit (.bool F)]),some (.cells [.lit (.int .i64 0),.lit (.int .i64 0),.lit (.bool false)]),some (.cells [.lit (.int .i64 (z.2.1.1:Int)),.lit (.int .i64 (z.2.1.2.1:Int)),.lit (.bool z.2.1.2.2)])]))
  (inv:=fun z=>z.1≤n∧Bx L a b z.2∧px G ((Y,T,F),p,d) n ((Y,T,F),p,d)=px G ((Y,T,F),p,d) (n-z.1) z.2) (m:=fun z=>n-z.1) (0,(Y,T,F),p,d) [some 0,some 1,some 2,some 3,some 5] ⟨by simp,hx,rfl⟩ ?_
 rintro ⟨i,⟨Y1,T1,F1⟩,p1,d1⟩ ⟨hi,hz,hv⟩;dsimp only at hi hz hv ⊢
 by_cases hin:i<n
 · obtain ⟨r,hr⟩:∃r,n-i=r+1:=⟨n-i-1,by omega⟩
   have g:=hG ((Y1,T1,F1),p1,d1) hz;rw[hr,sn] at hv;generalize G ((Y1,T1,F1),p1,d1)=gx at g hv;obtain ⟨E,⟨Y2,T2,F2⟩,p2,d2⟩:=gx;obtain ⟨g1,g2,g3⟩:=g;dsimp only at g1 g2 g3 hv
   by_cases hE:E=0
   · subst hE
     rw[if_neg (by simp)] at hv;refine ae ?_;refine zW [some 0] [] g3 ?_;refine aM (i+1,(Y2,T2,F2),p2,d2) [some 0,some 1,some 2,some 3,some 4] ⟨by omega,g2 rfl,?_⟩ zo;rw[hv,show n-(i+1)=r by omega]
   · rw[if_pos hE] at hv
     rw[hv] at hQ;refine ae ?_;refine zW [some 0] [] g3 ?_;exact ak [some 0] hQ
 · obtain rfl:i=n:=by omega
   rw[akz,Br] at hv;rw[hv] at hQ;exact zE [some 0] hQ
def jG (k a b:Nat):Prop:=ot k a b∨k=4∧1≤a∧a≤8∧b≤4
theorem eZ {k a b:Nat} (h:jG k a b):aL k a b:=by
 rcases h with h | ⟨rfl,h1,h2,h3⟩
 · exact(gp h).1
 · exact .inr (.inr (.inr ⟨rfl,h1,by omega,by omega⟩))
theorem Jr {K T:Int} {F:Bool}:aA Tryz.prog 68 [.agg [.lit (.int .i64 K),.lit (.int .i64 T),.lit (.bool F)]] [] (.agg [.lit (.int .i64 K),.lit (.bool F)]) []:=by
 refine zF pl Tryz.call68 Tryz.func68 [.cell 2 140] fun Q hQ=>?_;exact zE [] hQ
theorem AR {K:Int} {F:Bool}:aA Tryz.prog 69 [.agg [.lit (.int .i64 K),.lit (.bool F)]] [] (.agg [.lit (.int .i64 K),.lit (.int .i64 0),.lit (.bool F)]) []:=by
 refine zF pl Tryz.call69 Tryz.func69 [.cell 2 36] fun Q hQ=>?_;exact zE [] hQ
theorem Ah {K T:Int} {F:Bool}:aA Tryz.prog 65 [.agg [.lit (.int .i64 K),.lit (.int .i64 T),.lit (.bool F)]] [] (.agg [.lit (.int .i64 K),.lit (.int .i64 T),.lit (.bool F)]) []:=by
 refine zF pl Tryz.call65 Tryz.func65 [.cell 2 36] fun Q hQ=>?_;exact zE [] hQ
theorem Co {L:List Bool} {k a b n p:Nat} {d:Bool} {s:Nat×Nat×Bool} (hL:L.length≤1048576) (hs:jG k a b) (hn:n≤100) (hw:aP k a b s) (hp:p≤L.length):∃(e:Int) (s':Nat×Nat×Bool) (q:Nat) (d':Bool),aP k a b s'∧q≤L.length∧
 aA Tryz.prog 16 [pR k a b,.ref 0 0 0 0,sR s,.lit (.int .i64 (n:Int))] [some (bt L p d)] (.tup [sR s',.lit (.int .i64 e)]) [some (bt L q d')]:=by
 have wr:=tU (eZ hs) hw;obtain ⟨K,T,F⟩:=s;rcases hs with hs | ⟨rfl,h1,h2,h3⟩
 · have h4:=(gp hs).2
   unfold aP at hw;rw[if_neg h4] at hw;obtain ⟨w1,w2,w3⟩:=hw;dsimp only at w1 w2 w3;subst w1;obtain ⟨⟨e,K2,F2,q,d'⟩,y1,y2⟩:=MO (n:=n) hL hs hn (K,F,p,d) ⟨w2,w3,hp⟩;refine⟨e,(K2,0,F2),q,d',?_,y1.2.2,?_⟩
   · unfold aP
     rw[if_neg h4];exact⟨rfl,y1.1,y1.2.1⟩
   have l1:=Jr (K:=(K:Int)) (T:=0) (F:=F);have l2:=AR (K:=(K2:Int)) (F:=F2);have l3:=lz (k:=(k:Int)) (a:=(a:Int)) (b:=(b:Int));dsimp only at y2 wr ⊢;refine zF Lj Tryz.call16 Tryz.func16 [.cell 8 36,.tmp 9] fun Q hQ=>?_;refine ae ?_;refine zW [] [4] wr ?_;refine zC l3 ?_;refine zC l1 ?_;refine zW [some 0] [] y2 ?_;refine zC l2 ?_;exact ak [some 0] hQ
 · unfold aP at hw
   rw[if_pos rfl] at hw;obtain ⟨w1,w2,w3⟩:=hw;dsimp only at w1 w2 w3;obtain ⟨⟨e,⟨K2,T2,F2⟩,q,d'⟩,y1,y2⟩:=MC (n:=n) hL h1 zo zo hn ((K,T,F),p,d) ⟨w1,w2,w3,hp⟩;refine⟨e,(K2,T2,F2),q,d',?_,y1.2.2.2,?_⟩
   · unfold aP
     rw[if_pos rfl];exact⟨y1.1,y1.2.1,y1.2.2.1⟩
   have l1:=kL (K:=(K:Int)) (T:=(T:Int)) (F:=F);have l2:=Ah (K:=(K2:Int)) (T:=(T2:Int)) (F:=F2);have l3:=m5 (k:=4) (a:=(a:Int)) (b:=(b:Int));dsimp only at y2 wr ⊢;refine zF Lj Tryz.call16 Tryz.func16 [.cell 8 36,.tmp 9] fun Q hQ=>?_;refine ae ?_;refine zW [] [4] wr ?_;refine zC l3 ?_;refine zC l1 ?_;refine zW [some 0] [] y2 ?_;refine zC l2 ?_;exact ak [some 0] hQ
theorem pK {A B R:List Bool} {n:Nat} (h:B.length=n):((A++(B++R)).drop A.length).take n=B:=by
 rw[List.drop_left' rfl,akv h]
theorem ix {A R:List Bool} {k a b:Nat} {s:SR} (h:aL k a b) (w:aP k a b s):vR (A++(cD k a b s++R)) k a b A.length=(some s,A.length+wd k a b,0):=by
 obtain ⟨l1,l2⟩:=B9 h w;have e0:A++(cD k a b s++R)=A++(numBits s.1 (w1 k a b)++(numBits s.2.1 (w2 k a b)++([s.2.2]++R))):=by unfold cD;simp
 have t1:=pK (A:=A) (B:=numBits s.1 (w1 k a b)) (R:=numBits s.2.1 (w2 k a b)++([s.2.2]++R)) (aj _ _);have e1:A++(numBits s.1 (w1 k a b)++(numBits s.2.1 (w2 k a b)++([s.2.2]++R)))=(A++numBits s.1 (w1 k a b))++(numBits s.2.1 (w2 k a b)++([s.2.2]++R)):=by simp
 have t2:=pK (A:=A++numBits s.1 (w1 k a b)) (B:=numBits s.2.1 (w2 k a b)) (R:=[s.2.2]++R) (aj _ _);have e2:A++(numBits s.1 (w1 k a b)++(numBits s.2.1 (w2 k a b)++([s.2.2]++R)))=(A++numBits s.1 (w1 k a b)++numBits s.2.1 (w2 k a b))++(s.2.2::R):=by simp
 have t3:((A++numBits s.1 (w1 k a b)++numBits s.2.1 (w2 k a b))++(s.2.2::R)).getD (A.length+w1 k a b+w2 k a b) false=s.2.2:=by
  have hl:A.length+w1 k a b+w2 k a b=(A++numBits s.1 (w1 k a b)++numBits s.2.1 (w2 k a b)).length:=by simp only[ajj,aj]
  rw[hl,ajk,ajx (ajp _),akz]
  rfl
 rw[←e1,ajj,aj] at t2;rw[←e2] at t3
 have hst:EK (A++(cD k a b s++R)) k a b A.length=s:=by
  unfold EK;rw[e0,t1,t2,t3,aX,aX,ajL l1,ajL l2]
 have hlen:A.length+wd k a b≤(A++(cD k a b s++R)).length:=by
  rw[ajj,ajj,dL];unfold wd;omega
 unfold vR;rw[if_pos hlen,hst,if_pos w]
theorem nO {k a b:Nat} {s:SR}:numBits (fj k a b s) (wd k a b)=cD k a b s:=by
 have h:=mu (cD k a b s);rw[dL] at h;exact h
set_option maxHeartbeats 2000000 in
theorem Ld {k a b n i:Nat} {l:List SR} (h:aL k a b) (hn:n≤256) (hi:i<n) (hl:l.length=n) (hw:∀s∈l,aP k a b s):
 aA Tryz.prog 70 [kA k a b n (wd k a b) (bg k a b l),.lit (.int .i64 (i:Int))] [] (.tup [sR (l.getD i (0,0,false)),.lit (.int .i64 0)]) []:=by
 have hwd:=dN h;have hlw:=aq (aZ n (wd k a b)) (bg k a b l);have g:=v9 (n:=n) (w:=wd k a b) (i:=i) (N:=l.map (fj k a b)) hn ⟨hwd.1,by omega⟩ hi (by intro x hx;obtain ⟨s,_,rfl⟩:=akh.1 hx;exact kG k a b s)
 have e1:(l.map (fj k a b)).getD i 0=fj k a b (l.getD i (0,0,false)):=by
  rw[ajk,ajk,aj1,ajm zo]
  rfl
 rw[e1] at g
 have hs:aP k a b (l.getD i (0,0,false)):=by
  rw[ajk,ajm zo];exact hw _ (akA _)
 generalize l.getD i (0,0,false)=s at*
 have hx:fj k a b s<2^16:=aj2 (kG k a b s) (ajv zd hwd.2);have wdt:=yE (n:=n) (w:=wd k a b) (L:=words (aZ n (wd k a b)) (bg k a b l));have bf:=uv (L:=cD k a b s) (by rw[dL];unfold wd at hwd;omega);have hpl:=kQ (cD k a b s);have hrl:=dL k a b s
 have hI:ke (pk (cD k a b s)):=by
  intro x hx;unfold pk kp at hx;obtain ⟨j,_,rfl⟩:=akh.1 hx
  have:=ir (cD k a b s) j
  omega
 have rd:=jM (B:=pk (cD k a b s)) (by unfold wd at hwd;omega);have rr:=qx (p:=0) h hI (by unfold wd at hwd;omega) zo;have bk:=ix (A:=[]) (R:=List.replicate (8*(((cD k a b s).length+7)/8)-(cD k a b s).length) false) h hs;rw[List.nil_append,←oH,List.length_nil] at bk;rw[bk] at rr;dsimp only at rr;have wn:=cz (L:=[]) (n:=fj k a b s) (m:=(wd k a b:Int)) zo zd zo zo (by rw[Int.toNat_natCast];exact kG k a b s);rw[Int.toNat_natCast,nO,List.nil_append] at wn;change aA _ _ [jC n (wd k a b) (words (aZ n (wd k a b)) (bg k a b l)),_] _ _ _ at g;generalize bg k a b l=X at*
 generalize wd k a b=w at*
 refine zF V7 Tryz.call70 Tryz.func70 [.cell 4 36,.tmp 5] fun Q hQ=>?_;refine ae ?_;refine zC g ?_;refine aW (wdt) ?_;refine ae ?_;refine zW [some 1,none] [] wn ?_;refine bI (bf) ?_;refine ae ?_;refine zW [] [4] rd ?_;refine zW [some 5] [] rr ?_;exact ak [] hQ
theorem cU {k a b n w X:Nat} (hn:n≤256) (hw:1≤w∧w≤32):aA Tryz.prog 52 [kA k a b n w X] [] (.ref 0 0 0 0) [some (cP 1 k a b),some (cC 2 n w),some (ch n w X)]:=by
 have c:=DL (X:=X) hn hw;have hlw:=aq (aZ n w) X;refine zF ZO Tryz.call52 Tryz.func52 [.tmp 2] fun Q hQ=>?_;refine ae ?_;refine zW [] [] c ?_;exact ak [some 2,some 0,some 1] hQ
theorem nF {k a b n w X k2 a2 b2 n2 X2 w2:Nat} {e:Bool} (hs:aA Tryz.prog 115 [jC n w (words (aZ n w) X),jC n2 w2 (words (aZ n2 w2) X2)] [] (.lit (.bool e)) []):aA Tryz.prog 56 [kA k a b n w X,kA k2 a2 b2 n2 w2 X2] [] (.lit (.bool (decide (k=k2∧a=a2∧b=b2)&&e))) []:=by
 have hlw:=aq (aZ n w) X;have hlw2:=aq (aZ n2 w2) X2
 by_cases hq:k=k2∧a=a2∧b=b2
 · obtain ⟨rfl,rfl,rfl⟩:=hq
   rw[aju ⟨rfl,rfl,rfl⟩,akD];refine zF PE Tryz.call56 Tryz.func56 [.tmp 4] fun Q hQ=>?_;refine ae ?_;refine zC hs ?_;exact ak [] hQ
 · have hd:(decide ((k:Int)=(k2:Int))&&(decide ((a:Int)=(a2:Int))&&decide ((b:Int)=(b2:Int))))=false:=by
    rw[ak0];intro h;simp only[ajs,decide_eq_true_eq] at h;exact hq ⟨by omega,by omega,by omega⟩
   rw[ajn hq,alz];refine zF PE Tryz.call56 Tryz.func56 [.tmp 4] fun Q hQ=>?_;refine br hd ?_;exact ak [] hQ
theorem Gp {α β:Type} (f:α→β) (l:List α) (i:Nat) (x:α):(l.set i x).map f=(l.map f).set i (f x):=by
 simp
theorem eh {L:List Bool} {k a b n m i p:Nat} {d:Bool} {l:List SR} (hL:L.length≤1048576) (hs:jG k a b) (hm:m≤100) (hn:n≤256) (hi:i<n) (hl:l.length=n) (hw:∀s∈l,aP k a b s) (hp:p≤L.length):
 ∃(e:Int) (l':List SR) (q:Nat) (d':Bool),l'.length=n∧(∀s∈l',aP k a b s)∧q≤L.length∧
 aA Tryz.prog 17 [.ref 0 0 0 0,.ref 3 0 0 0,.lit (.int .i64 (i:Int)),.lit (.int .i64 (m:Int))] [some (cP 1 k a b),some (cC 2 n (wd k a b)),some (ch n (wd k a b) (bg k a b l)),some (bt L p d)] (.lit (.int .i64 e))
  [some (cP 1 k a b),some (cC 2 n (wd k a b)),some (ch n (wd k a b) (bg k a b l')),some (bt L q d')]:=by
 have h:=eZ hs;have g:=Ld h hn hi hl hw;have hwd:=dN h
 have hws:aP k a b (l.getD i (0,0,false)):=by
  rw[ajk,ajm zo];exact hw _ (akA _)
 generalize l.getD i (0,0,false)=s at*
 obtain ⟨e,s',q,d',w',hq,ad⟩:=Co (d:=d) hL hs hm hws hp;have hlw:=aq (aZ n (wd k a b)) (bg k a b l)
 by_cases he:e=0
 · subst he
   have st:=nI (N:=l.map (fj k a b)) h w' hn hi (by rw[ajl,hl]) (by intro x hx;obtain ⟨s,_,rfl⟩:=akh.1 hx;exact kG k a b s);refine⟨0,l.set i s',q,d',by rw[ajR,hl],fun x hx=>?_,hq,?_⟩
   · rcases alq hx with hx | rfl
     · exact hw x hx
     · exact w'
   have e2:aV (wd k a b) ((l.map (fj k a b)).set i (numOf (cD k a b s')))=bg k a b (l.set i s'):=by
    unfold bg;rw[Gp]
    rfl
   have hlw2:=aq (aZ n (wd k a b)) (bg k a b (l.set i s'));rw[e2] at st;change aA _ _ _ [_,_,some (ch n (wd k a b) (bg k a b l))] _ _ at st;generalize bg k a b (l.set i s')=Y at*
   generalize bg k a b l=X at*
   generalize wd k a b=w at*
   refine zF QI Tryz.call17 Tryz.func17 [.tmp 8] fun Q hQ=>?_;refine ae ?_;refine aW (g) ?_;refine ae ?_;refine zW [some 3] [] ad ?_;refine zW [some 0,some 1,some 2] [] st ?_;exact ak [some 0,some 1,some 2,some 3] hQ
 · refine⟨e,l,q,d',hl,hw,hq,?_⟩
   generalize bg k a b l=X at*
   generalize wd k a b=w at*
   refine zF QI Tryz.call17 Tryz.func17 [.tmp 8] fun Q hQ=>?_;refine ae ?_;refine aW (g) ?_;refine ae ?_;refine zW [some 3] [] ad ?_;exact ak [some 0,some 1,some 2,some 3] hQ
end Go.Proofs.YtcnlmelpnflhnaaGreat
