import Derived.Test.YtcnlmelpnflhnaaGreatBf
import Derived.Test.YtcnlmelpnflhnaaGreatAf
import Derived.Test.YtcnlmelpnflhnaaGreatBa
import Derived.Test.YtcnlmelpnflhnaaGreatHf
import Derived.Test.YtcnlmelpnflhnaaGreatFw
import Derived.Test.YtcnlmelpnflhnaaGreatRh
namespace Go.Proofs.YtcnlmelpnflhnaaGreat
open Go.Eng Go.Vx
set_option linter.unusedSimpArgs false
set_option linter.unusedVariables false
set_option maxRecDepth 100000
def y7 (L:List Bool) (a b:Nat) (x:TS):Prop:=x.1.1≤a∧x.1.2.1≤b∧(x.1.2.2=true→x.1.2.1=b)∧x.2.1≤L.length
theorem y7.okD {L:List Bool} {a b:Nat} {x:TS} (ha:a≤1000) (h:y7 L a b x):okD L b x:=⟨agI h.1 ha,h.2⟩
theorem Nm {L:List Bool} {a b:Nat} (hL:L.length≤1048576) (ha:a≤999) (hb:b≤100) (x:TS) (hx:y7 L a b x):∃y:Int×TS,y.2.2.1≤L.length∧(y.1=0→y7 L a b y.2)∧
 aC Tryz.prog 123 [.agg [.lit (.int .i64 (a:Int)),.lit (.int .i64 (b:Int))],.ref 0 0 0 0,sR x.1] [some (aX L x.2.1 x.2.2)] (.tup [sR y.2.1,.lit (.int .i64 y.1)]) [some (aX L y.2.2.1 y.2.2.2)]:=by
 obtain ⟨⟨Y,T,F⟩,p,d⟩:=x;obtain ⟨h1,h2,h3,h4⟩:=hx;dsimp only at h1 h2 h3 h4;obtain ⟨hb1,e,q,d',hq,h⟩:=t5 (k:=(T:Int)) (K:=T) (d:=d) hL h4 zo zo
 cases hb1 with
 | false=>
   refine⟨(e,(Y,T,F),q,d'),hq,fun _=>⟨h1,h2,h3,hq⟩,?_⟩;refine zF pl Tryz.call123 Tryz.func123 [.cell 6 131,.tmp 7] fun Q hQ=>?_;refine ae ?_;refine zW [some 0] [] h ?_;exact ak [some 0] hQ
 | true=>
   obtain ⟨y,y1,y2,y3⟩:=JS (a:=a) hL zo hb ((Y+1,T,F),q,d') ⟨by dsimp only;omega,h2,h3,hq⟩;refine⟨y,y1,fun he=>⟨(y2 he).2,(y2 he).1.2⟩,?_⟩;obtain ⟨E,⟨Y2,T2,F2⟩,q2,d2⟩:=y;dsimp only at y3 ⊢;have hY1:((Y+1:Nat):Int)=(Y:Int)+1:=by omega
   simp only[sR,hY1] at y3;refine zF pl Tryz.call123 Tryz.func123 [.cell 6 131,.tmp 7] fun Q hQ=>?_;refine ae ?_;refine zW [some 0] [] h ?_;refine zW [some 0] [] y3 ?_;exact ak [some 0] hQ
theorem Dx {a b:Nat} {s:Nat×Nat×Bool} (h1:1≤a) (h2:a≤1023) (h3:b≤20) (w1:s.1≤a) (w2:s.2.1≤b) (w3:s.2.2=true→s.2.1=b):aC Tryz.prog 122 [.agg [.lit (.int .i64 (a:Int)),.lit (.int .i64 (b:Int))],.row 3 [[.lit (.int .i64 (s.1:Int)),.lit (.int .i64 (s.2.1:Int)),.lit (.bool s.2.2)]]] [] (.lit (.int .i64 0)) []:=by
 have rc:=kQ h1 h2 h3;have rw':=vq h1 h2 h3 w1 w2 w3;refine zF pl Tryz.call122 Tryz.func122 [.tmp 4] fun Q hQ=>?_;refine ae ?_;refine zC rc ?_
 refine aU (X:=Nat) (st:=fun i=>([(2,.ref 0 0 0 0),(13,.row 3 [[.lit (.int .i64 (s.1:Int)),.lit (.int .i64 (s.2.1:Int)),.lit (.bool s.2.2)]]),(14,.lit (.int .i64 1)),(15,.lit (.int .i64 (i:Int)))],
  [some (.cells [.lit (.int .i64 (a:Int)),.lit (.int .i64 (b:Int))])]))
  (inv:=fun i=>i≤1) (m:=fun i=>1-i) 0 [some 0] (agM _) ?_
 intro i hi
 by_cases hil:i<1
 · obtain rfl:i=0:=by omega
   refine ae ?_;refine zC rw' ?_;refine aO 1 [some 0] (agt _) zd
 · obtain rfl:i=1:=by omega
   exact zE [] hQ
def n8 (G:TS→Int×TS) (s:TS):Nat→TS→Int×TS
 | 0,x=>(0,x)
 | n+1,x=>if (G x).1≠0 then((G x).1,s.1,(G x).2.2) else n8 G s n (G x).2
theorem yX {G:TS→Int×TS} {s x:TS}:n8 G s 0 x=(0,x):=rfl
theorem qG {G:TS→Int×TS} {s x:TS} {n:Nat}:n8 G s (n+1) x=if (G x).1≠0 then((G x).1,s.1,(G x).2.2) else n8 G s n (G x).2:=rfl
theorem wj {L:List Bool} {a b:Nat} {G:TS→Int×TS} {s:TS} (hG:∀x,y7 L a b x→(G x).2.2.1≤L.length∧((G x).1=0→y7 L a b (G x).2)) (hs:y7 L a b s):∀n x,y7 L a b x→y7 L a b (n8 G s n x).2
 | 0,x,h=>h
 | n+1,x,h=>by
   rw[qG]
   split
   · exact⟨hs.1,hs.2.1,hs.2.2.1,(hG x h).1⟩
   · rename_i h1
     exact wj hG hs n _ ((hG x h).2 (Classical.not_not.1 h1))
theorem J4 {L:List Bool} {a b n:Nat} (hL:L.length≤1048576) (ha1:1≤a) (ha:a≤999) (hb:b≤20) (hn:n≤100) (x:TS) (hx:y7 L a b x):∃y:Int×TS,y7 L a b y.2∧
 aC Tryz.prog 63 [.agg [.lit (.int .i64 (a:Int)),.lit (.int .i64 (b:Int))],.ref 0 0 0 0,sR x.1,.lit (.int .i64 (n:Int))] [some (aX L x.2.1 x.2.2)] (.tup [sR y.2.1,.lit (.int .i64 y.1)]) [some (aX L y.2.2.1 y.2.2.2)]:=by
 obtain ⟨G,hG⟩:=Classical.skolem.1 fun x=>show∃y:Int×TS,y7 L a b x→y.2.2.1≤L.length∧(y.1=0→y7 L a b y.2)∧
  aC Tryz.prog 123 [.agg [.lit (.int .i64 (a:Int)),.lit (.int .i64 (b:Int))],.ref 0 0 0 0,sR x.1] [some (aX L x.2.1 x.2.2)] (.tup [sR y.2.1,.lit (.int .i64 y.1)]) [some (aX L y.2.2.1 y.2.2.2)] from by
  by_cases h:y7 L a b x
  · obtain ⟨y,hy⟩:=Nm hL ha zo x h
    exact⟨y,fun _=>hy⟩
  · exact⟨(0,x),fun h'=>absurd h' h⟩
 refine⟨n8 G x n x,wj (fun x h=>⟨(hG x h).1,(hG x h).2.1⟩) hx n x hx,?_⟩;obtain ⟨⟨Y,T,F⟩,p,d⟩:=x;have wr:=Dx (s:=(Y,T,F)) ha1 zo hb hx.1 hx.2.1 hx.2.2.1;have hmx:max 0 (n:Int)=(n:Int):=by omega
 dsimp only at wr ⊢;refine zF pl Tryz.call63 Tryz.func63 [.cell 8 131,.tmp 9] fun Q hQ=>?_;refine ae ?_;refine aV [] [4] (wr) ?_;refine bh hmx ?_
 refine aU (X:=Nat×TS) (st:=fun z=>([(1,.ref 0 0 0 0),(4,.ref 1 0 0 0),(6,.ref 2 0 0 0),(8,.ref 3 0 0 0),(11,.ref 4 0 0 0),(27,.lit (.int .i64 (n:Int))),(28,.lit (.int .i64 (z.1:Int)))],
  [some (aX L z.2.2.1 z.2.2.2),some (.cells [.lit (.int .i64 (a:Int)),.lit (.int .i64 (b:Int))]),some (.cells [.lit (.int .i64 (Y:Int)),.lit (.int .i64 (T:Int)),.lit (.bool F)]),some (.cells [.lit (.int .i64 0),.lit (.int .i64 0),.lit (.bool false)]),some (.cells [.lit (.int .i64 (z.2.1.1:Int)),.lit (.int .i64 (z.2.1.2.1:Int)),.lit (.bool z.2.1.2.2)])]))
  (inv:=fun z=>z.1≤n∧y7 L a b z.2∧n8 G ((Y,T,F),p,d) n ((Y,T,F),p,d)=n8 G ((Y,T,F),p,d) (n-z.1) z.2) (m:=fun z=>n-z.1) (0,(Y,T,F),p,d) [some 0,some 1,some 2,some 3,some 5] ⟨by simp,hx,rfl⟩ ?_
 rintro ⟨i,⟨Y1,T1,F1⟩,p1,d1⟩ ⟨hi,hz,hv⟩;dsimp only at hi hz hv ⊢
 by_cases hin:i<n
 · obtain ⟨r,hr⟩:∃r,n-i=r+1:=⟨n-i-1,by omega⟩
   have g:=hG ((Y1,T1,F1),p1,d1) hz;rw[hr,qG] at hv;generalize G ((Y1,T1,F1),p1,d1)=gx at g hv;obtain ⟨E,⟨Y2,T2,F2⟩,p2,d2⟩:=gx;obtain ⟨g1,g2,g3⟩:=g;dsimp only at g1 g2 g3 hv
   by_cases hE:E=0
   · subst hE
     rw[if_neg (by simp)] at hv;refine ae ?_;refine zW [some 0] [] g3 ?_;refine aO (i+1,(Y2,T2,F2),p2,d2) [some 0,some 1,some 2,some 3,some 4] ⟨by omega,g2 rfl,?_⟩ zo;rw[hv,show n-(i+1)=r by omega]
   · rw[if_pos hE] at hv
     rw[hv] at hQ;refine ae ?_;refine zW [some 0] [] g3 ?_;exact ak [some 0] hQ
 · obtain rfl:i=n:=by omega
   rw[ahJ,yX] at hv;rw[hv] at hQ;exact zE [some 0] hQ
def ja (k a b:Nat):Prop:=na k a b∨k=4∧1≤a∧a≤8∧b≤4
theorem eF {k a b:Nat} (h:ja k a b):aT k a b:=by
 rcases h with h | ⟨rfl,h1,h2,h3⟩
 · exact(fK h).1
 · exact .inr (.inr (.inr ⟨rfl,h1,by omega,by omega⟩))
theorem Hj {K T:Int} {F:Bool}:aC Tryz.prog 68 [.agg [.lit (.int .i64 K),.lit (.int .i64 T),.lit (.bool F)]] [] (.agg [.lit (.int .i64 K),.lit (.bool F)]) []:=by
 refine zF pl Tryz.call68 Tryz.func68 [.cell 2 140] fun Q hQ=>?_;exact zE [] hQ
theorem yB {K:Int} {F:Bool}:aC Tryz.prog 69 [.agg [.lit (.int .i64 K),.lit (.bool F)]] [] (.agg [.lit (.int .i64 K),.lit (.int .i64 0),.lit (.bool F)]) []:=by
 refine zF pl Tryz.call69 Tryz.func69 [.cell 2 36] fun Q hQ=>?_;exact zE [] hQ
theorem xX {K T:Int} {F:Bool}:aC Tryz.prog 65 [.agg [.lit (.int .i64 K),.lit (.int .i64 T),.lit (.bool F)]] [] (.agg [.lit (.int .i64 K),.lit (.int .i64 T),.lit (.bool F)]) []:=by
 refine zF pl Tryz.call65 Tryz.func65 [.cell 2 36] fun Q hQ=>?_;exact zE [] hQ
theorem IV {L:List Bool} {k a b n p:Nat} {d:Bool} {s:Nat×Nat×Bool} (hL:L.length≤1048576) (hs:ja k a b) (hn:n≤100) (hw:aP k a b s) (hp:p≤L.length):∃(e:Int) (s':Nat×Nat×Bool) (q:Nat) (d':Bool),aP k a b s'∧q≤L.length∧
 aC Tryz.prog 16 [pR k a b,.ref 0 0 0 0,sR s,.lit (.int .i64 (n:Int))] [some (aX L p d)] (.tup [sR s',.lit (.int .i64 e)]) [some (aX L q d')]:=by
 have wr:=r9 (eF hs) hw;obtain ⟨K,T,F⟩:=s;rcases hs with hs | ⟨rfl,h1,h2,h3⟩
 · have h4:=(fK hs).2
   unfold aP at hw;rw[if_neg h4] at hw;obtain ⟨w1,w2,w3⟩:=hw;dsimp only at w1 w2 w3;subst w1;obtain ⟨⟨e,K2,F2,q,d'⟩,y1,y2⟩:=Kh (n:=n) hL hs hn (K,F,p,d) ⟨w2,w3,hp⟩;refine⟨e,(K2,0,F2),q,d',?_,y1.2.2,?_⟩
   · unfold aP
     rw[if_neg h4];exact⟨rfl,y1.1,y1.2.1⟩
   have l1:=Hj (K:=(K:Int)) (T:=0) (F:=F);have l2:=yB (K:=(K2:Int)) (F:=F2);have l3:=kq (k:=(k:Int)) (a:=(a:Int)) (b:=(b:Int));dsimp only at y2 wr ⊢;refine zF IL Tryz.call16 Tryz.func16 [.cell 8 36,.tmp 9] fun Q hQ=>?_;refine ae ?_;refine zW [] [4] wr ?_;refine zC l3 ?_;refine zC l1 ?_;refine zW [some 0] [] y2 ?_;refine zC l2 ?_;exact ak [some 0] hQ
 · unfold aP at hw
   rw[if_pos rfl] at hw;obtain ⟨w1,w2,w3⟩:=hw;dsimp only at w1 w2 w3;obtain ⟨⟨e,⟨K2,T2,F2⟩,q,d'⟩,y1,y2⟩:=J4 (n:=n) hL h1 zo zo hn ((K,T,F),p,d) ⟨w1,w2,w3,hp⟩;refine⟨e,(K2,T2,F2),q,d',?_,y1.2.2.2,?_⟩
   · unfold aP
     rw[if_pos rfl];exact⟨y1.1,y1.2.1,y1.2.2.1⟩
   have l1:=jX (K:=(K:Int)) (T:=(T:Int)) (F:=F);have l2:=xX (K:=(K2:Int)) (T:=(T2:Int)) (F:=F2);have l3:=lU (k:=4) (a:=(a:Int)) (b:=(b:Int));dsimp only at y2 wr ⊢;refine zF IL Tryz.call16 Tryz.func16 [.cell 8 36,.tmp 9] fun Q hQ=>?_;refine ae ?_;refine zW [] [4] wr ?_;refine zC l3 ?_;refine zC l1 ?_;refine zW [some 0] [] y2 ?_;refine zC l2 ?_;exact ak [some 0] hQ
def itS (v:Nat):V:=.agg [.lit (.int .i64 3),.lit (.int .i64 0),.lit (.int .i64 0),.lit (.int .i64 0),.lit (.int .i64 0),.lit (.int .i64 0),.lit (.bool false),.lit (.pointer none),.ref v 0 0 0,.lit (.pointer none),.lit (.pointer none)]
def itM (v:Nat):V:=.agg [.lit (.int .i64 5),.lit (.int .i64 0),.lit (.int .i64 0),.lit (.int .i64 0),.lit (.int .i64 0),.lit (.int .i64 0),.lit (.bool false),.lit (.pointer none),.lit (.pointer none),.lit (.pointer none),.ref v 0 0 0]
attribute [go_sem] itS itM
theorem xi {M D S:Nat} {st:SS}:aC Tryz.prog 93 [G1 M D S st] [] (pA M D S) []:=by
 refine zF pl Tryz.call93 Tryz.func93 [.cell 2 81] fun Q hQ=>?_;exact zE [] hQ
theorem E3 {M D S:Nat} {st:SS}:aC Tryz.prog 30 [G1 M D S st] [] (.lit (.int .i64 (st.1.length:Int))) []:=by
 refine zF pl Tryz.call30 Tryz.func30 [.tmp 2] fun Q hQ=>?_;exact zE [] hQ
theorem yL {K P C:Int} {X:List (Nat×Nat)} {N:Nat}:aC Tryz.prog 95 [Ib K P C X N] [] (.agg [.lit (.int .i64 K),.lit (.int .i64 P),.lit (.int .i64 C)]) []:=by
 refine zF pl Tryz.call95 Tryz.func95 [.cell 2 93] fun Q hQ=>?_;exact zE [] hQ
theorem xe {α:Type} [Inhabited α] {A B:List α} {i:Nat} (ha:i<A.length) (hb:i<B.length):A.take (i+1)=B.take (i+1)↔A.take i=B.take i∧A.getD i default=B.getD i default:=by
 rw[agW ha,agW hb];have e1:A.getD i default=A[i]:=by rw[ago,agp ha];rfl
 have e2:B.getD i default=B[i]:=by rw[ago,agp hb];rfl
 rw[e1,e2];constructor
 · intro h
   have:=List.append_inj h (by rw[agz,agz];omega)
   exact⟨this.1,by simpa using this.2⟩
 · rintro ⟨h1,h2⟩
   rw[h1,h2]
theorem Dq {A B:List Cell} (hA:A.length≤1000000) (hB:B.length≤1000000):aC Tryz.prog 116 [.row 2 (A.map cV),.row 2 (B.map cV)] [] (.lit (.bool (decide (A=B)))) []:=by
 refine zF K9 Tryz.call116 Tryz.func116 [.tmp 4] fun Q hQ=>?_
 by_cases hl:A.length=B.length
 · refine ae ?_
   refine aU (X:=Nat) (st:=fun i=>([(0,.row 2 (A.map cV)),(1,.row 2 (B.map cV)),(12,.lit (.int .i64 (A.length:Int))),(13,.lit (.int .i64 (i:Int)))],[]))
    (inv:=fun i=>i≤A.length∧A.take i=B.take i) (m:=fun i=>A.length-i) 0 [] ⟨by omega,by simp⟩ ?_
   rintro i ⟨hi,ht⟩
   by_cases h:i<A.length
   · have hs:=xe h (show i<B.length by omega)
     have hne:A.getD i default≠B.getD i default→¬A=B:=fun h e=>h (by rw[e]);obtain ⟨⟨a1,a2⟩,ea⟩:∃a,A.getD i default=a:=⟨_,rfl⟩;obtain ⟨⟨b1,b2⟩,eb⟩:∃b,B.getD i default=b:=⟨_,rfl⟩;rw[ea,eb] at hs hne
     by_cases e1:a1=b1
     · by_cases e2:a2=b2
       · have hs':=hs.2 ⟨ht,by rw[e1,e2]⟩
         subst e1 e2;refine dK ea eb ?_;refine aO (i+1) [] ⟨by omega,hs'⟩ zo
       · rw[agq (hne (fun e=>e2 (by injection e)))] at hQ
         have e2':¬(a2:Int)=(b2:Int):=by omega
         subst e1;refine rD ea eb (agq e2') ?_;exact ak [] hQ
     · rw[agq (hne (fun e=>e1 (by injection e)))] at hQ
       have e1':¬(a1:Int)=(b1:Int):=by omega
       refine NW ea eb (agq e1') ?_;exact ak [] hQ
   · obtain rfl:i=A.length:=by omega
     rw[agF,hl,agF] at ht;rw[agC ht] at hQ;exact zE [] hQ
 · rw[agq (fun e=>hl (by rw[e]))] at hQ
   exact zE [] hQ
theorem xk {X:List Cell} (hX:X.length≤256) (h:X≠ []):aC Tryz.prog 112 [.row 2 (X.map cV)] [] (.sl 0 2 0 X.length) [some (.row 2 (X.map cV))]:=by
 refine zF pl Tryz.call112 Tryz.func112 [.tmp 2] fun Q hQ=>?_;have he:(X.map cV).isEmpty=false:=by simp[h]
 refine bh he ?_;exact ak [some 1] hQ
theorem Cv {M D S:Nat} {st:SS} (hX:st.1.length≤256) (h:st.1≠ []):aC Tryz.prog 53 [G1 M D S st] [] (.ref 0 0 0 0) [some (LB M D S 1 st.1.length st.2.1 st.2.2),some (.row 2 (st.1.map cV))]:=by
 have hc:=xk hX h;refine zF pl Tryz.call53 Tryz.func53 [.tmp 2] fun Q hQ=>?_;refine ae ?_;refine dB (hc) ?_;exact zE [some 0,some 1] hQ
def C6 (M D S:Nat) (L:List Bool) (d:Bool) (st:SS) (i n p:Nat):SS×Int×Nat×Bool:=Cu st L d ((rz (cD M D S) st i n).run L p)
theorem EH {P:SP} {L:List Bool} {st:SS} {i n p:Nat}:(rz P st i n).run L p=match (eI n (st.2.1*(st.1.getD i (0,0)).2)).run L p with | some (b,q)=>(fO P i (px P st.2.1 (st.1.getD i (0,0)).2) st ((st.1.getD i (0,0)).1+b,(st.1.getD i (0,0)).2)).run L q | none=>none:=by
 unfold rz;rw[run_bind]
 cases (eI n (st.2.1*(st.1.getD i (0,0)).2)).run L p with
 | none=>rfl
 | some x=>rfl
set_option maxHeartbeats 4000000 in
theorem H8 {M D S p i n:Nat} {st:SS} {d:Bool} {L:List Bool} (hw:WB M D S) (hL:L.length≤1048576) (hp:p≤L.length) (hd:d=true→p=L.length) (hX:st.1.length≤256) (hi:i<st.1.length)
 (hs:SOk (cD M D S) st) (hn:n≤1048576):
 aC Tryz.prog 18 [.ref 0 0 0 0,.ref 1 0 0 0,.lit (.int .i64 (i:Int)),.lit (.int .i64 (n:Int))] [some (DG M D S st),some (aX L p d)]
 (.lit (.int .i64 (C6 M D S L d st i n p).2.1)) [some (DG M D S (C6 M D S L d st i n p).1),some (aX L (C6 M D S L d st i n p).2.2.1 (C6 M D S L d st i n p).2.2.2)]:=by
 have hpw:=hw.pw;have hd3:=hpw.d3;have hm255:=hpw.m255;have hs4:=hpw.s4;have hne:st.1≠ []:=by intro e;rw[e] at hi;exact absurd hi (by simp)
 have hgi:st.1[i]? =some (st.1.getD i (0,0)):=by rw[ago,agp hi];rfl
 have hok:=Aj hs.c i;have g:=Iz (M:=M) (D:=D) (S:=S) hgi hX;have hcl:=Cv (M:=M) (D:=D) (S:=S) hX hne;have hfit:=fun(p':Nat) (c:Cell) (h1:p'≤L.length) (h2:d=true→p'=L.length) (h3:c.1≤16777216) (h4:c.2≤(cD M D S).d)=>I7 (F:=px (cD M D S) st.2.1 c.2) hw hL h1 h2 hX hi hs h3 h4 (Az _ _ _);unfold C6 at hcl ⊢;rw[EH];have hss2:=hs.s2;generalize hP:cD M D S=P at*
 obtain ⟨cs,s,fu⟩:=st;dsimp only at hX hi hgi hok g hcl hfit hss2 ⊢;generalize hc0:cs.getD i (0,0)=c0 at*
 obtain ⟨hk1,hk2,-⟩:=hok;have hsm:=E0 (s:=s) (m:=c0.2) zo zo;have o:=dV (x:=n) zo;have e:(s:Int)*(c0.2:Int)=((s*c0.2:Nat):Int):=by simp
 have r:=nR (L:=L) (n:=n) (k:=s*c0.2) (p:=p) (d:=d) hL hp hd zo zo
 cases h1:(eI n (s*c0.2)).run L p with
 | none=>
   rw[iJ h1] at r;dsimp only[Cu];generalize s*c0.2=k at*
   refine zF Nd Tryz.call18 Tryz.func18 [.tmp 8] fun Q hQ=>?_;refine ae ?_;refine eD (g) ?_;refine bh e ?_;refine aV [] [3] (o) ?_;refine bh e ?_;refine zW [some 1] [] r ?_;exact ak [some 0,some 1] hQ
 | some rr=>
   obtain ⟨b,q⟩:=rr;have hnx:=gn hp hd h1;have hnl:=td h1;have hf:=hfit q (c0.1+b,c0.2) hnx.1 hnx.2 (by dsimp only;omega) hk2;dsimp only at hf ⊢;rw[iB h1] at r;generalize s*c0.2=k at*
   refine zF Nd Tryz.call18 Tryz.func18 [.tmp 8] fun Q hQ=>?_;refine ae ?_;refine eD (g) ?_;refine bh e ?_;refine aV [] [3] (o) ?_;refine bh e ?_;refine zW [some 1] [] r ?_;refine dB (hcl) ?_;refine ae ?_;refine Ls [some 4,some 1,some 5] [] (hf) ?_;rintro ⟨⟨Y,s',fu'⟩,e',q',d'⟩ hx;unfold IY at hx
   cases h4:(fO P i (px P s c0.2) (cs,s,fu) (c0.1+b,c0.2)).run L q with
   | none=>
     rw[h4] at hx hQ;dsimp only[Cu] at hx hQ;simp only[Prod.mk.injEq] at hx;obtain ⟨rfl,rfl,rfl⟩:=hx;exact zE [some 0,some 1] hQ
   | some r=>
     obtain ⟨⟨Y1,s1,fu1⟩,q1⟩:=r;have hln:=(ig (zJ P i _ (cs,s,fu) (c0.1+b,c0.2)) h4).1;dsimp only at hln;rw[h4] at hx hQ;dsimp only[Cu] at hx hQ;simp only[Prod.mk.injEq] at hx;obtain ⟨⟨rfl,rfl,rfl⟩,rfl,rfl,rfl⟩:=hx;exact zE [some 0,some 1] hQ
end Go.Proofs.YtcnlmelpnflhnaaGreat
