import Derived.Test.YtcnlmelpnflhnaaGreatBa
import Derived.Test.YtcnlmelpnflhnaaGreatRf
import Derived.Test.YtcnlmelpnflhnaaGreatFb
import Derived.Test.YtcnlmelpnflhnaaGreatHa
namespace Go.Proofs.YtcnlmelpnflhnaaGreat
open Go.Eng Go.Vx
set_option linter.unusedSimpArgs false
set_option linter.unusedVariables false
set_option maxRecDepth 100000
theorem xE (L:List Bool):∀K p,p≤L.length→(i5 L K p).2.2.1≤L.length
 | 0,p,h=>by rw[qf];exact h
 | K+1,p,h=>by
   rw[qy]
   split
   · split
     · exact xE L K (p+1) zo
     · show p+1≤L.length;omega
   · exact ajp _
theorem GV {L:List Bool} {p K:Nat} {k:Int} (hL:L.length≤1048576) (hp:p≤L.length) (hk:max 0 k=(K:Int)) (hK:K<9223372036854775807):aA Tryz.prog 158 [.ref 0 0 0 0,.lit (.int .i64 k)] [some (bt L p true)]
 (.tup [.lit (.bool (decide (K=0))),.lit (.int .i64 (if K=0 then 0 else 8))]) [some (bt L p true)]:=by
 refine zF pl Tryz.call158 Tryz.func158 [.tmp 4,.tmp 5] fun Q hQ=>?_
 simp(maxSteps:=1000000) (disch:=(first | omega | (simp only[cQ,ajl,ajo,true_and,and_true];(try omega);done) | fail)) only[go_sem,hk,Int.reduceEq,Int.reduceToNat,Nat.reduceAdd,Nat.reduceMul,Nat.reduceEqDiff, ↓reduceIte]
 refine aR (X:=Unit) (st:=fun i=>([(0,.ref 0 0 0 0),(9,.lit (.int .i64 (K:Int))),(10,.lit (.int .i64 0))],[some (bt L p true)]))
  (inv:=fun i=>True) (m:=fun i=>0) () [some 0] trivial ?_
 rintro ⟨⟩-
 by_cases hiK:0<K
 · rw[ajn zo,if_neg zo] at hQ
   refine ae ?_;refine zW [some 0] [] (gw (L:=L) (p:=p) (d:=true) hL (.inl rfl)) ?_;exact ak [some 0] hQ
 · obtain rfl:K=0:=by omega
   rw[aju rfl,if_pos rfl] at hQ;exact zE [some 0] hQ
theorem v8 {L:List Bool} {p K:Nat} {k:Int} {d:Bool} (hL:L.length≤1048576) (hp:p≤L.length) (hk:max 0 k=(K:Int)) (hK:K<9223372036854775807):∃(b:Bool) (e:Int) (q:Nat) (d':Bool),q≤L.length∧
 aA Tryz.prog 158 [.ref 0 0 0 0,.lit (.int .i64 k)] [some (bt L p d)] (.tup [.lit (.bool b),.lit (.int .i64 e)]) [some (bt L q d')]:=by
 cases d with
 | false=>exact⟨_,_,_,_,xE L K p hp,MY hL hp hk hK⟩
 | true=>exact⟨_,_,_,_,hp,GV hL hp hk hK⟩
theorem Cz {L:List Bool} {P D:Nat} (h1:¬(D=0∨D<P)):∀K p,p≤L.length→(yj L P D K p).2.2.1≤L.length
 | 0,p,h=>h
 | K+1,p,h=>by
   rw[tK];rcases qM (L:=L) (p:=p) h1 h with e | ⟨b,q,e,_,h2⟩
   · rw[e];exact ajp _
   · rw[e]
     cases b with
     | true=>exact Cz h1 K q h2
     | false=>exact h2
theorem Fk {L:List Bool} {P D p K:Nat} {k:Int} (hL:L.length≤1048576) (hp:p≤L.length) (h1:¬(D=0∨D<P)) (hPD:P≠D) (h0:P≠0) (hP:(wg P).length≤500000) (hD1:(wg D).length≤500000) (hk:max 0 k=(K:Int)) (hK:K<9223372036854775807):aA Tryz.prog 238 [.ref 0 0 0 0,NV P,NV D,.lit (.int .i64 k)] [some (bt L p true)]
 (.tup [.lit (.bool (decide (K=0))),.lit (.int .i64 (if K=0 then 0 else 8))]) [some (bt L p true)]:=by
 have hr:=uQ (L:=L) (P:=P) (D:=D) (p:=p) hL h1 hPD hP hD1;rw[if_neg h0] at hr;refine zF pl Tryz.call238 Tryz.func238 [.tmp 8,.tmp 9] fun Q hQ=>?_;refine ae ?_;refine aB (pT (P:=P) (D:=D) zo zo) rfl rfl ?_;rw[aju h1]
 simp(maxSteps:=1000000) (disch:=(first | omega | (simp only[cQ,ajl,ajo,true_and,and_true];(try omega);done) | fail)) only[go_sem,hk,Int.reduceEq,Int.reduceToNat,Nat.reduceAdd,Nat.reduceMul,Nat.reduceEqDiff, ↓reduceIte]
 refine aR (X:=Unit) (st:=fun z=>([(0,.ref 0 0 0 0),(5,.ref 1 0 0 0),(6,.ref 2 0 0 0),(17,.lit (.int .i64 (K:Int))),(18,.lit (.int .i64 0))],[some (bt L p true),some (.cells [.row 1 ((nl (wg P)).map (ie .u64))]),some (.cells [.row 1 ((nl (wg D)).map (ie .u64))])]))
  (inv:=fun z=>True) (m:=fun z=>0) () [some 0,some 1,some 2] trivial ?_
 rintro ⟨⟩-
 by_cases hiK:0<K
 · rw[ajn zo,if_neg zo] at hQ
   refine ae ?_;refine zW [some 0] [] hr ?_;exact ak [some 0] hQ
 · obtain rfl:K=0:=by omega
   rw[aju rfl,if_pos rfl] at hQ;exact zE [some 0] hQ
theorem JJ {L:List Bool} {P p K:Nat} {k:Int} {d:Bool} (hL:L.length≤1048576) (hp:p≤L.length) (hP:P≠0) (hP2:P≤100) (hk:max 0 k=(K:Int)) (hK:K<9223372036854775807):∃(b:Bool) (e:Int) (q:Nat) (d':Bool),q≤L.length∧
 aA Tryz.prog 238 [.ref 0 0 0 0,NV P,NV (P+1),.lit (.int .i64 k)] [some (bt L p d)] (.tup [.lit (.bool b),.lit (.int .i64 e)]) [some (bt L q d')]:=by
 have w1:(wg P).length≤500000:=by have:=rp (n:=P) (k:=1) zo;omega
 have w2:(wg (P+1)).length≤500000:=by have:=rp (n:=P+1) (k:=1) zo;omega
 have h1:¬(P+1=0∨P+1<P):=by omega
 cases d with
 | false=>
   refine⟨_,_,_,_,?_,Ho (P:=P) (D:=P+1) hL hp w1 w2 hk hK⟩;unfold EA;rw[if_neg h1];exact Cz h1 K p hp
 | true=>exact⟨_,_,_,_,hp,Fk (P:=P) (D:=P+1) hL hp h1 zo hP w1 w2 hk hK⟩
theorem ED {a k:Int} (ha:1≤a) (ha2:a≤4096) (hk:0≤k) (hk2:k≤1023):aA Tryz.prog 236 [.lit (.int .i64 a),.row 1 [[.lit (.int .i64 k)]]] [] (.lit (.int .i64 0)) []:=by
 have g:=xk (a:=a);rw[aju ⟨ha,ha2⟩] at g;refine zF pl Tryz.call236 Tryz.func236 [.tmp 4] fun Q hQ=>?_;refine ae ?_;refine zC g ?_;refine aR (X:=Nat) (st:=fun i=>([(10,.row 1 [[.lit (.int .i64 k)]]),(11,.lit (.int .i64 1)),(12,.lit (.int .i64 (i:Int)))],[])) (inv:=fun i=>i=0∨i=1) (m:=fun i=>1-i) 0 [] (.inl rfl) ?_;rintro i (rfl | rfl)
 · refine ae ?_
   refine aM 1 [] (.inr rfl) zo
 · refine ae ?_
   exact ak [] hQ
theorem DZ {L:List Bool} {p a K:Nat} {d:Bool} (hL:L.length≤1048576) (hp:p≤L.length) (ha:1≤a) (ha2:a≤100) (hK:K≤1023):∃(b:Bool) (e:Int) (q:Nat) (d':Bool),q≤L.length∧
 aA Tryz.prog 237 [.ref 0 0 0 0,.lit (.int .i64 (a:Int)),.lit (.int .i64 (K:Int))] [some (bt L p d)] (.tup [.lit (.bool b),.lit (.int .i64 e)]) [some (bt L q d')]:=by
 obtain ⟨b,e,q,d',hq,h⟩:=JJ (P:=a) (k:=(K:Int)) (K:=K) (d:=d) hL hp zo ha2 zo zo;refine⟨b,e,q,d',hq,?_⟩;have o1:=eG (x:=a) zo;have o2:=eG (x:=a+1) zo;have w1:IntKind.u64.wrap (a:Int)=(a:Int):=wrap_u64 ⟨by omega,by omega⟩;have w2:IntKind.u64.wrap ((a:Int)+1)=((a+1:Nat):Int):=by rw[wrap_u64 ⟨by omega,by omega⟩];omega
 refine zF pl Tryz.call237 Tryz.func237 [.tmp 6,.tmp 7] fun Q hQ=>?_
 simp(maxSteps:=1000000) (disch:=(first | omega | (simp only[cQ,ajl,ajo,true_and,and_true];(try omega);done) | fail)) only[go_sem,w1,w2,Int.reduceEq,Int.reduceToNat,Nat.reduceAdd,Nat.reduceMul,Nat.reduceEqDiff, ↓reduceIte]
 refine aF [] [1] (o1) ?_
 simp(maxSteps:=1000000) (disch:=(first | omega | (simp only[cQ,ajl,ajo,true_and,and_true];(try omega);done) | fail)) only[go_sem,w1,w2,Int.reduceEq,Int.reduceToNat,Nat.reduceAdd,Nat.reduceMul,Nat.reduceEqDiff, ↓reduceIte]
 refine aF [] [2] (o2) ?_
 simp(maxSteps:=1000000) (disch:=(first | omega | (simp only[cQ,ajl,ajo,true_and,and_true];(try omega);done) | fail)) only[go_sem,w1,w2,Int.reduceEq,Int.reduceToNat,Nat.reduceAdd,Nat.reduceMul,Nat.reduceEqDiff, ↓reduceIte]
 refine zW [some 0] [] h ?_;exact ak [some 0] hQ
theorem Gv {L:List Bool} {p a K:Nat} {d:Bool} (hL:L.length≤1048576) (hp:p≤L.length) (ha:1≤a) (ha2:a≤100) (hK:K≤1023):∃(b:Bool) (e:Int) (q:Nat) (d':Bool),q≤L.length∧
 aA Tryz.prog 235 [.ref 0 0 0 0,.lit (.int .i64 (a:Int)),.lit (.int .i64 (K:Int))] [some (bt L p d)] (.tup [.lit (.bool b),.lit (.int .i64 e)]) [some (bt L q d')]:=by
 obtain ⟨b,e,q,d',hq,h⟩:=DZ (d:=d) hL hp ha ha2 hK;refine⟨b,e,q,d',hq,?_⟩;have g:=ED (a:=(a:Int)) (k:=(K:Int)) zo zo zo zo;refine zF pl Tryz.call235 Tryz.func235 [.tmp 6,.tmp 7] fun Q hQ=>?_;refine ae ?_;refine zW [] [1] g ?_;refine zW [some 0] [] h ?_;exact ak [some 0] hQ
theorem FG {a:Nat} (ha:a≤8):aA Tryz.prog 245 [.lit (.int .i64 (a:Int))] [] (.lit (.bool true)) []:=by
 refine zF pl Tryz.call245 Tryz.func245 [.tmp 2] fun Q hQ=>?_;exact zE [] hQ
theorem FH {a:Nat} {k:Int} (ha:a≤8) (hk:0≤k) (hk2:k≤1023):aA Tryz.prog 247 [.lit (.int .i64 (a:Int)),.row 1 [[.lit (.int .i64 k)]]] [] (.lit (.int .i64 0)) []:=by
 have g:=FG ha;refine zF pl Tryz.call247 Tryz.func247 [.tmp 4] fun Q hQ=>?_;refine ae ?_;refine zC g ?_;refine aR (X:=Nat) (st:=fun i=>([(10,.row 1 [[.lit (.int .i64 k)]]),(11,.lit (.int .i64 1)),(12,.lit (.int .i64 (i:Int)))],[])) (inv:=fun i=>i=0∨i=1) (m:=fun i=>1-i) 0 [] (.inl rfl) ?_;rintro i (rfl | rfl)
 · refine ae ?_
   refine aM 1 [] (.inr rfl) zo
 · refine ae ?_
   exact ak [] hQ
theorem DE {a K:Nat} (ha:a≤8) (hK:K≤1023):∃v:Int,aA Tryz.prog 248 [.lit (.int .i64 (a:Int)),.lit (.int .i64 (K:Int))] [] (.tup [.lit (.int .i64 ((K/2^a:Nat):Int)),.lit (.int .i64 v)]) []:=by
 refine⟨cv BinOp.and IntKind.i64 (K:Int) (IntKind.i64.wrap (IntKind.i64.wrap (1*2^a)-1)),?_⟩;rw[show((K/2^a:Nat):Int)=(K:Int)/2^a by simp];refine zF OG Tryz.call248 Tryz.func248 [.tmp 4,.tmp 5] fun Q hQ=>?_;exact zE [] hQ
theorem HV {L:List Bool} {p a K:Nat} {d:Bool} (hL:L.length≤1048576) (hp:p≤L.length) (ha:a≤8) (hK:K≤1023):∃(b:Bool) (e:Int) (q:Nat) (d':Bool),q≤L.length∧
 aA Tryz.prog 246 [.ref 0 0 0 0,.lit (.int .i64 (a:Int)),.lit (.int .i64 (K:Int))] [some (bt L p d)] (.tup [.lit (.bool b),.lit (.int .i64 e)]) [some (bt L q d')]:=by
 have hle:K/2^a≤K:=aks _ _;obtain ⟨v,hv⟩:=DE ha hK;generalize K/2^a=u at*
 obtain ⟨b,e,q,d',hq,h⟩:=v8 (k:=(u:Int)) (K:=u) (d:=d) hL hp zo zo;refine⟨b,e,q,d',hq,?_⟩;have g:=FH (k:=(K:Int)) ha zo zo;refine zF pl Tryz.call246 Tryz.func246 [.tmp 6,.tmp 7] fun Q hQ=>?_;refine ae ?_;refine zW [] [1] g ?_;refine zC hv ?_;refine zW [some 0] [] h ?_;exact ak [some 0] hQ
theorem Ma {s:Nat} (hs:s=1∨s=2):∀K,K≤15→(ma s K).2.1≤1000:=by rcases hs with rfl | rfl<;>decide
theorem Gw {L:List Bool} {p s K:Nat} {d:Bool} (hL:L.length≤1048576) (hp:p≤L.length) (hs:s=1∨s=2) (hK:K≤15):∃(b:Bool) (e:Int) (q:Nat) (d':Bool),q≤L.length∧
 aA Tryz.prog 256 [.ref 0 0 0 0,.lit (.int .i64 (s:Int)),.lit (.int .i64 (K:Int))] [some (bt L p d)] (.tup [.lit (.bool b),.lit (.int .i64 e)]) [some (bt L q d')]:=by
 have hsh:=Ma hs K hK;have y:=Re hs hK;generalize ma s K=z at*
 obtain ⟨x1,x2,x3,x4⟩:=z;dsimp only at hsh;obtain ⟨b,e,q,d',hq,h⟩:=v8 (k:=(x2:Int)) (K:=x2) (d:=d) hL hp zo zo;refine⟨b,e,q,d',hq,?_⟩;refine zF pl Tryz.call256 Tryz.func256 [.tmp 6,.tmp 7] fun Q hQ=>?_;refine ae ?_;refine zC y ?_;refine zW [some 0] [] h ?_;exact ak [some 0] hQ
def kV (k a:Nat):V:=if k=1 then .lit (.iface 257 (.int .i64 (a:Int))) else if k=2 then .lit (.iface 258 (.int .i64 (a:Int))) else .lit (.iface 259 (.int .i64 (a:Int)))
theorem E8 {L:List Bool} {p a K:Nat} {d:Bool} (hL:L.length≤1048576) (hp:p≤L.length) (ha:1≤a) (ha2:a≤100) (hK:K≤1023):∃(b:Bool) (e:Int) (q:Nat) (d':Bool),q≤L.length∧
 aA Tryz.prog 232 [.lit (.int .i64 (a:Int)),.ref 0 0 0 0,.lit (.int .i64 (K:Int))] [some (bt L p d)] (.tup [.lit (.bool b),.lit (.int .i64 e)]) [some (bt L q d')]:=by
 obtain ⟨b,e,q,d',hq,h⟩:=Gv (d:=d) hL hp ha ha2 hK;refine⟨b,e,q,d',hq,?_⟩;refine zF pl Tryz.call232 Tryz.func232 [.tmp 6,.tmp 7] fun Q hQ=>?_;refine ae ?_;refine zW [some 0] [] h ?_;exact ak [some 0] hQ
theorem ES {L:List Bool} {p a K:Nat} {d:Bool} (hL:L.length≤1048576) (hp:p≤L.length) (ha:a≤8) (hK:K≤1023):∃(b:Bool) (e:Int) (q:Nat) (d':Bool),q≤L.length∧
 aA Tryz.prog 243 [.lit (.int .i64 (a:Int)),.ref 0 0 0 0,.lit (.int .i64 (K:Int))] [some (bt L p d)] (.tup [.lit (.bool b),.lit (.int .i64 e)]) [some (bt L q d')]:=by
 obtain ⟨b,e,q,d',hq,h⟩:=HV (d:=d) hL hp ha hK;refine⟨b,e,q,d',hq,?_⟩;refine zF pl Tryz.call243 Tryz.func243 [.tmp 6,.tmp 7] fun Q hQ=>?_;refine ae ?_;refine zW [some 0] [] h ?_;exact ak [some 0] hQ
theorem FJ {L:List Bool} {p a K:Nat} {d:Bool} (hL:L.length≤1048576) (hp:p≤L.length) (ha:a=1∨a=2) (hK:K≤15):∃(b:Bool) (e:Int) (q:Nat) (d':Bool),q≤L.length∧
 aA Tryz.prog 253 [.lit (.int .i64 (a:Int)),.ref 0 0 0 0,.lit (.int .i64 (K:Int))] [some (bt L p d)] (.tup [.lit (.bool b),.lit (.int .i64 e)]) [some (bt L q d')]:=by
 obtain ⟨b,e,q,d',hq,h⟩:=Gw (d:=d) hL hp ha hK;refine⟨b,e,q,d',hq,?_⟩;refine zF pl Tryz.call253 Tryz.func253 [.tmp 6,.tmp 7] fun Q hQ=>?_;refine ae ?_;refine zW [some 0] [] h ?_;exact ak [some 0] hQ
def ot (k a w:Nat):Prop:=(k=1∧1≤a∧a≤4∨k=2∧a≤1∨k=3∧1≤a∧a≤2)∧1≤w∧w≤4
theorem gp {k a w:Nat} (h:ot k a w):aL k a w∧k≠4:=by
 obtain ⟨h,h1,h2⟩:=h;refine⟨?_,by omega⟩;unfold aL;rcases h with⟨rfl,h3,h4⟩ | ⟨rfl,h4⟩ | ⟨rfl,h3,h4⟩
 · refine .inl ⟨rfl,h3,by omega,h1,by omega,?_⟩
   have b1:=bP (n:=a+1) (k:=3) zo;have b2:2^w≤2^4:=ajv zd h2;have b3:2^w-1≤15:=by omega
   exact ajD (ajO b1 b3) zd
 · exact .inr (.inl ⟨rfl,by omega,h1,by omega⟩)
 · exact .inr (.inr (.inl ⟨rfl,h3,by omega,h1,by omega⟩))
theorem Lk {L:List Bool} {p k a w K:Nat} {d:Bool} (hL:L.length≤1048576) (hp:p≤L.length) (hs:ot k a w) (hK:K≤15):∃(b:Bool) (e:Int) (q:Nat) (d':Bool),q≤L.length∧
 aA Tryz.prog 127 [.lit (.int .i64 (K:Int)),.ref 0 0 0 0,.ref 1 0 0 0] [some (.cells [kV k a]),some (.cells [.ref 2 0 0 0]),some (bt L p d)] (.tup [.lit (.bool b),.lit (.int .i64 e)]) [some (.cells [kV k a]),some (.cells [.ref 2 0 0 0]),some (bt L q d')]:=by
 obtain ⟨hs,-,-⟩:=hs;rcases hs with⟨rfl,h3,h4⟩ | ⟨rfl,h4⟩ | ⟨rfl,h3,h4⟩
 · obtain ⟨b,e,q,d',hq,h⟩:=E8 (d:=d) (K:=K) (a:=a) hL hp h3 zo zo
   refine⟨b,e,q,d',hq,?_⟩;have hk:kV 1 a=.lit (.iface 257 (.int .i64 (a:Int))):=rfl;rw[hk];refine zF pl Tryz.call127 Tryz.func127 [.tmp 4,.tmp 5] fun Q hQ=>?_;refine ae ?_;refine zW [some 2] [] h ?_;exact ak [some 0,some 1,some 2] hQ
 · obtain ⟨b,e,q,d',hq,h⟩:=ES (d:=d) (K:=K) (a:=a) hL hp zo zo
   refine⟨b,e,q,d',hq,?_⟩;have hk:kV 2 a=.lit (.iface 258 (.int .i64 (a:Int))):=rfl;rw[hk];refine zF pl Tryz.call127 Tryz.func127 [.tmp 4,.tmp 5] fun Q hQ=>?_;refine ae ?_;refine zW [some 2] [] h ?_;exact ak [some 0,some 1,some 2] hQ
 · obtain ⟨b,e,q,d',hq,h⟩:=FJ (d:=d) (K:=K) (a:=a) hL hp zo hK
   refine⟨b,e,q,d',hq,?_⟩;have hk:kV 3 a=.lit (.iface 259 (.int .i64 (a:Int))):=rfl;rw[hk];refine zF pl Tryz.call127 Tryz.func127 [.tmp 4,.tmp 5] fun Q hQ=>?_;refine ae ?_;refine zW [some 2] [] h ?_;exact ak [some 0,some 1,some 2] hQ
end Go.Proofs.YtcnlmelpnflhnaaGreat
