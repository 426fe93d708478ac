import Derived.Test.YtcnlmelpnflhnaaGreatN1
import Derived.Test.YtcnlmelpnflhnaaGreatAb
import Derived.Test.YtcnlmelpnflhnaaGreatD3
import Derived.Test.YtcnlmelpnflhnaaGreatAa
import Derived.Test.YtcnlmelpnflhnaaGreatAc
import Derived.Test.YtcnlmelpnflhnaaGreatIk
namespace Go.Proofs.YtcnlmelpnflhnaaGreat
open Go.Eng Go.Vx
set_option linter.unusedSimpArgs false
set_option linter.unusedVariables false
set_option maxRecDepth 100000
abbrev PL:=Nat×Nat×Nat×Nat
def HW (x:PL):V:=.agg [.lit (.int .i64 (x.1:Int)),.lit (.int .i64 (x.2.1:Int)),.row 1 ((nl (wg x.2.2.1)).map (ie .u64)),.row 1 ((nl (wg x.2.2.2)).map (ie .u64))]
attribute [go_sem] HW
def lR (s t:Nat):Nat:=t+if t/2^s*2^s<t then t/2^s+1 else t/2^s
def plN (s:Nat) (x:PL):PL:=if x.2.2.2≤x.2.2.1+2^x.2.1 then(x.1+1,bl (lR s x.2.2.2)-1-2*s,x.2.2.1+2^x.2.1,lR s x.2.2.2) else(x.1,x.2.1,x.2.2.1+2^x.2.1,x.2.2.2)
theorem di {n:Nat} (h:n<18446744073709551616):(wg n).length≤1:=cK h
theorem Fk {s t:Nat} (hs:s≤5) (ht:t<4294967296):aC Tryz.prog 261 [.lit (.int .i64 (s:Int)),NV t] [] (NV (lR s t)) []:=by
 have w0:=di (n:=t) zo;have hp:2^s≤2^5:=agA zd hs;have hd:t/2^s≤t:=ahv _ _;have hm:t/2^s*2^s≤t:=aiU _ _;have w1:=di (n:=t/2^s) zo;have w2:=di (n:=t/2^s*2^s) zo;have w3:=di (n:=t/2^s+1) zo;have w4:=di (n:=1) zo;have sr:=zc (v:=t) (N:=s) (n:=(s:Int)) zo zo zo;have sl:=tA (v:=t/2^s) (N:=s) zo zo;have cm:=eR (a:=t/2^s*2^s) (b:=t) zo zo;have o1:=dV (x:=1) zd;rw[show((1:Nat):Int)=1 from rfl] at o1;have a1:=gh (a:=t/2^s) (b:=1) zo zo;have a2:=gh (a:=t) (b:=t/2^s+1) zo zo;have a3:=gh (a:=t) (b:=t/2^s) zo zo;have hc:=eN (a:=t/2^s*2^s) (b:=t);unfold lR;generalize t/2^s*2^s=u at*
 generalize t/2^s=q at*
 refine zF LZ Tryz.call261 Tryz.func261 [.cell 4 157] fun Q hQ=>?_
 by_cases hu:u<t
 · rw[if_pos hu] at hQ
   have hd:=agC (hc.2 hu);refine ae ?_;refine zC sr ?_;refine zC sl ?_;refine az (cm) rfl rfl ?_;refine bh hd ?_;refine zW [] [4] o1 ?_;refine zC a1 ?_;refine zC a2 ?_;exact ak [] hQ
 · rw[if_neg hu] at hQ
   have hd:=agq (fun e=>hu (hc.1 e));refine ae ?_;refine zC sr ?_;refine zC sl ?_;refine az (cm) rfl rfl ?_;refine bh hd ?_;refine zC a3 ?_;exact ak [] hQ
theorem Bh {s t:Nat} (hs:s≤5) (ht:t<4294967296*3):aC Tryz.prog 262 [.lit (.int .i64 (s:Int)),NV t] [] (.lit (.int .i64 ((bl t-1-2*s:Nat):Int))) []:=by
 have w0:=di (n:=t) zo;have b:=KE (n:=t) zo;have hb:=bB (n:=t) (k:=34) zo;have hm:max 0 ((bl t:Int)-1-2*(s:Int))=((bl t-1-2*s:Nat):Int):=by omega
 generalize bl t=B at*
 refine zF pl Tryz.call262 Tryz.func262 [.tmp 4] fun Q hQ=>?_;refine ae ?_;refine az (b) rfl rfl ?_;refine bh hm ?_;exact ak [] hQ
theorem IW {s t:Nat}:lR s t≤t+(t+1):=by
 have hd:t/2^s≤t:=ahv _ _;unfold lR
 split<;>omega
set_option maxHeartbeats 1000000 in
theorem Hi {s:Nat} {x:PL} (hs:s≤5) (h1:x.1<100000) (h2:x.2.1≤30) (h3:x.2.2.1<4294967296) (h4:x.2.2.2<4294967296):aC Tryz.prog 260 [HW x,.lit (.int .i64 (s:Int))] [] (HW (plN s x)) []:=by
 obtain ⟨X,Sh,U,R⟩:=x;dsimp only at h1 h2 h3 h4;have hp:2^Sh≤2^30:=Nat.pow_le_pow_right zd h2;have hmb:=IW (s:=s) (t:=R);have wV:=di (n:=U) zo;have wR:=di (n:=R) zo;have w1:=di (n:=1) zo;have wS:=di (n:=2^Sh) zo;have wA:=di (n:=U+2^Sh) zo;have wM:=di (n:=lR s R) zo;have o1:=dV (x:=1) zd;rw[show((1:Nat):Int)=1 from rfl] at o1;have sl:=tA (v:=1) (N:=Sh) zo zo;rw[Nat.one_mul] at sl;have a1:=gh (a:=U) (b:=2^Sh) zo zo;have cm:=eR (a:=U+2^Sh) (b:=R) zo zo;have hc:=eN (a:=U+2^Sh) (b:=R);have mo:=Fk hs h4;have sh:=Bh (s:=s) (t:=lR s R) hs zo;unfold plN;dsimp only;generalize lR s R=M at*
 generalize U+2^Sh=A at*
 generalize 2^Sh=P at*
 refine zF LF Tryz.call260 Tryz.func260 [.cell 4 321] fun Q hQ=>?_
 by_cases hu:R≤A
 · rw[if_pos hu] at hQ
   have hd:=agC (show(0:Int)≤gU A R from by
    refine Classical.byContradiction fun h=>?_
    have:=hc.1 zo
    omega)
   refine ae ?_;refine zW [] [2] o1 ?_;refine zC sl ?_;refine zC a1 ?_;refine az (cm) rfl rfl ?_;refine bh hd ?_;refine zC mo ?_;refine zC sh ?_;exact ak [] hQ
 · rw[if_neg hu] at hQ
   have hd:=agq (show¬(0:Int)≤gU A R from by
    have:=hc.2 (show A<R by omega)
    omega)
   refine ae ?_;refine zW [] [2] o1 ?_;refine zC sl ?_;refine zC a1 ?_;refine az (cm) rfl rfl ?_;refine bh hd ?_;exact ak [] hQ
theorem jh {n m:Int}:aC Tryz.prog 81 [.lit (.int .i64 n),.lit (.int .i64 m)] [] (.lit (.bool (decide (1≤n∧n≤m)))) []:=by
 refine zF pl Tryz.call81 Tryz.func81 [.tmp 4] fun Q hQ=>?_
 by_cases h1:1≤n
 · by_cases h2:n≤m
   · rw[agC (show 1≤n∧n≤m from⟨h1,h2⟩)] at hQ
     exact zE [] hQ
   · rw[agq (fun h:1≤n∧n≤m=>h2 h.2)] at hQ
     exact zE [] hQ
 · rw[agq (fun h:1≤n∧n≤m=>h1 h.1)] at hQ
   exact zE [] hQ
def zZ (M D S:Int):Prop:=(1≤M∧M≤16)∧(1≤D∧D≤4)∧1≤S∧S≤8
theorem Dl {M D S:Int} (h:zZ M D S):aC Tryz.prog 80 [.agg [.lit (.int .i64 M),.lit (.int .i64 D),.lit (.int .i64 S)]] [] (.lit (.int .i64 0)) []:=by
 obtain ⟨h1,h2,h3⟩:=h;have w1:=jh (n:=M) (m:=16);have w2:=jh (n:=D) (m:=4);have w3:=jh (n:=S) (m:=8);rw[agC h1] at w1;rw[agC h2] at w2;rw[agC h3] at w3;refine zF pl Tryz.call80 Tryz.func80 [.tmp 2] fun Q hQ=>?_;refine ae ?_;refine zC w1 ?_;refine zC w2 ?_;refine zC w3 ?_;exact ak [] hQ
def cV (c:Cell):List PV:=[.lit (.int .i64 (c.1:Int)),.lit (.int .i64 (c.2:Int))]
def cA (c:Cell):V:=.agg [.lit (.int .i64 (c.1:Int)),.lit (.int .i64 (c.2:Int))]
def pA (M D S:Nat):V:=.agg [.lit (.int .i64 (M:Int)),.lit (.int .i64 (D:Int)),.lit (.int .i64 (S:Int))]
def DG (M D S:Nat) (st:SS):Ob:=.cells [.lit (.int .i64 (M:Int)),.lit (.int .i64 (D:Int)),.lit (.int .i64 (S:Int)),.row 2 (st.1.map cV),.lit (.int .i64 (st.2.1:Int)),.lit (.bool st.2.2)]
def G1 (M D S:Nat) (st:SS):V:=.rref 6 [[.lit (.int .i64 (M:Int)),.lit (.int .i64 (D:Int)),.lit (.int .i64 (S:Int)),.row 2 (st.1.map cV),.lit (.int .i64 (st.2.1:Int)),.lit (.bool st.2.2)]] 0 0
def LB (M D S o n:Nat) (s:Nat) (f:Bool):Ob:=.cells [.lit (.int .i64 (M:Int)),.lit (.int .i64 (D:Int)),.lit (.int .i64 (S:Int)),.sl o 2 0 n,.lit (.int .i64 (s:Int)),.lit (.bool f)]
attribute [go_sem] cA pA DG G1 LB
@[go_sem] theorem Vo {c:Cell}:cV c=[.lit (.int .i64 (c.1:Int)),.lit (.int .i64 (c.2:Int))]:=(rfl)
theorem getD_some {α:Type} [Inhabited α] {l:List α} {i:Nat} {x:α} (h:l[i]? =some x):l.getD i default=x:=by rw[ago,h];rfl
@[go_sem] theorem acQ {X:List Cell} {z:Nat}:JJ (.row z (X.map cV))=True:=eq_true fun e he p hp=>by
 obtain ⟨x,_,rfl⟩:=aho.1 he;rw[Vo] at hp;simp only[agG,ahd,or_false] at hp;rcases hp with rfl | rfl<;>rfl
theorem Ie {M D S:Nat} {st:SS} (h:st.1.length≤256):aC Tryz.prog 30 [G1 M D S st] [] (.lit (.int .i64 (st.1.length:Int))) []:=by
 refine zF pl Tryz.call30 Tryz.func30 [.tmp 2] fun Q hQ=>?_;exact zE [] hQ
theorem Iz {M D S:Nat} {st:SS} {i:Nat} {c:Cell} (hi:st.1[i]? =some c) (hX:st.1.length≤256):aC Tryz.prog 72 [G1 M D S st,.lit (.int .i64 (i:Int))] [] (.tup [cA c,.lit (.int .i64 0)]) []:=by
 obtain ⟨hl,hx⟩:=ahp.1 hi;have e:=getD_some hi;refine zF pl Tryz.call72 Tryz.func72 [.cell 4 151,.tmp 5] fun Q hQ=>?_;refine bh e ?_;exact ak [] hQ
theorem r8 {c:Cell} {s:Nat} (hc:c.1<9223372036854775808) (hs:s*c.2≤8192):aC Tryz.prog 173 [cA c,.lit (.int .i64 (s:Int))] [] (NV (gS c s)) []:=by
 have o:=dV (x:=c.1) zo;have sh:=tA (v:=c.1) (N:=s*c.2) hs (agI (cK zo) zd);have e:(s:Int)*(c.2:Int)=((s*c.2:Nat):Int):=by simp
 rw[show c.1*2^(s*c.2)=gS c s from rfl] at sh;generalize gS c s=w at*
 generalize s*c.2=k at*
 refine zF LN Tryz.call173 Tryz.func173 [.cell 4 157] fun Q hQ=>?_;refine bh e ?_;refine aV [] [2] (o) ?_;refine bh e ?_;refine zC sh ?_;exact ak [] hQ
theorem Gd {k:Nat} (h:k<63):IntKind.i64.wrap (1*2^k)=((2^k:Nat):Int):=by
 have h1:2^k≤2^62:=agA zd zo;have h2:(1*2^k:Int)=((2^k:Nat):Int):=by simp
 rw[h2];generalize 2^k=x at*
 have:(x:Int)<9223372036854775808:=by omega
 exact Ca
theorem qV {M D S:Nat} (hM:M≤16) (hD:D≤4):aC Tryz.prog 137 [pA M D S] [] (.tup [.lit (.int .i64 ((2^M-1:Nat):Int)),.lit (.int .i64 ((2^D-1:Nat):Int))]) []:=by
 have h1:=Gd (k:=M) zo;have h2:=Gd (k:=D) zo;have p1:1≤2^M:=agV zd;have p2:1≤2^D:=agV zd;have q1:2^M≤2^16:=agA zd hM;have q2:2^D≤2^4:=agA zd hD;have e1:((2^M:Nat):Int)-1=((2^M-1:Nat):Int):=by omega
 have e2:((2^D:Nat):Int)-1=((2^D-1:Nat):Int):=by omega
 refine zF K6 Tryz.call137 Tryz.func137 [.tmp 2,.tmp 3] fun Q hQ=>?_;refine HU h1 h2 e1 e2 ?_;exact ak [] hQ
def W3 (M D S n:Nat) (cs:List Cell) (s:Nat) (f:Bool) (L:List Bool) (p:Nat) (d:Bool):St:=[some (LB M D S 2 n s f),some (aX L p d),some (.row 2 (cs.map cV))]
attribute [go_sem] W3
theorem Na {cs:List Cell} {i:Nat} {c:Cell}:(cs.map cV).set i [.lit (.int .i64 (c.1:Int)),.lit (.int .i64 (c.2:Int))]=(cs.set i c).map cV:=by rw[List.map_set];rfl
theorem AT {M D S:Nat} {cs:List Cell} {s i:Nat} {f:Bool} {c:Cell} (hi:i<cs.length) (hX:cs.length≤256):aC Tryz.prog 140 [.ref 0 0 0 0,.lit (.int .i64 (i:Int)),cA c]
 [some (LB M D S 1 cs.length s f),some (.row 2 (cs.map cV))] (.tup []) [some (LB M D S 1 cs.length s f),some (.row 2 ((cs.set i (fT c)).map cV))]:=by
 have e:=Na (cs:=cs) (i:=i) (c:=fT c);unfold fT at e ⊢;refine zF Ld Tryz.call140 Tryz.func140 [] fun Q hQ=>?_
 by_cases h0:c.1=0
 · rw[if_pos h0] at hQ e
   rw[←e] at hQ;dsimp only at hQ;exact zE [some 0,some 1] hQ
 · rw[if_neg h0] at hQ e
   rw[←e] at hQ;exact zE [some 0,some 1] hQ
theorem Gr {M D S n:Nat} {cs:List Cell} {s p:Nat} {f d:Bool} {L:List Bool} {c:Cell} (hL:L.length≤1048576) (hp:p≤L.length) (hd:d=true→p=L.length) (hc:c.1≤1099511627776) (hm:c.2≤1000) (hs:s≤40):
 aC Tryz.prog 138 [.ref 0 0 0 0,.ref 1 0 0 0,cA c] (W3 M D S n cs s f L p d)
 (.tup [cA ((fQ L d c.1 s p).1,c.2+1),.lit (.int .i64 (fQ L d c.1 s p).2.1)]) (W3 M D S n cs s f L (fQ L d c.1 s p).2.2.1 (fQ L d c.1 s p).2.2.2):=by
 have o:=dV (x:=c.1) zo;have r:=nR (L:=L) (n:=c.1) (k:=s) (p:=p) (d:=d) hL hp hd hc hs;generalize fQ L d c.1 s p=x at*
 refine zF LH Tryz.call138 Tryz.func138 [.cell 6 151,.tmp 7] fun Q hQ=>?_;refine ae ?_;refine zW [] [5] o ?_;refine zW [some 1] [] r ?_;exact ak [some 0,some 1,some 2] hQ
def cD (M D S:Nat):SP:=⟨2^M-1,2^D-1,S⟩
structure WB (M D S:Nat):Prop where
 m1:1≤M
 m8:M≤8
 d1:1≤D
 d2:D≤2
 s1:1≤S
 s4:S≤4
theorem WB.pw {M D S:Nat} (h:WB M D S):PW (cD M D S):=by
 have a1:2^1≤2^M:=agA zd h.m1;have a2:2^M≤2^8:=agA zd h.m8;have b1:2^1≤2^D:=agA zd h.d1;have b2:2^D≤2^2:=agA zd h.d2
 have:=h.s1
 have:=h.s4
 exact{m1:=by show 1≤2^M-1;omega,m2:=by show 2^M-1≤65535;omega,d1:=by show 1≤2^D-1;omega,d2:=by show 2^D-1≤15;omega,s1:=h.s1,s2:=by show S≤8;omega,m255:=by show 2^M-1≤255;omega,d3:=by show 2^D-1≤3;omega,s4:=h.s4}
theorem yT {M D S n s sc v p:Nat} {cs:List Cell} {f d:Bool} {L:List Bool} (hw:WB M D S) (hL:L.length≤1048576) (hp:p≤L.length) (hd:d=true→p=L.length) (hv:v≤1099511627776) (hsc:sc≤5):
 aC Tryz.prog 172 [.ref 0 0 0 0,.ref 1 0 0 0,NV v,.lit (.int .i64 (sc:Int))] (W3 M D S n cs s f L p d)
 (.tup [cA ((fQ L d v (sc*ba (cD M D S) v sc (cD M D S).d 0) p).1,ba (cD M D S) v sc (cD M D S).d 0),.lit (.int .i64 (fQ L d v (sc*ba (cD M D S) v sc (cD M D S).d 0) p).2.1)])
 (W3 M D S n cs s f L (fQ L d v (sc*ba (cD M D S) v sc (cD M D S).d 0) p).2.2.1 (fQ L d v (sc*ba (cD M D S) v sc (cD M D S).d 0) p).2.2.2):=by
 have ht:=qV (M:=M) (D:=D) (S:=S) (by have:=hw.m8;omega) (by have:=hw.d2;omega);have hpw:=hw.pw;have hd3:=hpw.d3;have hm255:=hpw.m255;have hml:=tK (P:=cD M D S) (v:=v) (s:=sc);rw[show 2^M-1=(cD M D S).m from rfl,show 2^D-1=(cD M D S).d from rfl] at ht;have hsm:sc*ba (cD M D S) v sc (cD M D S).d 0≤5*3:=agQ hsc zo;have hr:=nR (L:=L) (n:=v) (k:=sc*ba (cD M D S) v sc (cD M D S).d 0) (p:=p) (d:=d) hL hp hd hv zo;generalize hP:cD M D S=P at*
 generalize hmm:ba P v sc P.d 0=mm at*
 have hvw:(wg v).length≤1:=cK zo;refine zF pl Tryz.call172 Tryz.func172 [.cell 8 151,.tmp 9] fun Q hQ=>?_;refine ae ?_;refine zC ht ?_
 refine aU (X:=Nat) (st:=fun m=>([(0,.ref 0 0 0 0),(1,.ref 1 0 0 0),(3,.lit (.int .i64 (sc:Int))),(6,.ref 3 0 0 0),(8,.ref 4 0 0 0),(10,.lit (.int .i64 (P.m:Int))),(11,.lit (.int .i64 (P.d:Int))),(12,.lit (.int .i64 (m:Int)))],W3 M D S n cs s f L p d++[some (.cells [.row 1 ((nl (wg v)).map (ie .u64))]),some (.cells [.lit (.int .i64 0),.lit (.int .i64 0)])]))
  (inv:=fun m=>m≤P.d∧ba P v sc (P.d-m) m=mm) (m:=fun m=>P.d-m) 0 [some 0,some 1,some 2,some 3,some 4] ⟨agM _,hmm⟩ ?_
 rintro m ⟨hm,hmo⟩
 by_cases h1:m<P.d
 · obtain ⟨g,hg⟩:∃g,P.d-m=g+1:=⟨P.d-m-1,by omega⟩
   have hsm2:sc*m≤5*3:=agQ hsc zo;have e:(sc:Int)*(m:Int)=((sc*m:Nat):Int):=by simp
   have sh:=zc (v:=v) (N:=sc*m) (n:=((sc*m:Nat):Int)) zo zo zo;have o:=dV (x:=P.m) zo;have c:=eR (a:=v/2^(sc*m)) (b:=P.m) (agI (cK (ahb (ahv _ _) zo)) zd) (agI (cK zo) zd);rw[hg] at hmo;unfold ba at hmo
   by_cases h2:P.m<v/2^(sc*m)
   · rw[if_pos ⟨h1,h2⟩] at hmo
     rw[JT h2] at c;generalize v/2^(sc*m)=u at*
     generalize sc*m=k at*
     refine bh e ?_;refine zC sh ?_;refine zW [] [5] o ?_;refine zC c ?_;refine aO (m+1) [some 0,some 1,some 2,some 3,some 4] ⟨by omega,by rw[←hmo];congr 1;omega⟩ zo
   · rw[if_neg (fun h=>h2 h.2)] at hmo
     subst hmo;have hc:gU (v/2^(sc*m)) P.m≤0:=by unfold gU;split<;>(try split)<;>omega
     have hc2:=agq (show¬gU (v/2^(sc*m)) P.m>0 by omega);generalize gU (v/2^(sc*m)) P.m=ci at*
     generalize v/2^(sc*m)=u at*
     generalize fQ L d v (sc*m) p=x at*
     generalize sc*m=k at*
     refine bh e ?_;refine zC sh ?_;refine zW [] [5] o ?_;refine az (c) rfl rfl ?_;refine bh e ?_;refine zW [some 1] [] hr ?_;exact ak [some 0,some 1,some 2] hQ
 · obtain rfl:m=P.d:=by omega
   rw[ahJ] at hmo;unfold ba at hmo;subst hmo;have e:(sc:Int)*(P.d:Int)=((sc*P.d:Nat):Int):=by simp
   generalize fQ L d v (sc*P.d) p=x at*
   generalize sc*P.d=k at*
   refine bh e ?_;refine zW [some 1] [] hr ?_;exact ak [some 0,some 1,some 2] hQ
end Go.Proofs.YtcnlmelpnflhnaaGreat
