import Derived.Test.YtcnlmelpnflhnaaGreatN1
import Derived.Test.YtcnlmelpnflhnaaGreatHa
import Derived.Test.YtcnlmelpnflhnaaGreatIc
import Derived.Test.YtcnlmelpnflhnaaGreatD3
import Derived.Test.YtcnlmelpnflhnaaGreatBb
import Derived.Test.YtcnlmelpnflhnaaGreatAa
namespace Go.Proofs.YtcnlmelpnflhnaaGreat
open Go.Eng Go.Vx
set_option linter.unusedSimpArgs false
set_option linter.unusedVariables false
set_option maxRecDepth 100000
abbrev PL:=Nat×Nat×Nat×Nat
def Kj (x:PL):V:=.agg [.lit (.int .i64 (x.1:Int)),.lit (.int .i64 (x.2.1:Int)),.row 1 ((nl (wg x.2.2.1)).map (ie .u64)),.row 1 ((nl (wg x.2.2.2)).map (ie .u64))]
attribute [go_sem] Kj
def mX (s t:Nat):Nat:=t+if t/2^s*2^s<t then t/2^s+1 else t/2^s
def plN (s:Nat) (x:PL):PL:=if x.2.2.2≤x.2.2.1+2^x.2.1 then(x.1+1,bl (mX s x.2.2.2)-1-2*s,x.2.2.1+2^x.2.1,mX s x.2.2.2) else(x.1,x.2.1,x.2.2.1+2^x.2.1,x.2.2.2)
theorem dD {n:Nat} (h:n<18446744073709551616):(wg n).length≤1:=di h
theorem Hs {s t:Nat} (hs:s≤5) (ht:t<4294967296):aA Tryz.prog 261 [.lit (.int .i64 (s:Int)),NV t] [] (NV (mX s t)) []:=by
 have w0:=dD (n:=t) zo;have hp:2^s≤2^5:=ajv zd hs;have hd:t/2^s≤t:=aks _ _;have hm:t/2^s*2^s≤t:=alV _ _;have w1:=dD (n:=t/2^s) zo;have w2:=dD (n:=t/2^s*2^s) zo;have w3:=dD (n:=t/2^s+1) zo;have w4:=dD (n:=1) zo;have sr:=BD (v:=t) (N:=s) (n:=(s:Int)) zo zo zo;have sl:=vu (v:=t/2^s) (N:=s) zo zo;have cm:=fq (a:=t/2^s*2^s) (b:=t) zo zo;have o1:=eG (x:=1) zd;rw[show((1:Nat):Int)=1 from rfl] at o1;have a1:=gS (a:=t/2^s) (b:=1) zo zo;have a2:=gS (a:=t) (b:=t/2^s+1) zo zo;have a3:=gS (a:=t) (b:=t/2^s) zo zo;have hc:=fi (a:=t/2^s*2^s) (b:=t);unfold mX;generalize t/2^s*2^s=u at*
 generalize t/2^s=q at*
 refine zF OE Tryz.call261 Tryz.func261 [.cell 4 157] fun Q hQ=>?_
 by_cases hu:u<t
 · rw[if_pos hu] at hQ
   have hd:=aju (hc.2 hu);refine ae ?_;refine zC sr ?_;refine zC sl ?_;refine aB (cm) rfl rfl ?_;refine br hd ?_;refine zW [] [4] o1 ?_;refine zC a1 ?_;refine zC a2 ?_;exact ak [] hQ
 · rw[if_neg hu] at hQ
   have hd:=ajn (fun e=>hu (hc.1 e));refine ae ?_;refine zC sr ?_;refine zC sl ?_;refine aB (cm) rfl rfl ?_;refine br hd ?_;refine zC a3 ?_;exact ak [] hQ
theorem Ds {s t:Nat} (hs:s≤5) (ht:t<4294967296*3):aA Tryz.prog 262 [.lit (.int .i64 (s:Int)),NV t] [] (.lit (.int .i64 ((bl t-1-2*s:Nat):Int))) []:=by
 have w0:=dD (n:=t) zo;have b:=M9 (n:=t) zo;have hb:=bP (n:=t) (k:=34) zo;have hm:max 0 ((bl t:Int)-1-2*(s:Int))=((bl t-1-2*s:Nat):Int):=by omega
 generalize bl t=B at*
 refine zF pl Tryz.call262 Tryz.func262 [.tmp 4] fun Q hQ=>?_;refine ae ?_;refine aB (b) rfl rfl ?_;refine br hm ?_;exact ak [] hQ
theorem Lr {s t:Nat}:mX s t≤t+(t+1):=by
 have hd:t/2^s≤t:=aks _ _;unfold mX
 split<;>omega
set_option maxHeartbeats 1000000 in
theorem Jq {s:Nat} {x:PL} (hs:s≤5) (h1:x.1<100000) (h2:x.2.1≤30) (h3:x.2.2.1<4294967296) (h4:x.2.2.2<4294967296):aA Tryz.prog 260 [Kj x,.lit (.int .i64 (s:Int))] [] (Kj (plN s x)) []:=by
 obtain ⟨X,Sh,U,R⟩:=x;dsimp only at h1 h2 h3 h4;have hp:2^Sh≤2^30:=Nat.pow_le_pow_right zd h2;have hmb:=Lr (s:=s) (t:=R);have wV:=dD (n:=U) zo;have wR:=dD (n:=R) zo;have w1:=dD (n:=1) zo;have wS:=dD (n:=2^Sh) zo;have wA:=dD (n:=U+2^Sh) zo;have wM:=dD (n:=mX s R) zo;have o1:=eG (x:=1) zd;rw[show((1:Nat):Int)=1 from rfl] at o1;have sl:=vu (v:=1) (N:=Sh) zo zo;rw[Nat.one_mul] at sl;have a1:=gS (a:=U) (b:=2^Sh) zo zo;have cm:=fq (a:=U+2^Sh) (b:=R) zo zo;have hc:=fi (a:=U+2^Sh) (b:=R);have mo:=Hs hs h4;have sh:=Ds (s:=s) (t:=mX s R) hs zo;unfold plN;dsimp only;generalize mX s R=M at*
 generalize U+2^Sh=A at*
 generalize 2^Sh=P at*
 refine zF Oc Tryz.call260 Tryz.func260 [.cell 4 321] fun Q hQ=>?_
 by_cases hu:R≤A
 · rw[if_pos hu] at hQ
   have hd:=aju (show(0:Int)≤iI A R from by
    refine Classical.byContradiction fun h=>?_
    have:=hc.1 zo
    omega)
   refine ae ?_;refine zW [] [2] o1 ?_;refine zC sl ?_;refine zC a1 ?_;refine aB (cm) rfl rfl ?_;refine br hd ?_;refine zC mo ?_;refine zC sh ?_;exact ak [] hQ
 · rw[if_neg hu] at hQ
   have hd:=ajn (show¬(0:Int)≤iI A R from by
    have:=hc.2 (show A<R by omega)
    omega)
   refine ae ?_;refine zW [] [2] o1 ?_;refine zC sl ?_;refine zC a1 ?_;refine aB (cm) rfl rfl ?_;refine br hd ?_;exact ak [] hQ
def ma (s:Nat):Nat→PL
 | 0=>(0,0,0,4^s)
 | i+1=>plN s (ma s i)
theorem K5 {s i:Nat} (hs:s=1∨s=2) (hi:i≤16):(ma s i).1<100000∧(ma s i).2.1≤30∧(ma s i).2.2.1<4294967296∧(ma s i).2.2.2<4294967296:=by
 have key:∀s∈[1,2],∀i∈List.range 17,(ma s i).1<100000∧(ma s i).2.1≤30∧(ma s i).2.2.1<4294967296∧(ma s i).2.2.2<4294967296:=by decide+kernel
 exact key s (by simp;omega) i (alo.2 zo)
def RpY (n s bp i:Nat) (W:World) (x:Pv):Prop:=n≤bp∧∃Im:Nat→Prop,(∀b,Im b→n≤b∧b≠bp∧b<W.heap.size)∧RepV W Im [] (Kj (ma s i)) (.agg (oy x))
theorem age {w:World} {Im:Nat→Prop}:nB w Im:=fun e he=>by cases he
theorem QW {w:World} {Im:Nat→Prop} (h:∀b,Im b→b<w.heap.size):Rel [] Im [] w:=⟨rfl,fun o ob h=>by simp at h,fun o o' ob ob' b n n' h=>by simp at h,fun b hb=>⟨h b hb,by simp[live]⟩,age⟩
theorem P7 {w:World} {Im:Nat→Prop} {μ:Mu} {l:List (List PV)} {c:Value} (h:RepV w Im μ (.row 1 l) c):∃a n k,c=.slice a n k:=by
 cases h with
 | row h=>cases h;exact⟨_,_,_,rfl⟩
theorem Lp {w:World} {Im:Nat→Prop} {μ:Mu} {x:Value} {c:Value} (h:RepV w Im μ (.lit x) c):c=x:=by
 cases h;rfl
theorem plY {w:World} {Im:Nat→Prop} {μ:Mu} {p:PL} {v:Value} (h:RepV w Im μ (Kj p) v):∃x:Pv,v=.agg (oy x)∧RepV w Im [] (Kj p) v:=by
 unfold Kj at h ⊢
 cases h with
 | @agg l C hn ho hr=>
   match C,hn with
   | [a,b,c,d],_=>
     obtain rfl:=Lp (hr 0 _ _ rfl rfl);obtain rfl:=Lp (hr 1 _ _ rfl rfl);have r2:=hr 2 _ _ rfl rfl;have r3:=hr 3 _ _ rfl rfl;obtain ⟨a2,n2,k2,rfl⟩:=P7 r2;obtain ⟨a3,n3,k3,rfl⟩:=P7 r3;refine⟨((p.1,p.2.1),(a2,n2,k2),(a3,n3,k3)),rfl,.agg rfl (by simp[bF]) fun i u c hu hc=>?_⟩
     match i,hu,hc with
     | 0,hu,hc=>cases hu;cases hc;exact .lit rfl
     | 1,hu,hc=>cases hu;cases hc;exact .lit rfl
     | 2,hu,hc=>cases hu;cases hc;cases r2 with | row h=>exact .row h
     | 3,hu,hc=>cases hu;cases hc;cases r3 with | row h=>exact .row h
theorem WQ {w w':World} (h:Ext (live [] []) w w'):cy w w'∧w.heap.size≤w'.heap.size∧∀b,b<w.heap.size→w'.heap[b]? =w.heap[b]? :=
 ⟨⟨h.os,h.tape,h.output⟩,h.size,fun b hb=>h.block b hb (by simp[live])⟩
theorem Re {s K:Nat} (hs:s=1∨s=2) (hK:K≤15):aA Tryz.prog 257 [.lit (.int .i64 (s:Int)),.lit (.int .i64 (K:Int))] [] (.tup [Kj (ma s K),.lit (.int .i64 0)]) []:=by
 refine⟨Tryz.call257,fun μ Im w args r hl=>?_⟩;obtain ⟨a,l1,rfl,ha,hl⟩:=hl.uncons;obtain ⟨b,l2,rfl,hb,hl⟩:=hl.uncons
 have:l2=[]:=ajB.1 (by simpa using hl.1)
 subst this;obtain rfl:=Lp ha;obtain rfl:=Lp hb;have hμ:μ=[]:=ajB.1 (by rw[r.len];rfl);subst hμ;have main:=Zl (K:=K) (s:=(s:Int)) (c:=((4^s:Nat):Int)) (by rcases hs with rfl | rfl;exact .inl ⟨rfl,rfl⟩;exact .inr ⟨rfl,rfl⟩) hK w (RpY (w.heap.size+6) s) (fun W b n hc hb=>?_) (fun bp i W W' x h hz hk=>?_) (fun bp i W x n h hi hbp=>?_)
 · refine Calls.mono (callsIn_wide.1 main) ?_
   rintro e w' ⟨bp,x,rfl,⟨-,Im',hIm,hR⟩,hrs,hz,hold⟩;have hext:Ext [] w w':=⟨hrs.1,hrs.2.1,hrs.2.2,hz,fun b hb _=>hold b hb⟩;have hmono:∀b,Im b→b<w.heap.size:=fun b hb=>(r.im b hb).1;refine⟨_,rfl,.tup [Kj (ma s K),.lit (.int .i64 0)],[],[],fun b=>Im b∨Im' b,QW fun b hb=>?_,⟨fun i hi=>(by simp at hi),fun b hb=>.inl hb,hext.mono (by simp),fun b hb=>(by simp[live] at hb),fun b hb=>?_⟩,ajp _,?_,rfl,rfl⟩
   · rcases hb with hb | hb
     · have:=hmono b hb;omega
     · exact(hIm b hb).2.2
   · rcases hb with hb | hb
     · exact .inl hb
     · exact .inr (.inr (by have:=(hIm b hb).1;omega))
   · refine .tup (C:=[.agg (oy x),.int .i64 0]) rfl fun i u c hu hc=>?_
     match i,hu,hc with
     | 0,hu,hc=>cases hu;cases hc;exact hR.mono ⟨akb _,fun _ h=>.inr h,fun _ _=>rfl⟩
     | 1,hu,hc=>cases hu;cases hc;exact .lit rfl
 · refine callsIn_wide.2 ?_
   have hb2:b<W.heap.size:=by
    unfold World.cell? at hc;rcases akT b W.heap.size with h | h
    · exact h
    · simp[Array.getElem?_eq_none h] at hc
   have sp:=eG (x:=4^s) (by rcases hs with rfl | rfl<;>decide)
   have hrow:Row W (some ⟨b,0,none⟩) [.int .u64 ((4^s:Nat):Int)]:=⟨fun _=>rfl,fun i hi=>by
    have:i=0:=by simpa using hi
    subst this;exact hc⟩
   refine Calls.mono (sp.2 [] (fun x=>x=b) W [.slice (some ⟨b,0,none⟩) 1 1] (QW fun x hx=>by rw[hx];exact hb2) (.cons (.row (.row (C:=[.int .u64 ((4^s:Nat):Int)]) rfl (ajp _) (by simp) hrow (fun _=>rfl) rfl (by simp[bF]) fun i c p h1 h2=>?_)) .nil)) ?_
   · match i,h1,h2 with
     | 0,h1,h2=>
       cases h1
       simp at h2;subst h2;exact .lit rfl
   · rintro e w' ⟨v,rfl,u,σ',μ',Im',r',st,-,hv,rfl,rfl⟩
     obtain ⟨q1,q2,q3⟩:=WQ st.ext;unfold NV at hv
     cases hv with
     | @agg l C hn ho hr=>
       match C,hn with
       | [c],_=>
         have rc:=hr 0 _ _ rfl rfl;obtain ⟨a,m,k,rfl⟩:=P7 rc;refine⟨(a,m,k),rfl,⟨q1,q2,q3⟩,by omega,Im',fun x hx=>⟨?_,Nat.ne_of_lt (r'.im x hx).1,(r'.im x hx).1⟩,?_⟩
         · rcases st.fresh x hx with h | h | h
           · rw[h];exact hb
           · simp[live] at h
           · omega
         · unfold Kj
           rw[show(nl (wg (ma s 0).2.2.1)).map (ie .u64)=[] from by show(nl (wg 0)).map _=_;rw[eO];rfl];refine .agg (C:=[.int .i64 0,.int .i64 0,.slice none 0 0,.slice a m k]) rfl (by simp[bF]) fun i u c hu hc=>?_
           match i,hu,hc with
           | 0,hu,hc=>cases hu;cases hc;exact .lit rfl
           | 1,hu,hc=>cases hu;cases hc;exact .lit rfl
           | 2,hu,hc=>cases hu;cases hc;exact .row (.row (C:=[]) rfl (ajp _) (by simp) (Row.nil _ _) (fun h=>absurd rfl h) (by simp) (by simp) (by simp))
           | 3,hu,hc=>cases hu;cases hc;cases rc with | row h=>exact .row h
 · obtain ⟨hnb,Im',hIm,hR⟩:=h
   refine⟨hnb,Im',fun b hb=>⟨(hIm b hb).1,(hIm b hb).2.1,by have:=(hIm b hb).2.2;omega⟩,hR.mono ⟨akb _,fun _ h=>h,fun b hb=>hk b (hIm b hb).1 (hIm b hb).2.1 (hIm b hb).2.2⟩⟩
 · refine callsIn_wide.2 ?_
   obtain ⟨hnb,Im',hIm,hR⟩:=h;obtain ⟨o1,o2,o3,o4⟩:=K5 (i:=i) hs zo;have sp:=Jq (s:=s) (x:=ma s i) zo o1 o2 o3 o4;refine Calls.mono (sp.2 [] Im' W [.agg (oy x),.int .i64 (s:Int)] (QW fun b hb=>(hIm b hb).2.2) (.cons hR (.cons (.lit rfl) .nil))) ?_;rintro e w' ⟨v,rfl,u,σ',μ',Im2,r',st,-,hv,rfl,rfl⟩;obtain ⟨q1,q2,q3⟩:=WQ st.ext;obtain ⟨y,rfl,hy⟩:=plY hv;refine⟨y,rfl,⟨q1,q2,q3⟩,hnb,Im2,fun b hb=>?_,hy⟩;rcases st.fresh b hb with h | h | h
   · exact⟨(hIm b h).1,(hIm b h).2.1,(r'.im b hb).1⟩
   · simp[live] at h
   · exact⟨by omega,by omega,(r'.im b hb).1⟩
def cR (M D S:Nat):SP:=⟨2^M-1,2^D-1,S⟩
structure WB (M D S:Nat):Prop where
 m1:1≤M
 m8:M≤8
 d1:1≤D
 d2:D≤2
 s1:1≤S
 s4:S≤4
theorem WB.pw {M D S:Nat} (h:WB M D S):PW (cR M D S):=by
 have a1:2^1≤2^M:=ajv zd h.m1;have a2:2^M≤2^8:=ajv zd h.m8;have b1:2^1≤2^D:=ajv zd h.d1;have b2:2^D≤2^2:=ajv zd h.d2
 have:=h.s1
 have:=h.s4
 exact{m1:=by show 1≤2^M-1;omega,m2:=by show 2^M-1≤65535;omega,d1:=by show 1≤2^D-1;omega,d2:=by show 2^D-1≤15;omega,s1:=h.s1,s2:=by show S≤8;omega,m255:=by show 2^M-1≤255;omega,d3:=by show 2^D-1≤3;omega,s4:=h.s4}
theorem Bn {M D S n s sc v p:Nat} {cs:List Cell} {f d:Bool} {L:List Bool} (hw:WB M D S) (hL:L.length≤1048576) (hp:p≤L.length) (hd:d=true→p=L.length) (hv:v≤1099511627776) (hsc:sc≤5):
 aA Tryz.prog 172 [.ref 0 0 0 0,.ref 1 0 0 0,NV v,.lit (.int .i64 (sc:Int))] (W3 M D S n cs s f L p d)
 (.tup [cA ((gD L d v (sc*bz (cR M D S) v sc (cR M D S).d 0) p).1,bz (cR M D S) v sc (cR M D S).d 0),.lit (.int .i64 (gD L d v (sc*bz (cR M D S) v sc (cR M D S).d 0) p).2.1)])
 (W3 M D S n cs s f L (gD L d v (sc*bz (cR M D S) v sc (cR M D S).d 0) p).2.2.1 (gD L d v (sc*bz (cR M D S) v sc (cR M D S).d 0) p).2.2.2):=by
 have ht:=sK (M:=M) (D:=D) (S:=S) (by have:=hw.m8;omega) (by have:=hw.d2;omega);have hpw:=hw.pw;have hd3:=hpw.d3;have hm255:=hpw.m255;have hml:=vH (P:=cR M D S) (v:=v) (s:=sc);rw[show 2^M-1=(cR M D S).m from rfl,show 2^D-1=(cR M D S).d from rfl] at ht;have hsm:sc*bz (cR M D S) v sc (cR M D S).d 0≤5*3:=ajO hsc zo;have hr:=pb (L:=L) (n:=v) (k:=sc*bz (cR M D S) v sc (cR M D S).d 0) (p:=p) (d:=d) hL hp hd hv zo;generalize hP:cR M D S=P at*
 generalize hmm:bz P v sc P.d 0=mm at*
 have hvw:(wg v).length≤1:=di zo;refine zF pl Tryz.call172 Tryz.func172 [.cell 8 151,.tmp 9] fun Q hQ=>?_;refine ae ?_;refine zC ht ?_
 refine aR (X:=Nat) (st:=fun m=>([(0,.ref 0 0 0 0),(1,.ref 1 0 0 0),(3,.lit (.int .i64 (sc:Int))),(6,.ref 3 0 0 0),(8,.ref 4 0 0 0),(10,.lit (.int .i64 (P.m:Int))),(11,.lit (.int .i64 (P.d:Int))),(12,.lit (.int .i64 (m:Int)))],W3 M D S n cs s f L p d++[some (.cells [.row 1 ((nl (wg v)).map (ie .u64))]),some (.cells [.lit (.int .i64 0),.lit (.int .i64 0)])]))
  (inv:=fun m=>m≤P.d∧bz P v sc (P.d-m) m=mm) (m:=fun m=>P.d-m) 0 [some 0,some 1,some 2,some 3,some 4] ⟨ajH _,hmm⟩ ?_
 rintro m ⟨hm,hmo⟩
 by_cases h1:m<P.d
 · obtain ⟨g,hg⟩:∃g,P.d-m=g+1:=⟨P.d-m-1,by omega⟩
   have hsm2:sc*m≤5*3:=ajO hsc zo;have e:(sc:Int)*(m:Int)=((sc*m:Nat):Int):=by simp
   have sh:=BD (v:=v) (N:=sc*m) (n:=((sc*m:Nat):Int)) zo zo zo;have o:=eG (x:=P.m) zo;have c:=fq (a:=v/2^(sc*m)) (b:=P.m) (ajD (di (aj9 (aks _ _) zo)) zd) (ajD (di zo) zd);rw[hg] at hmo;unfold bz at hmo
   by_cases h2:P.m<v/2^(sc*m)
   · rw[if_pos ⟨h1,h2⟩] at hmo
     rw[Mp h2] at c;generalize v/2^(sc*m)=u at*
     generalize sc*m=k at*
     refine br e ?_;refine zC sh ?_;refine zW [] [5] o ?_;refine zC c ?_;refine aM (m+1) [some 0,some 1,some 2,some 3,some 4] ⟨by omega,by rw[←hmo];congr 1;omega⟩ zo
   · rw[if_neg (fun h=>h2 h.2)] at hmo
     subst hmo;have hc:iI (v/2^(sc*m)) P.m≤0:=by unfold iI;split<;>(try split)<;>omega
     have hc2:=ajn (show¬iI (v/2^(sc*m)) P.m>0 by omega);generalize iI (v/2^(sc*m)) P.m=ci at*
     generalize v/2^(sc*m)=u at*
     generalize gD L d v (sc*m) p=x at*
     generalize sc*m=k at*
     refine br e ?_;refine zC sh ?_;refine zW [] [5] o ?_;refine aB (c) rfl rfl ?_;refine br e ?_;refine zW [some 1] [] hr ?_;exact ak [some 0,some 1,some 2] hQ
 · obtain rfl:m=P.d:=by omega
   rw[akz] at hmo;unfold bz at hmo;subst hmo;have e:(sc:Int)*(P.d:Int)=((sc*P.d:Nat):Int):=by simp
   generalize gD L d v (sc*P.d) p=x at*
   generalize sc*P.d=k at*
   refine br e ?_;refine zW [some 1] [] hr ?_;exact ak [some 0,some 1,some 2] hQ
end Go.Proofs.YtcnlmelpnflhnaaGreat
