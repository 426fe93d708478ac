import Derived.Test.YtcnlmelpnflhnaaGreatBb
import Derived.Test.YtcnlmelpnflhnaaGreatAb
import Derived.Test.YtcnlmelpnflhnaaGreatHd
import Derived.Test.YtcnlmelpnflhnaaGreatFb
import Derived.Test.YtcnlmelpnflhnaaGreatHa
import Derived.Test.YtcnlmelpnflhnaaGreatSf
namespace Go.Proofs.YtcnlmelpnflhnaaGreat
open Go.Eng Go.Vx
set_option linter.unusedSimpArgs false
set_option linter.unusedVariables false
set_option maxRecDepth 100000
def mc (s:Nat):Nat→PL
 | 0=>(0,0,0,4^s)
 | i+1=>plN s (mc s i)
theorem Mq {s i:Nat} (hs:s=1∨s=2) (hi:i≤16):(mc s i).1<100000∧(mc s i).2.1≤30∧(mc s i).2.2.1<4294967296∧(mc s i).2.2.2<4294967296:=by
 have key:∀s∈[1,2],∀i∈List.range 17,(mc s i).1<100000∧(mc s i).2.1≤30∧(mc s i).2.2.1<4294967296∧(mc s i).2.2.2<4294967296:=by decide+kernel
 exact key s (by simp;omega) i (amg.2 zo)
def RpY (n s bp i:Nat) (W:World) (x:Pv):Prop:=n≤bp∧∃Im:Nat→Prop,(∀b,Im b→n≤b∧b≠bp∧b<W.heap.size)∧RepV W Im [] (LO (mc s i)) (.agg (oN x))
theorem ahc {w:World} {Im:Nat→Prop}:rK w Im:=fun e he=>by cases he
theorem Sm {w:World} {Im:Nat→Prop} (h:∀b,Im b→b<w.heap.size):Rel [] Im [] w:=⟨rfl,fun o ob h=>by simp at h,fun o o' ob ob' b n n' h=>by simp at h,fun b hb=>⟨h b hb,by simp[live]⟩,ahc⟩
theorem Rs {w:World} {Im:Nat→Prop} {μ:Mu} {l:List (List PV)} {c:Value} (h:RepV w Im μ (.row 1 l) c):∃a n k,c=.slice a n k:=by
 cases h with
 | row h=>cases h;exact⟨_,_,_,rfl⟩
theorem MI {w:World} {Im:Nat→Prop} {μ:Mu} {x:Value} {c:Value} (h:RepV w Im μ (.lit x) c):c=x:=by
 cases h;rfl
theorem plY {w:World} {Im:Nat→Prop} {μ:Mu} {p:PL} {v:Value} (h:RepV w Im μ (LO p) v):∃x:Pv,v=.agg (oN x)∧RepV w Im [] (LO p) v:=by
 unfold LO at h ⊢
 cases h with
 | @agg l C hn ho hr=>
   match C,hn with
   | [a,b,c,d],_=>
     obtain rfl:=MI (hr 0 _ _ rfl rfl);obtain rfl:=MI (hr 1 _ _ rfl rfl);have r2:=hr 2 _ _ rfl rfl;have r3:=hr 3 _ _ rfl rfl;obtain ⟨a2,n2,k2,rfl⟩:=Rs r2;obtain ⟨a3,n3,k3,rfl⟩:=Rs r3;refine⟨((p.1,p.2.1),(a2,n2,k2),(a3,n3,k3)),rfl,.agg rfl (by simp[bD]) fun i u c hu hc=>?_⟩
     match i,hu,hc with
     | 0,hu,hc=>cases hu;cases hc;exact .lit rfl
     | 1,hu,hc=>cases hu;cases hc;exact .lit rfl
     | 2,hu,hc=>cases hu;cases hc;cases r2 with | row h=>exact .row h
     | 3,hu,hc=>cases hu;cases hc;cases r3 with | row h=>exact .row h
theorem X9 {w w':World} (h:Ext (live [] []) w w'):cB w w'∧w.heap.size≤w'.heap.size∧∀b,b<w.heap.size→w'.heap[b]? =w.heap[b]? :=
 ⟨⟨h.os,h.tape,h.output⟩,h.size,fun b hb=>h.block b hb (by simp[live])⟩
theorem SF {s K:Nat} (hs:s=1∨s=2) (hK:K≤15):aA Tryz.prog 257 [.I s,.I K] [] (.tup [LO (mc s K),.I 0]) []:=by
 refine⟨Tryz.call257,fun μ Im w args r hl=>?_⟩;obtain ⟨a,l1,rfl,ha,hl⟩:=hl.uncons;obtain ⟨b,l2,rfl,hb,hl⟩:=hl.uncons
 have:l2=[]:=akx.1 (by simpa using hl.1)
 subst this;obtain rfl:=MI ha;obtain rfl:=MI hb;have hμ:μ=[]:=akx.1 (by rw[r.len];rfl);subst hμ;have main:=aaq (K:=K) (s:=(s:Int)) (c:=((4^s:Nat):Int)) (by rcases hs with rfl | rfl;exact .inl ⟨rfl,rfl⟩;exact .inr ⟨rfl,rfl⟩) hK w (RpY (w.heap.size+6) s) (fun W b n hc hb=>?_) (fun bp i W W' x h hz hk=>?_) (fun bp i W x n h hi hbp=>?_)
 · refine Calls.mono (callsIn_wide.1 main) ?_
   rintro e w' ⟨bp,x,rfl,⟨-,Im',hIm,hR⟩,hrs,hz,hold⟩;have hext:Ext [] w w':=⟨hrs.1,hrs.2.1,hrs.2.2,hz,fun b hb _=>hold b hb⟩;have hmono:∀b,Im b→b<w.heap.size:=fun b hb=>(r.im b hb).1;refine⟨_,rfl,.tup [LO (mc s K),.I 0],[],[],fun b=>Im b∨Im' b,Sm fun b hb=>?_,⟨fun i hi=>(by simp at hi),fun b hb=>.inl hb,hext.mono (by simp),fun b hb=>(by simp[live] at hb),fun b hb=>?_⟩,akk _,?_,rfl,rfl⟩
   · rcases hb with hb | hb
     · have:=hmono b hb;omega
     · exact(hIm b hb).2.2
   · rcases hb with hb | hb
     · exact .inl hb
     · exact .inr (.inr (by have:=(hIm b hb).1;omega))
   · refine .tup (C:=[.agg (oN x),.int .i64 0]) rfl fun i u c hu hc=>?_
     match i,hu,hc with
     | 0,hu,hc=>cases hu;cases hc;exact hR.mono ⟨alk _,fun _ h=>.inr h,fun _ _=>rfl⟩
     | 1,hu,hc=>cases hu;cases hc;exact .lit rfl
 · refine callsIn_wide.2 ?_
   have hb2:b<W.heap.size:=by
    unfold World.cell? at hc;rcases alY b W.heap.size with h | h
    · exact h
    · simp[Array.getElem?_eq_none h] at hc
   have sp:=eI (x:=4^s) (by rcases hs with rfl | rfl<;>decide)
   have hrow:Row W (some ⟨b,0,none⟩) [.int .u64 ((4^s:Nat):Int)]:=⟨fun _=>rfl,fun i hi=>by
    have:i=0:=by simpa using hi
    subst this;exact hc⟩
   refine Calls.mono (sp.2 [] (fun x=>x=b) W [.slice (some ⟨b,0,none⟩) 1 1] (Sm fun x hx=>by rw[hx];exact hb2) (.cons (.row (.row (C:=[.int .u64 ((4^s:Nat):Int)]) rfl (akk _) (by simp) hrow (fun _=>rfl) rfl (by simp[bD]) fun i c p h1 h2=>?_)) .nil)) ?_
   · match i,h1,h2 with
     | 0,h1,h2=>
       cases h1
       simp at h2;subst h2;exact .lit rfl
   · rintro e w' ⟨v,rfl,u,σ',μ',Im',r',st,-,hv,rfl,rfl⟩
     obtain ⟨q1,q2,q3⟩:=X9 st.ext;unfold NV at hv
     cases hv with
     | @agg l C hn ho hr=>
       match C,hn with
       | [c],_=>
         have rc:=hr 0 _ _ rfl rfl;obtain ⟨a,m,k,rfl⟩:=Rs rc;refine⟨(a,m,k),rfl,⟨q1,q2,q3⟩,by omega,Im',fun x hx=>⟨?_,Nat.ne_of_lt (r'.im x hx).1,(r'.im x hx).1⟩,?_⟩
         · rcases st.fresh x hx with h | h | h
           · rw[h];exact hb
           · simp[live] at h
           · omega
         · unfold LO
           rw[show(nl (wg (mc s 0).2.2.1)).map (ie .u64)=[] from by show(nl (wg 0)).map _=_;rw[eU];rfl];refine .agg (C:=[.int .i64 0,.int .i64 0,.slice none 0 0,.slice a m k]) rfl (by simp[bD]) fun i u c hu hc=>?_
           match i,hu,hc with
           | 0,hu,hc=>cases hu;cases hc;exact .lit rfl
           | 1,hu,hc=>cases hu;cases hc;exact .lit rfl
           | 2,hu,hc=>cases hu;cases hc;exact .row (.row (C:=[]) rfl (akk _) (by simp) (Row.nil _ _) (fun h=>absurd rfl h) (by simp) (by simp) (by simp))
           | 3,hu,hc=>cases hu;cases hc;cases rc with | row h=>exact .row h
 · obtain ⟨hnb,Im',hIm,hR⟩:=h
   refine⟨hnb,Im',fun b hb=>⟨(hIm b hb).1,(hIm b hb).2.1,by have:=(hIm b hb).2.2;omega⟩,hR.mono ⟨alk _,fun _ h=>h,fun b hb=>hk b (hIm b hb).1 (hIm b hb).2.1 (hIm b hb).2.2⟩⟩
 · refine callsIn_wide.2 ?_
   obtain ⟨hnb,Im',hIm,hR⟩:=h;obtain ⟨o1,o2,o3,o4⟩:=Mq (i:=i) hs zo;have sp:=KN (s:=s) (x:=mc s i) zo o1 o2 o3 o4;refine Calls.mono (sp.2 [] Im' W [.agg (oN x),.int .i64 s] (Sm fun b hb=>(hIm b hb).2.2) (.cons hR (.cons (.lit rfl) .nil))) ?_;rintro e w' ⟨v,rfl,u,σ',μ',Im2,r',st,-,hv,rfl,rfl⟩;obtain ⟨q1,q2,q3⟩:=X9 st.ext;obtain ⟨y,rfl,hy⟩:=plY hv;refine⟨y,rfl,⟨q1,q2,q3⟩,hnb,Im2,fun b hb=>?_,hy⟩;rcases st.fresh b hb with h | h | h
   · exact⟨(hIm b h).1,(hIm b h).2.1,(r'.im b hb).1⟩
   · simp[live] at h
   · exact⟨by omega,by omega,(r'.im b hb).1⟩
theorem x8 (L:List Bool):∀K p,p≤L.length→(jf L K p).2.2.1≤L.length
 | 0,p,h=>by rw[qF];exact h
 | K+1,p,h=>by
   rw[qT]
   split
   · split
     · exact x8 L K (p+1) zo
     · show p+1≤L.length;omega
   · exact akk _
theorem HO {L:List Bool} {p K:Nat} {k:Int} (hL:L.length≤1048576) (hp:p≤L.length) (hk:max 0 k=(K:Int)) (hK:K<9223372036854775807):aA Tryz.prog 158 [.ref 0 0 0 0,.I k] [some (bm L p true)]
 (.tup [.lit (.bool (decide (K=0))),.I (if K=0 then 0 else 8)]) [some (bm L p true)]:=by
 refine zF pl Tryz.call158 Tryz.func158 [.tmp 4,.tmp 5] fun Q hQ=>?_
 simp(maxSteps:=1000000) (disch:=(first | omega | (simp only[cS,aki,akj,true_and,and_true];(try omega);done) | fail)) only[go_sem,hk,Int.reduceEq,Int.reduceToNat,Nat.reduceAdd,Nat.reduceMul,Nat.reduceEqDiff, ↓reduceIte]
 refine aU (X:=Unit) (st:=fun i=>([(0,.ref 0 0 0 0),(9,.I K),(10,.I 0)],[some (bm L p true)]))
  (inv:=fun i=>True) (m:=fun i=>0) () [some 0] trivial ?_
 rintro ⟨⟩-
 by_cases hiK:0<K
 · rw[akg zo,if_neg zo] at hQ
   refine ae ?_;refine zW [some 0] [] (gJ (L:=L) (p:=p) (d:=true) hL (.inl rfl)) ?_;exact ai [some 0] hQ
 · obtain rfl:K=0:=by omega
   rw[aks rfl,if_pos rfl] at hQ;exact zE [some 0] hQ
theorem wH {L:List Bool} {p K:Nat} {k:Int} {d:Bool} (hL:L.length≤1048576) (hp:p≤L.length) (hk:max 0 k=(K:Int)) (hK:K<9223372036854775807):∃(b:Bool) (e:Int) (q:Nat) (d':Bool),q≤L.length∧
 aA Tryz.prog 158 [.ref 0 0 0 0,.I k] [some (bm L p d)] (.tup [.lit (.bool b),.I e]) [some (bm L q d')]:=by
 cases d with
 | false=>exact⟨_,_,_,_,x8 L K p hp,Ou hL hp hk hK⟩
 | true=>exact⟨_,_,_,_,hp,HO hL hp hk hK⟩
theorem Dc {L:List Bool} {P D:Nat} (h1:¬(D=0∨D<P)):∀K p,p≤L.length→(yH L P D K p).2.2.1≤L.length
 | 0,p,h=>h
 | K+1,p,h=>by
   rw[uj];rcases ru (L:=L) (p:=p) h1 h with e | ⟨b,q,e,_,h2⟩
   · rw[e];exact akk _
   · rw[e]
     cases b with
     | true=>exact Dc h1 K q h2
     | false=>exact h2
theorem F8 {L:List Bool} {P D p K:Nat} {k:Int} (hL:L.length≤1048576) (hp:p≤L.length) (h1:¬(D=0∨D<P)) (hPD:P≠D) (h0:P≠0) (hP:(wg P).length≤500000) (hD1:(wg D).length≤500000) (hk:max 0 k=(K:Int)) (hK:K<9223372036854775807):aA Tryz.prog 238 [.ref 0 0 0 0,NV P,NV D,.I k] [some (bm L p true)]
 (.tup [.lit (.bool (decide (K=0))),.I (if K=0 then 0 else 8)]) [some (bm L p true)]:=by
 have hr:=vA (L:=L) (P:=P) (D:=D) (p:=p) hL h1 hPD hP hD1;rw[if_neg h0] at hr;refine zF pl Tryz.call238 Tryz.func238 [.tmp 8,.tmp 9] fun Q hQ=>?_;refine ae ?_;refine aC (ql (P:=P) (D:=D) zo zo) rfl rfl ?_;rw[aks h1]
 simp(maxSteps:=1000000) (disch:=(first | omega | (simp only[cS,aki,akj,true_and,and_true];(try omega);done) | fail)) only[go_sem,hk,Int.reduceEq,Int.reduceToNat,Nat.reduceAdd,Nat.reduceMul,Nat.reduceEqDiff, ↓reduceIte]
 refine aU (X:=Unit) (st:=fun z=>([(0,.ref 0 0 0 0),(5,.ref 1 0 0 0),(6,.ref 2 0 0 0),(17,.I K),(18,.I 0)],[some (bm L p true),some (.cells [.row 1 ((nl (wg P)).map (ie .u64))]),some (.cells [.row 1 ((nl (wg D)).map (ie .u64))])]))
  (inv:=fun z=>True) (m:=fun z=>0) () [some 0,some 1,some 2] trivial ?_
 rintro ⟨⟩-
 by_cases hiK:0<K
 · rw[akg zo,if_neg zo] at hQ
   refine ae ?_;refine zW [some 0] [] hr ?_;exact ai [some 0] hQ
 · obtain rfl:K=0:=by omega
   rw[aks rfl,if_pos rfl] at hQ;exact zE [some 0] hQ
theorem Lg {L:List Bool} {P p K:Nat} {k:Int} {d:Bool} (hL:L.length≤1048576) (hp:p≤L.length) (hP:P≠0) (hP2:P≤100) (hk:max 0 k=(K:Int)) (hK:K<9223372036854775807):∃(b:Bool) (e:Int) (q:Nat) (d':Bool),q≤L.length∧
 aA Tryz.prog 238 [.ref 0 0 0 0,NV P,NV (P+1),.I k] [some (bm L p d)] (.tup [.lit (.bool b),.I e]) [some (bm L q d')]:=by
 have w1:(wg P).length≤500000:=by have:=rS (n:=P) (k:=1) zo;omega
 have w2:(wg (P+1)).length≤500000:=by have:=rS (n:=P+1) (k:=1) zo;omega
 have h1:¬(P+1=0∨P+1<P):=by omega
 cases d with
 | false=>
   refine⟨_,_,_,_,?_,Ip (P:=P) (D:=P+1) hL hp w1 w2 hk hK⟩;unfold Fi;rw[if_neg h1];exact Dc h1 K p hp
 | true=>exact⟨_,_,_,_,hp,F8 (P:=P) (D:=P+1) hL hp h1 zo hP w1 w2 hk hK⟩
theorem Fm {a k:Int} (ha:1≤a) (ha2:a≤4096) (hk:0≤k) (hk2:k≤1023):aA Tryz.prog 236 [.I a,.row 1 [[.I k]]] [] (.I 0) []:=by
 have g:=xK (a:=a);rw[aks ⟨ha,ha2⟩] at g;refine zF pl Tryz.call236 Tryz.func236 [.tmp 4] fun Q hQ=>?_;refine ae ?_;refine zC g ?_;refine aU (X:=Nat) (st:=fun i=>([(10,.row 1 [[.I k]]),(11,.I 1),(12,.I i)],[])) (inv:=fun i=>i=0∨i=1) (m:=fun i=>1-i) 0 [] (.inl rfl) ?_;rintro i (rfl | rfl)
 · refine ae ?_
   refine aR 1 [] (.inr rfl) zo
 · refine ae ?_
   exact ai [] hQ
theorem EG {L:List Bool} {p a K:Nat} {d:Bool} (hL:L.length≤1048576) (hp:p≤L.length) (ha:1≤a) (ha2:a≤100) (hK:K≤1023):∃(b:Bool) (e:Int) (q:Nat) (d':Bool),q≤L.length∧
 aA Tryz.prog 237 [.ref 0 0 0 0,.I a,.I K] [some (bm L p d)] (.tup [.lit (.bool b),.I e]) [some (bm L q d')]:=by
 obtain ⟨b,e,q,d',hq,h⟩:=Lg (P:=a) (k:=(K:Int)) (K:=K) (d:=d) hL hp zo ha2 zo zo;refine⟨b,e,q,d',hq,?_⟩;have o1:=eI (x:=a) zo;have o2:=eI (x:=a+1) zo;have w1:IntKind.u64.wrap (a:Int)=(a:Int):=wrap_u64 ⟨by omega,by omega⟩;have w2:IntKind.u64.wrap ((a:Int)+1)=((a+1:Nat):Int):=by rw[wrap_u64 ⟨by omega,by omega⟩];omega
 refine zF pl Tryz.call237 Tryz.func237 [.tmp 6,.tmp 7] fun Q hQ=>?_
 simp(maxSteps:=1000000) (disch:=(first | omega | (simp only[cS,aki,akj,true_and,and_true];(try omega);done) | fail)) only[go_sem,w1,w2,Int.reduceEq,Int.reduceToNat,Nat.reduceAdd,Nat.reduceMul,Nat.reduceEqDiff, ↓reduceIte]
 refine aF [] [1] (o1) ?_
 simp(maxSteps:=1000000) (disch:=(first | omega | (simp only[cS,aki,akj,true_and,and_true];(try omega);done) | fail)) only[go_sem,w1,w2,Int.reduceEq,Int.reduceToNat,Nat.reduceAdd,Nat.reduceMul,Nat.reduceEqDiff, ↓reduceIte]
 refine aF [] [2] (o2) ?_
 simp(maxSteps:=1000000) (disch:=(first | omega | (simp only[cS,aki,akj,true_and,and_true];(try omega);done) | fail)) only[go_sem,w1,w2,Int.reduceEq,Int.reduceToNat,Nat.reduceAdd,Nat.reduceMul,Nat.reduceEqDiff, ↓reduceIte]
 refine zW [some 0] [] h ?_;exact ai [some 0] hQ
theorem Hk {L:List Bool} {p a K:Nat} {d:Bool} (hL:L.length≤1048576) (hp:p≤L.length) (ha:1≤a) (ha2:a≤100) (hK:K≤1023):∃(b:Bool) (e:Int) (q:Nat) (d':Bool),q≤L.length∧
 aA Tryz.prog 235 [.ref 0 0 0 0,.I a,.I K] [some (bm L p d)] (.tup [.lit (.bool b),.I e]) [some (bm L q d')]:=by
 obtain ⟨b,e,q,d',hq,h⟩:=EG (d:=d) hL hp ha ha2 hK;refine⟨b,e,q,d',hq,?_⟩;have g:=Fm (a:=(a:Int)) (k:=(K:Int)) zo zo zo zo;refine zF pl Tryz.call235 Tryz.func235 [.tmp 6,.tmp 7] fun Q hQ=>?_;refine ae ?_;refine zW [] [1] g ?_;refine zW [some 0] [] h ?_;exact ai [some 0] hQ
theorem Gv {a:Nat} (ha:a≤8):aA Tryz.prog 245 [.I a] [] (.lit (.bool true)) []:=by
 refine zF pl Tryz.call245 Tryz.func245 [.tmp 2] fun Q hQ=>?_;exact zE [] hQ
theorem Gw {a:Nat} {k:Int} (ha:a≤8) (hk:0≤k) (hk2:k≤1023):aA Tryz.prog 247 [.I a,.row 1 [[.I k]]] [] (.I 0) []:=by
 have g:=Gv ha;refine zF pl Tryz.call247 Tryz.func247 [.tmp 4] fun Q hQ=>?_;refine ae ?_;refine zC g ?_;refine aU (X:=Nat) (st:=fun i=>([(10,.row 1 [[.I k]]),(11,.I 1),(12,.I i)],[])) (inv:=fun i=>i=0∨i=1) (m:=fun i=>1-i) 0 [] (.inl rfl) ?_;rintro i (rfl | rfl)
 · refine ae ?_
   refine aR 1 [] (.inr rfl) zo
 · refine ae ?_
   exact ai [] hQ
theorem Ek {a K:Nat} (ha:a≤8) (hK:K≤1023):∃v:Int,aA Tryz.prog 248 [.I a,.I K] [] (.tup [.I ((K/2^a:Nat):Int),.I v]) []:=by
 refine⟨bS BinOp.and IntKind.i64 (K:Int) (IntKind.i64.wrap (IntKind.i64.wrap (1*2^a)-1)),?_⟩;rw[show((K/2^a:Nat):Int)=(K:Int)/2^a by simp];refine zF P5 Tryz.call248 Tryz.func248 [.tmp 4,.tmp 5] fun Q hQ=>?_;exact zE [] hQ
theorem I8 {L:List Bool} {p a K:Nat} {d:Bool} (hL:L.length≤1048576) (hp:p≤L.length) (ha:a≤8) (hK:K≤1023):∃(b:Bool) (e:Int) (q:Nat) (d':Bool),q≤L.length∧
 aA Tryz.prog 246 [.ref 0 0 0 0,.I a,.I K] [some (bm L p d)] (.tup [.lit (.bool b),.I e]) [some (bm L q d')]:=by
 have hle:K/2^a≤K:=alq _ _;obtain ⟨v,hv⟩:=Ek ha hK;generalize K/2^a=u at*
 obtain ⟨b,e,q,d',hq,h⟩:=wH (k:=(u:Int)) (K:=u) (d:=d) hL hp zo zo;refine⟨b,e,q,d',hq,?_⟩;have g:=Gw (k:=(K:Int)) ha zo zo;refine zF pl Tryz.call246 Tryz.func246 [.tmp 6,.tmp 7] fun Q hQ=>?_;refine ae ?_;refine zW [] [1] g ?_;refine zC hv ?_;refine zW [some 0] [] h ?_;exact ai [some 0] hQ
theorem NB {s:Nat} (hs:s=1∨s=2):∀K,K≤15→(mc s K).2.1≤1000:=by rcases hs with rfl | rfl<;>decide
theorem Hm {L:List Bool} {p s K:Nat} {d:Bool} (hL:L.length≤1048576) (hp:p≤L.length) (hs:s=1∨s=2) (hK:K≤15):∃(b:Bool) (e:Int) (q:Nat) (d':Bool),q≤L.length∧
 aA Tryz.prog 256 [.ref 0 0 0 0,.I s,.I K] [some (bm L p d)] (.tup [.lit (.bool b),.I e]) [some (bm L q d')]:=by
 have hsh:=NB hs K hK;have y:=SF hs hK;generalize mc s K=z at*
 obtain ⟨x1,x2,x3,x4⟩:=z;dsimp only at hsh;obtain ⟨b,e,q,d',hq,h⟩:=wH (k:=(x2:Int)) (K:=x2) (d:=d) hL hp zo zo;refine⟨b,e,q,d',hq,?_⟩;refine zF pl Tryz.call256 Tryz.func256 [.tmp 6,.tmp 7] fun Q hQ=>?_;refine ae ?_;refine zC y ?_;refine zW [some 0] [] h ?_;exact ai [some 0] hQ
def kV (k a:Nat):V:=if k=1 then .lit (.iface 257 (.int .i64 a)) else if k=2 then .lit (.iface 258 (.int .i64 a)) else .lit (.iface 259 (.int .i64 a))
theorem FT {L:List Bool} {p a K:Nat} {d:Bool} (hL:L.length≤1048576) (hp:p≤L.length) (ha:1≤a) (ha2:a≤100) (hK:K≤1023):∃(b:Bool) (e:Int) (q:Nat) (d':Bool),q≤L.length∧
 aA Tryz.prog 232 [.I a,.ref 0 0 0 0,.I K] [some (bm L p d)] (.tup [.lit (.bool b),.I e]) [some (bm L q d')]:=by
 obtain ⟨b,e,q,d',hq,h⟩:=Hk (d:=d) hL hp ha ha2 hK;refine⟨b,e,q,d',hq,?_⟩;refine zF pl Tryz.call232 Tryz.func232 [.tmp 6,.tmp 7] fun Q hQ=>?_;refine ae ?_;refine zW [some 0] [] h ?_;exact ai [some 0] hQ
theorem FF {L:List Bool} {p a K:Nat} {d:Bool} (hL:L.length≤1048576) (hp:p≤L.length) (ha:a≤8) (hK:K≤1023):∃(b:Bool) (e:Int) (q:Nat) (d':Bool),q≤L.length∧
 aA Tryz.prog 243 [.I a,.ref 0 0 0 0,.I K] [some (bm L p d)] (.tup [.lit (.bool b),.I e]) [some (bm L q d')]:=by
 obtain ⟨b,e,q,d',hq,h⟩:=I8 (d:=d) hL hp ha hK;refine⟨b,e,q,d',hq,?_⟩;refine zF pl Tryz.call243 Tryz.func243 [.tmp 6,.tmp 7] fun Q hQ=>?_;refine ae ?_;refine zW [some 0] [] h ?_;exact ai [some 0] hQ
theorem Gz {L:List Bool} {p a K:Nat} {d:Bool} (hL:L.length≤1048576) (hp:p≤L.length) (ha:a=1∨a=2) (hK:K≤15):∃(b:Bool) (e:Int) (q:Nat) (d':Bool),q≤L.length∧
 aA Tryz.prog 253 [.I a,.ref 0 0 0 0,.I K] [some (bm L p d)] (.tup [.lit (.bool b),.I e]) [some (bm L q d')]:=by
 obtain ⟨b,e,q,d',hq,h⟩:=Hm (d:=d) hL hp ha hK;refine⟨b,e,q,d',hq,?_⟩;refine zF pl Tryz.call253 Tryz.func253 [.tmp 6,.tmp 7] fun Q hQ=>?_;refine ae ?_;refine zW [some 0] [] h ?_;exact ai [some 0] hQ
def oK (k a w:Nat):Prop:=(k=1∧1≤a∧a≤4∨k=2∧a≤1∨k=3∧1≤a∧a≤2)∧1≤w∧w≤4
theorem gH {k a w:Nat} (h:oK k a w):aX k a w∧k≠4:=by
 obtain ⟨h,h1,h2⟩:=h;refine⟨?_,by omega⟩;unfold aX;rcases h with⟨rfl,h3,h4⟩ | ⟨rfl,h4⟩ | ⟨rfl,h3,h4⟩
 · refine .inl ⟨rfl,h3,by omega,h1,by omega,?_⟩
   have b1:=bI (n:=a+1) (k:=3) zo;have b2:2^w≤2^4:=ako zd h2;have b3:2^w-1≤15:=by omega
   exact akE (akH b1 b3) zd
 · exact .inr (.inl ⟨rfl,by omega,h1,by omega⟩)
 · exact .inr (.inr (.inl ⟨rfl,h3,by omega,h1,by omega⟩))
theorem ME {L:List Bool} {p k a w K:Nat} {d:Bool} (hL:L.length≤1048576) (hp:p≤L.length) (hs:oK k a w) (hK:K≤15):∃(b:Bool) (e:Int) (q:Nat) (d':Bool),q≤L.length∧
 aA Tryz.prog 127 [.I K,.ref 0 0 0 0,.ref 1 0 0 0] [some (.cells [kV k a]),some (.cells [.ref 2 0 0 0]),some (bm L p d)] (.tup [.lit (.bool b),.I e]) [some (.cells [kV k a]),some (.cells [.ref 2 0 0 0]),some (bm L q d')]:=by
 obtain ⟨hs,-,-⟩:=hs;rcases hs with⟨rfl,h3,h4⟩ | ⟨rfl,h4⟩ | ⟨rfl,h3,h4⟩
 · obtain ⟨b,e,q,d',hq,h⟩:=FT (d:=d) (K:=K) (a:=a) hL hp h3 zo zo
   refine⟨b,e,q,d',hq,?_⟩;have hk:kV 1 a=.lit (.iface 257 (.int .i64 a)):=rfl;rw[hk];refine zF pl Tryz.call127 Tryz.func127 [.tmp 4,.tmp 5] fun Q hQ=>?_;refine ae ?_;refine zW [some 2] [] h ?_;exact ai [some 0,some 1,some 2] hQ
 · obtain ⟨b,e,q,d',hq,h⟩:=FF (d:=d) (K:=K) (a:=a) hL hp zo zo
   refine⟨b,e,q,d',hq,?_⟩;have hk:kV 2 a=.lit (.iface 258 (.int .i64 a)):=rfl;rw[hk];refine zF pl Tryz.call127 Tryz.func127 [.tmp 4,.tmp 5] fun Q hQ=>?_;refine ae ?_;refine zW [some 2] [] h ?_;exact ai [some 0,some 1,some 2] hQ
 · obtain ⟨b,e,q,d',hq,h⟩:=Gz (d:=d) (K:=K) (a:=a) hL hp zo hK
   refine⟨b,e,q,d',hq,?_⟩;have hk:kV 3 a=.lit (.iface 259 (.int .i64 a)):=rfl;rw[hk];refine zF pl Tryz.call127 Tryz.func127 [.tmp 4,.tmp 5] fun Q hQ=>?_;refine ae ?_;refine zW [some 2] [] h ?_;exact ai [some 0,some 1,some 2] hQ
theorem dY {n m:Int}:aA Tryz.prog 81 [.I n,.I m] [] (.lit (.bool (decide (1≤n∧n≤m)))) []:=by
 refine zF pl Tryz.call81 Tryz.func81 [.tmp 4] fun Q hQ=>?_
 by_cases h1:1≤n
 · by_cases h2:n≤m
   · rw[aks (show 1≤n∧n≤m from⟨h1,h2⟩)] at hQ
     exact zE [] hQ
   · rw[akg (fun h:1≤n∧n≤m=>h2 h.2)] at hQ
     exact zE [] hQ
 · rw[akg (fun h:1≤n∧n≤m=>h1 h.1)] at hQ
   exact zE [] hQ
def mj (M D S:Int):Prop:=(1≤M∧M≤16)∧(1≤D∧D≤4)∧1≤S∧S≤8
theorem vt {M D S:Int} (h:mj M D S):aA Tryz.prog 80 [.agg [.I M,.I D,.I S]] [] (.I 0) []:=by
 obtain ⟨h1,h2,h3⟩:=h;have w1:=dY (n:=M) (m:=16);have w2:=dY (n:=D) (m:=4);have w3:=dY (n:=S) (m:=8);rw[aks h1] at w1;rw[aks h2] at w2;rw[aks h3] at w3;refine zF pl Tryz.call80 Tryz.func80 [.tmp 2] fun Q hQ=>?_;refine ae ?_;refine zC w1 ?_;refine zC w2 ?_;refine zC w3 ?_;exact ai [] hQ
theorem BO {M D S:Int} (h:¬mj M D S):aA Tryz.prog 80 [.agg [.I M,.I D,.I S]] [] (.I 10) []:=by
 have w1:=dY (n:=M) (m:=16);have w2:=dY (n:=D) (m:=4);have w3:=dY (n:=S) (m:=8);refine zF pl Tryz.call80 Tryz.func80 [.tmp 2] fun Q hQ=>?_
 by_cases h1:1≤M∧M≤16
 · rw[aks h1] at w1
   by_cases h2:1≤D∧D≤4
   · rw[aks h2] at w2
     rw[akg (fun h3=>h ⟨h1,h2,h3⟩)] at w3;refine ae ?_;refine zC w1 ?_;refine zC w2 ?_;refine zC w3 ?_;exact ai [] hQ
   · rw[akg h2] at w2
     refine ae ?_;refine zC w1 ?_;refine zC w2 ?_;exact ai [] hQ
 · rw[akg h1] at w1
   refine ae ?_;refine zC w1 ?_;exact ai [] hQ
def cV (c:Cell):List PV:=[.I c.1,.I c.2]
def cA (c:Cell):V:=.agg [.I c.1,.I c.2]
def pA (M D S:Nat):V:=.agg [.I M,.I D,.I S]
def zG (M D S:Nat) (st:SS):Ob:=.cells [.I M,.I D,.I S,.row 2 (st.1.map cV),.I st.2.1,.lit (.bool st.2.2)]
def Km (M D S:Nat) (st:SS):V:=.rref 6 [[.I M,.I D,.I S,.row 2 (st.1.map cV),.I st.2.1,.lit (.bool st.2.2)]] 0 0
def Ly (M D S o n:Nat) (s:Nat) (f:Bool):Ob:=.cells [.I M,.I D,.I S,.sl o 2 0 n,.I s,.lit (.bool f)]
attribute [go_sem] cA pA zG Km Ly
@[go_sem] theorem ZG {c:Cell}:cV c=[.I c.1,.I c.2]:=(rfl)
theorem getD_some {α:Type} [Inhabited α] {l:List α} {i:Nat} {x:α} (h:l[i]? =some x):l.getD i default=x:=by rw[akf,h];rfl
@[go_sem] theorem ahh {X:List Cell} {z:Nat}:NG (.row z (X.map cV))=True:=eq_true fun e he p hp=>by
 obtain ⟨x,_,rfl⟩:=alb.1 he;rw[ZG] at hp;simp only[aky,ak6,or_false] at hp;rcases hp with rfl | rfl<;>rfl
theorem IG {M D S n:Int} (h:¬(mj M D S∧1≤n∧n≤256)):aA Tryz.prog 26 [.agg [.I M,.I D,.I S],.I n] [] (.tup [.lit (.pointer none),.I 10]) []:=by
 refine zF Ra Tryz.call26 Tryz.func26 [.tmp 4,.tmp 5] fun Q hQ=>?_
 by_cases h1:mj M D S
 · have hc:=vt h1
   have w:=dY (n:=n) (m:=256);rw[akg (fun e=>h ⟨h1,e⟩)] at w;refine ae ?_;refine zC hc ?_;refine zC w ?_;exact ai [] hQ
 · have hc:=BO h1
   refine ae ?_;refine zC hc ?_;exact ai [] hQ
theorem L6 {M D S:Nat} {st:SS} (h:st.1.length≤256):aA Tryz.prog 30 [Km M D S st] [] (.I st.1.length) []:=by
 refine zF pl Tryz.call30 Tryz.func30 [.tmp 2] fun Q hQ=>?_;exact zE [] hQ
theorem Mp {M D S:Nat} {st:SS} {i:Nat} {c:Cell} (hi:st.1[i]? =some c) (hX:st.1.length≤256):aA Tryz.prog 72 [Km M D S st,.I i] [] (.tup [cA c,.I 0]) []:=by
 obtain ⟨hl,hx⟩:=ali.1 hi;have e:=getD_some hi;refine zF pl Tryz.call72 Tryz.func72 [.cell 4 151,.tmp 5] fun Q hQ=>?_;refine bg e ?_;exact ai [] hQ
theorem uw {c:Cell} {s:Nat} (hc:c.1<9223372036854775808) (hs:s*c.2≤8192):aA Tryz.prog 173 [cA c,.I s] [] (NV (iN c s)) []:=by
 have o:=eI (x:=c.1) zo;have sh:=vU (v:=c.1) (N:=s*c.2) hs (akE (di zo) zd);have e:(s:Int)*(c.2:Int)=((s*c.2:Nat):Int):=by simp
 rw[show c.1*2^(s*c.2)=iN c s from rfl] at sh;generalize iN c s=w at*
 generalize s*c.2=k at*
 refine zF PO Tryz.call173 Tryz.func173 [.cell 4 157] fun Q hQ=>?_;refine bg e ?_;refine aF [] [2] (o) ?_;refine bg e ?_;refine zC sh ?_;exact ai [] hQ
theorem Jw {k:Nat} (h:k<63):IntKind.i64.wrap (1*2^k)=((2^k:Nat):Int):=by
 have h1:2^k≤2^62:=ako zd zo;have h2:(1*2^k:Int)=((2^k:Nat):Int):=by simp
 rw[h2];generalize 2^k=x at*
 have:(x:Int)<9223372036854775808:=by omega
 exact E4
theorem tn {M D S:Nat} (hM:M≤16) (hD:D≤4):aA Tryz.prog 137 [pA M D S] [] (.tup [.I ((2^M-1:Nat):Int),.I ((2^D-1:Nat):Int)]) []:=by
 have h1:=Jw (k:=M) zo;have h2:=Jw (k:=D) zo;have p1:1≤2^M:=akN zd;have p2:1≤2^D:=akN zd;have q1:2^M≤2^16:=ako zd hM;have q2:2^D≤2^4:=ako zd hD;have e1:((2^M:Nat):Int)-1=((2^M-1:Nat):Int):=by omega
 have e2:((2^D:Nat):Int)-1=((2^D-1:Nat):Int):=by omega
 refine zF OX Tryz.call137 Tryz.func137 [.tmp 2,.tmp 3] fun Q hQ=>?_;refine LM h1 h2 e1 e2 ?_;exact ai [] hQ
def W3 (M D S n:Nat) (cs:List Cell) (s:Nat) (f:Bool) (L:List Bool) (p:Nat) (d:Bool):St:=[some (Ly M D S 2 n s f),some (bm L p d),some (.row 2 (cs.map cV))]
attribute [go_sem] W3
theorem Rk {cs:List Cell} {i:Nat} {c:Cell}:(cs.map cV).set i [.I c.1,.I c.2]=(cs.set i c).map cV:=by rw[amD];rfl
theorem DQ {M D S:Nat} {cs:List Cell} {s i:Nat} {f:Bool} {c:Cell} (hi:i<cs.length) (hX:cs.length≤256):aA Tryz.prog 140 [.ref 0 0 0 0,.I i,cA c]
 [some (Ly M D S 1 cs.length s f),some (.row 2 (cs.map cV))] (.tup []) [some (Ly M D S 1 cs.length s f),some (.row 2 ((cs.set i (gS c)).map cV))]:=by
 have e:=Rk (cs:=cs) (i:=i) (c:=gS c);unfold gS at e ⊢;refine zF O5 Tryz.call140 Tryz.func140 [] fun Q hQ=>?_
 by_cases h0:c.1=0
 · rw[if_pos h0] at hQ e
   rw[←e] at hQ;dsimp only at hQ;exact zE [some 0,some 1] hQ
 · rw[if_neg h0] at hQ e
   rw[←e] at hQ;exact zE [some 0,some 1] hQ
theorem JJ {M D S n:Nat} {cs:List Cell} {s p:Nat} {f d:Bool} {L:List Bool} {c:Cell} (hL:L.length≤1048576) (hp:p≤L.length) (hd:d=true→p=L.length) (hc:c.1≤1099511627776) (hm:c.2≤1000) (hs:s≤40):
 aA Tryz.prog 138 [.ref 0 0 0 0,.ref 1 0 0 0,cA c] (W3 M D S n cs s f L p d)
 (.tup [cA ((gL L d c.1 s p).1,c.2+1),.I (gL L d c.1 s p).2.1]) (W3 M D S n cs s f L (gL L d c.1 s p).2.2.1 (gL L d c.1 s p).2.2.2):=by
 have o:=eI (x:=c.1) zo;have r:=pz (L:=L) (n:=c.1) (k:=s) (p:=p) (d:=d) hL hp hd hc hs;generalize gL L d c.1 s p=x at*
 refine zF PH Tryz.call138 Tryz.func138 [.cell 6 151,.tmp 7] fun Q hQ=>?_;refine ae ?_;refine zW [] [5] o ?_;refine zW [some 1] [] r ?_;exact ai [some 0,some 1,some 2] hQ
end Go.Proofs.YtcnlmelpnflhnaaGreat
