import Derived.Test.YtcnlmelpnflhnaaGreatBb
import Derived.Test.YtcnlmelpnflhnaaGreatBa
namespace Go.Proofs.YtcnlmelpnflhnaaGreat
open Go.Eng Go.Vx
set_option linter.unusedSimpArgs false
set_option linter.unusedVariables false
set_option maxRecDepth 100000
def kU (s:Nat):Nat→PL
 | 0=>(0,0,0,4^s)
 | i+1=>plN s (kU s i)
theorem IB {s i:Nat} (hs:s=1∨s=2) (hi:i≤16):(kU s i).1<100000∧(kU s i).2.1≤30∧(kU s i).2.2.1<4294967296∧(kU s i).2.2.2<4294967296:=by
 have key:∀s∈[1,2],∀i∈List.range 17,(kU s i).1<100000∧(kU s i).2.1≤30∧(kU s i).2.2.1<4294967296∧(kU s i).2.2.2<4294967296:=by decide+kernel
 exact key s (by simp;omega) i (aio.2 zo)
def RpY (n s bp i:Nat) (W:World) (x:Pv):Prop:=n≤bp∧∃Im:Nat→Prop,(∀b,Im b→n≤b∧b≠bp∧b<W.heap.size)∧RepV W Im [] (HW (kU s i)) (.agg (nh x))
theorem acL {w:World} {Im:Nat→Prop}:pQ w Im:=fun e he=>by cases he
theorem N3 {w:World} {Im:Nat→Prop} (h:∀b,Im b→b<w.heap.size):Rel [] Im [] w:=⟨rfl,fun o ob h=>by simp at h,fun o o' ob ob' b n n' h=>by simp at h,fun b hb=>⟨h b hb,by simp[live]⟩,acL⟩
theorem Nh {w:World} {Im:Nat→Prop} {μ:Mu} {l:List (List PV)} {c:Value} (h:RepV w Im μ (.row 1 l) c):∃a n k,c=.slice a n k:=by
 cases h with
 | row h=>cases h;exact⟨_,_,_,rfl⟩
theorem IT {w:World} {Im:Nat→Prop} {μ:Mu} {x:Value} {c:Value} (h:RepV w Im μ (.lit x) c):c=x:=by
 cases h;rfl
theorem plY {w:World} {Im:Nat→Prop} {μ:Mu} {p:PL} {v:Value} (h:RepV w Im μ (HW p) v):∃x:Pv,v=.agg (nh x)∧RepV w Im [] (HW p) v:=by
 unfold HW at h ⊢
 cases h with
 | @agg l C hn ho hr=>
   match C,hn with
   | [a,b,c,d],_=>
     obtain rfl:=IT (hr 0 _ _ rfl rfl);obtain rfl:=IT (hr 1 _ _ rfl rfl);have r2:=hr 2 _ _ rfl rfl;have r3:=hr 3 _ _ rfl rfl;obtain ⟨a2,n2,k2,rfl⟩:=Nh r2;obtain ⟨a3,n3,k3,rfl⟩:=Nh r3;refine⟨((p.1,p.2.1),(a2,n2,k2),(a3,n3,k3)),rfl,.agg rfl (by simp[bj]) fun i u c hu hc=>?_⟩
     match i,hu,hc with
     | 0,hu,hc=>cases hu;cases hc;exact .lit rfl
     | 1,hu,hc=>cases hu;cases hc;exact .lit rfl
     | 2,hu,hc=>cases hu;cases hc;cases r2 with | row h=>exact .row h
     | 3,hu,hc=>cases hu;cases hc;cases r3 with | row h=>exact .row h
theorem TU {w w':World} (h:Ext (live [] []) w w'):bV w w'∧w.heap.size≤w'.heap.size∧∀b,b<w.heap.size→w'.heap[b]? =w.heap[b]? :=
 ⟨⟨h.os,h.tape,h.output⟩,h.size,fun b hb=>h.block b hb (by simp[live])⟩
theorem Oo {s K:Nat} (hs:s=1∨s=2) (hK:K≤15):aC Tryz.prog 257 [.lit (.int .i64 (s:Int)),.lit (.int .i64 (K:Int))] [] (.tup [HW (kU s K),.lit (.int .i64 0)]) []:=by
 refine⟨Tryz.call257,fun μ Im w args r hl=>?_⟩;obtain ⟨a,l1,rfl,ha,hl⟩:=hl.uncons;obtain ⟨b,l2,rfl,hb,hl⟩:=hl.uncons
 have:l2=[]:=agD.1 (by simpa using hl.1)
 subst this;obtain rfl:=IT ha;obtain rfl:=IT hb;have hμ:μ=[]:=agD.1 (by rw[r.len];rfl);subst hμ;have main:=Wc (K:=K) (s:=(s:Int)) (c:=((4^s:Nat):Int)) (by rcases hs with rfl | rfl;exact .inl ⟨rfl,rfl⟩;exact .inr ⟨rfl,rfl⟩) hK w (RpY (w.heap.size+6) s) (fun W b n hc hb=>?_) (fun bp i W W' x h hz hk=>?_) (fun bp i W x n h hi hbp=>?_)
 · refine Calls.mono (callsIn_wide.1 main) ?_
   rintro e w' ⟨bp,x,rfl,⟨-,Im',hIm,hR⟩,hrs,hz,hold⟩;have hext:Ext [] w w':=⟨hrs.1,hrs.2.1,hrs.2.2,hz,fun b hb _=>hold b hb⟩;have hmono:∀b,Im b→b<w.heap.size:=fun b hb=>(r.im b hb).1;refine⟨_,rfl,.tup [HW (kU s K),.lit (.int .i64 0)],[],[],fun b=>Im b∨Im' b,N3 fun b hb=>?_,⟨fun i hi=>(by simp at hi),fun b hb=>.inl hb,hext.mono (by simp),fun b hb=>(by simp[live] at hb),fun b hb=>?_⟩,agt _,?_,rfl,rfl⟩
   · rcases hb with hb | hb
     · have:=hmono b hb;omega
     · exact(hIm b hb).2.2
   · rcases hb with hb | hb
     · exact .inl hb
     · exact .inr (.inr (by have:=(hIm b hb).1;omega))
   · refine .tup (C:=[.agg (nh x),.int .i64 0]) rfl fun i u c hu hc=>?_
     match i,hu,hc with
     | 0,hu,hc=>cases hu;cases hc;exact hR.mono ⟨ahr _,fun _ h=>.inr h,fun _ _=>rfl⟩
     | 1,hu,hc=>cases hu;cases hc;exact .lit rfl
 · refine callsIn_wide.2 ?_
   have hb2:b<W.heap.size:=by
    unfold World.cell? at hc;rcases ahV b W.heap.size with h | h
    · exact h
    · simp[Array.getElem?_eq_none h] at hc
   have sp:=dV (x:=4^s) (by rcases hs with rfl | rfl<;>decide)
   have hrow:Row W (some ⟨b,0,none⟩) [.int .u64 ((4^s:Nat):Int)]:=⟨fun _=>rfl,fun i hi=>by
    have:i=0:=by simpa using hi
    subst this;exact hc⟩
   refine Calls.mono (sp.2 [] (fun x=>x=b) W [.slice (some ⟨b,0,none⟩) 1 1] (N3 fun x hx=>by rw[hx];exact hb2) (.cons (.row (.row (C:=[.int .u64 ((4^s:Nat):Int)]) rfl (agt _) (by simp) hrow (fun _=>rfl) rfl (by simp[bj]) fun i c p h1 h2=>?_)) .nil)) ?_
   · match i,h1,h2 with
     | 0,h1,h2=>
       cases h1
       simp at h2;subst h2;exact .lit rfl
   · rintro e w' ⟨v,rfl,u,σ',μ',Im',r',st,-,hv,rfl,rfl⟩
     obtain ⟨q1,q2,q3⟩:=TU st.ext;unfold NV at hv
     cases hv with
     | @agg l C hn ho hr=>
       match C,hn with
       | [c],_=>
         have rc:=hr 0 _ _ rfl rfl;obtain ⟨a,m,k,rfl⟩:=Nh rc;refine⟨(a,m,k),rfl,⟨q1,q2,q3⟩,by omega,Im',fun x hx=>⟨?_,Nat.ne_of_lt (r'.im x hx).1,(r'.im x hx).1⟩,?_⟩
         · rcases st.fresh x hx with h | h | h
           · rw[h];exact hb
           · simp[live] at h
           · omega
         · unfold HW
           rw[show(nl (wg (kU s 0).2.2.1)).map (ie .u64)=[] from by show(nl (wg 0)).map _=_;rw[ej];rfl];refine .agg (C:=[.int .i64 0,.int .i64 0,.slice none 0 0,.slice a m k]) rfl (by simp[bj]) fun i u c hu hc=>?_
           match i,hu,hc with
           | 0,hu,hc=>cases hu;cases hc;exact .lit rfl
           | 1,hu,hc=>cases hu;cases hc;exact .lit rfl
           | 2,hu,hc=>cases hu;cases hc;exact .row (.row (C:=[]) rfl (agt _) (by simp) (Row.nil _ _) (fun h=>absurd rfl h) (by simp) (by simp) (by simp))
           | 3,hu,hc=>cases hu;cases hc;cases rc with | row h=>exact .row h
 · obtain ⟨hnb,Im',hIm,hR⟩:=h
   refine⟨hnb,Im',fun b hb=>⟨(hIm b hb).1,(hIm b hb).2.1,by have:=(hIm b hb).2.2;omega⟩,hR.mono ⟨ahr _,fun _ h=>h,fun b hb=>hk b (hIm b hb).1 (hIm b hb).2.1 (hIm b hb).2.2⟩⟩
 · refine callsIn_wide.2 ?_
   obtain ⟨hnb,Im',hIm,hR⟩:=h;obtain ⟨o1,o2,o3,o4⟩:=IB (i:=i) hs zo;have sp:=Hi (s:=s) (x:=kU s i) zo o1 o2 o3 o4;refine Calls.mono (sp.2 [] Im' W [.agg (nh x),.int .i64 (s:Int)] (N3 fun b hb=>(hIm b hb).2.2) (.cons hR (.cons (.lit rfl) .nil))) ?_;rintro e w' ⟨v,rfl,u,σ',μ',Im2,r',st,-,hv,rfl,rfl⟩;obtain ⟨q1,q2,q3⟩:=TU st.ext;obtain ⟨y,rfl,hy⟩:=plY hv;refine⟨y,rfl,⟨q1,q2,q3⟩,hnb,Im2,fun b hb=>?_,hy⟩;rcases st.fresh b hb with h | h | h
   · exact⟨(hIm b h).1,(hIm b h).2.1,(r'.im b hb).1⟩
   · simp[live] at h
   · exact⟨by omega,by omega,(r'.im b hb).1⟩
def IY {α:Type} (L:List Bool) (d:Bool) (o:Option (α×Nat)) (x:α×Int×Nat×Bool):Prop:=match o with | some (a,q)=>x=(a,0,q,d) | none=>x.2=(8,L.length,true)
theorem iB {L:List Bool} {d:Bool} {n k p a q:Nat} (h:(eI n k).run L p=some (a,q)):fQ L d n k p=(a,0,q,d):=by unfold fQ;rw[h];rfl
theorem iJ {L:List Bool} {d:Bool} {n k p:Nat} (h:(eI n k).run L p=none):fQ L d n k p=(0,8,L.length,true):=by unfold fQ;rw[h];rfl
theorem MD {P:SP} {w:Nat} {i:Int} {L:List Bool} {cs Y:List Cell} {own0 own own' z:Cell} {k p q q':Nat} (hk:k<Y.length)
 (h:(iD P w i cs 0 own0).run L p=((iD P w i (Y.drop k) k own).run L q).map (fun r=>((Y.take k++r.1.1,r.1.2),r.2)))
 (e:(iD P w i (Y.drop k) k own).run L q=((iD P w i (Y.drop (k+1)) (k+1) own').run L q').map (fun r=>((z::r.1.1,r.1.2),r.2))):
 (iD P w i cs 0 own0).run L p=((iD P w i ((Y.set k z).drop (k+1)) (k+1) own').run L q').map (fun r=>(((Y.set k z).take (k+1)++r.1.1,r.1.2),r.2)):=by
 have e1:(Y.set k z).drop (k+1)=Y.drop (k+1):=by rw[ait zo]
 have e2:(Y.set k z).take (k+1)=Y.take k++[z]:=by
  rw[agW (by simpa using hk),List.take_set_of_le (agt k)]
  simp
 rw[h,e,e1,e2,Option.map_map]
 congr 1
 funext r
 simp
set_option maxHeartbeats 4000000 in
theorem wE {M D S s p:Nat} {cs:List Cell} {f d:Bool} {L:List Bool} {i:Int} {own:Cell} (hw:WB M D S) (hL:L.length≤1048576) (hp:p≤L.length) (hd:d=true→p=L.length) (hs:s≤4) (hn:cs.length≤256)
 (hc:∀c∈cs,xd (cD M D S) c) (ho:own.1≤16777216∧own.2≤3):
 YN Tryz.prog 139 [.ref 0 0 0 0,.ref 1 0 0 0,.lit (.int .i64 i),cA own] (W3 M D S cs.length cs s f L p d)
 (IY L d ((iD (cD M D S) s i cs 0 own).run L p)) (fun x=>.tup [cA x.1.2,.lit (.int .i64 x.2.1)]) (fun x=>W3 M D S cs.length x.1.1 (s+1) f L x.2.2.1 x.2.2.2):=by
 have ht:=qV (M:=M) (D:=D) (S:=S) (by have:=hw.m8;omega) (by have:=hw.d2;omega);have hpw:=hw.pw;have hd3:=hpw.d3;have hm255:=hpw.m255;rw[show 2^M-1=(cD M D S).m from rfl,show 2^D-1=(cD M D S).d from rfl] at ht;have hsc:=fun(v p':Nat) (Y:List Cell) (h1:p'≤L.length) (h2:d=true→p'=L.length) (h3:v≤1099511627776)=>yT (M:=M) (D:=D) (S:=S) (n:=cs.length) (s:=s+1) (sc:=s+1) (v:=v) (p:=p') (cs:=Y) (f:=f) (d:=d) (L:=L) hw hL h1 h2 h3 zo;generalize hP:cD M D S=P at*
 refine AA Lh zk Tryz.call139 Tryz.func139 rfl zk rfl [.cell 8 151,.tmp 9] zk fun Q hQ=>?_;refine ae ?_;refine zC ht ?_
 refine aU (X:=Nat×List Cell×Cell×Nat) (st:=fun y=>([(0,.ref 0 0 0 0),(1,.ref 1 0 0 0),(2,.lit (.int .i64 i)),(7,.ref 3 0 0 0),(8,.ref 4 0 0 0),(10,.lit (.int .i64 (P.m:Int))),(12,.lit (.int .i64 (s:Int))),(39,.lit (.int .i64 (cs.length:Int))),(40,.lit (.int .i64 (y.1:Int)))],
  W3 M D S cs.length y.2.1 (s+1) f L y.2.2.2 d++[some (.cells [.lit (.int .i64 (y.2.2.1.1:Int)),.lit (.int .i64 (y.2.2.1.2:Int))]),some (.cells [.lit (.int .i64 0),.lit (.int .i64 0)])]))
  (inv:=fun y=>y.1≤cs.length∧y.2.1.length=cs.length∧y.2.2.2≤L.length∧(d=true→y.2.2.2=L.length)∧(∀c∈y.2.1.drop y.1,xd P c)∧(y.2.2.1.1≤16777216∧y.2.2.1.2≤3∨i<y.1)∧
   (iD P s i cs 0 own).run L p=((iD P s i (y.2.1.drop y.1) y.1 y.2.2.1).run L y.2.2.2).map (fun r=>((y.2.1.take y.1++r.1.1,r.1.2),r.2)))
  (m:=fun y=>cs.length-y.1) (0,cs,own,p) [some 0,some 1,some 2,some 3,some 4] ⟨agM _,rfl,hp,hd,hc,.inl ho,by simp⟩ ?_
 rintro ⟨k,Y,o,q⟩ ⟨hk,hY,hq,hdq,hcY,hoq,hrun⟩;dsimp only at hk hY hq hdq hcY hoq hrun ⊢;have hs1:((s:Int)+1)=((s+1:Nat):Int):=by omega
 by_cases hkl:k<cs.length
 · have hkY:k<Y.length:=by omega
   have hdr:Y.drop k=Y[k]::Y.drop (k+1):=ahn hkY;have hget:Y.getD k default=Y[k]:=by rw[ago,agp hkY];rfl
   have hself:Y.set k Y[k]=Y:=List.set_getElem_self _;have hck:=hcY Y[k] (by rw[hdr];exact aim);have hcY2:∀c∈Y.drop (k+1),xd P c:=fun c hc=>hcY c (by rw[hdr];exact ahI _ hc)
   have hcY3:∀z,∀c∈(Y.set k z).drop (k+1),xd P c:=by
    intro z c hc;rw[ait zo] at hc;exact hcY2 c hc
   have hmap:= @MD P s i L cs Y own o
   by_cases hki:(k:Int)=i
   · have hob:o.1≤16777216∧o.2≤3:=by rcases hoq with h | h;exact h;omega
     have hv:=Fm (c:=o) (s:=s) hob.1 hob.2 hs;have hsm:=E0 (s:=s) (m:=o.2) hs hob.2;have hwo:=r8 (c:=o) (s:=s) zo zo;have hsd:=hsc (gS o s) q Y hq hdq zo;have hrs:=JM (P:=P) (L:=L) (w:=s) (p:=q) (c:=Y[k]) (own:=o) (cs:=Y.drop (k+1)) hki;have hml:=tK (P:=P) (v:=gS o s) (s:=s+1);rw[←hdr,AM] at hrs;generalize ba P (gS o s) (s+1) P.d 0=mm at*
     cases h1:(eI (gS o s) ((s+1)*mm)).run L q with
     | none=>
       rw[h1] at hrs;dsimp only[Option.map_none] at hrs;rw[hrs,Option.map_none] at hrun;rw[iJ h1] at hsd;rw[hrun] at hQ;generalize gS o s=v at*
       refine bh hget ?_;refine zC hwo ?_;refine aV [some 0,some 1,some 2] [] (hsd) ?_;refine bh hs1 ?_;exact ak [some 0,some 1,some 2] (hQ ((Y,(0,mm)),8,L.length,true) rfl)
     | some r=>
       obtain ⟨n,q'⟩:=r;rw[h1] at hrs;dsimp only[Option.map_some] at hrs;have hnx:=gn hq hdq h1;have hnl:=td h1;rw[iB h1] at hsd;have hm2:=hmap hkY hrun hrs;rw[hself] at hm2;generalize gS o s=v at*
       refine bh hget ?_;refine zC hwo ?_;refine aV [some 0,some 1,some 2] [] (hsd) ?_;refine bh hs1 ?_;refine aO (k+1,Y,(n,mm),q') [some 0,some 1,some 2,some 3,some 4] ⟨hkl,hY,hnx.1,hnx.2,hcY2,.inr (by dsimp only;omega),hm2⟩ (by dsimp only;omega)
   · obtain ⟨hc1,hc2,-⟩:=hck
     have hv:=Fm (c:=Y[k]) (s:=s) (A:=255) zo zo hs;have hsm:=E0 (s:=s) (m:=Y[k].2) hs zo;have hwo:=r8 (c:=Y[k]) (s:=s) zo zo;have hsd:=hsc (gS Y[k] s) q Y hq hdq zo;have hrs:=Di (P:=P) (L:=L) (w:=s) (p:=q) (c:=Y[k]) (own:=o) (cs:=Y.drop (k+1)) hki;have hml:=tK (P:=P) (v:=gS Y[k] s) (s:=s+1);have hvl:gS Y[k] s≤1044480:=by omega
     rw[←hdr,KN,AM] at hrs;have hput:=fun(z:Cell)=>AT (M:=M) (D:=D) (S:=S) (cs:=Y) (s:=s+1) (i:=k) (f:=f) (c:=z) hkY zo;rw[hY] at hput;have hoq2:o.1≤16777216∧o.2≤3∨i<((k+1:Nat):Int):=by rcases hoq with h | h;exact .inl h;exact .inr zo
     have hlen:∀z,(Y.set k z).length=cs.length:=fun z=>by rw[ag0];exact hY
     generalize ba P (gS Y[k] s) (s+1) P.d 0=mm at*
     generalize Y[k]=y at*
     cases h1:(eI (gS y s) ((s+1)*mm)).run L q with
     | none=>
       rw[h1] at hrs;dsimp only[Option.map_none] at hrs;rw[hrs,Option.map_none] at hrun;rw[iJ h1] at hsd;rw[hrun] at hQ;generalize gS y s=v at*
       refine bh hget ?_;refine zC hwo ?_;refine aV [some 0,some 1,some 2] [] (hsd) ?_;refine bh hs1 ?_;exact ak [some 0,some 1,some 2] (hQ ((Y,o),8,L.length,true) rfl)
     | some r=>
       obtain ⟨n,q'⟩:=r;rw[h1] at hrs;dsimp only[Option.map_some] at hrs;have hnx:=gn hq hdq h1;have hnl:=td h1;rw[iB h1] at hsd;generalize gS y s=v at*
       by_cases hb:P.m<n
       · rw[if_pos hb,Ag] at hrs
         have hup:=Gr (M:=M) (D:=D) (S:=S) (n:=cs.length) (cs:=Y) (s:=s+1) (p:=q') (f:=f) (d:=d) (L:=L) (c:=(n,mm)) hL hnx.1 hnx.2 (by dsimp only;omega) (by dsimp only;omega) zo;dsimp only at hup hrs
         cases h2:(eI n (s+1)).run L q' with
         | none=>
           rw[h2] at hrs;dsimp only[Option.map_none] at hrs;rw[hrs,Option.map_none] at hrun;rw[iJ h2] at hup;rw[hrun] at hQ;refine bh hget ?_;refine zC hwo ?_;refine aV [some 0,some 1,some 2] [] (hsd) ?_;refine bh hs1 ?_;refine zW [some 0,some 1,some 2] [] hup ?_;exact ak [some 0,some 1,some 2] (hQ ((Y,o),8,L.length,true) rfl)
         | some r2=>
           obtain ⟨n2,q2⟩:=r2;rw[h2] at hrs;dsimp only[Option.map_some] at hrs;have hnx2:=gn hnx.1 hnx.2 h2;rw[iB h2] at hup;have hp2:=hput (n2,mm+1);have hm2:=hmap hkY hrun hrs;refine bh hget ?_;refine zC hwo ?_;refine aV [some 0,some 1,some 2] [] (hsd) ?_;refine bh hs1 ?_;refine zW [some 0,some 1,some 2] [] hup ?_;refine zW [some 0,some 2] [] hp2 ?_;refine aO (k+1,Y.set k (fT (n2,mm+1)),o,q2) [some 0,some 1,some 2,some 3,some 4] ⟨hkl,hlen _,hnx2.1,hnx2.2,hcY3 _,hoq2,hm2⟩ (by dsimp only;omega)
       · rw[if_neg hb] at hrs
         dsimp only at hrs;have hp2:=hput (n,mm);have hm2:=hmap hkY hrun hrs;refine bh hget ?_;refine zC hwo ?_;refine aV [some 0,some 1,some 2] [] (hsd) ?_;refine bh hs1 ?_;refine zW [some 0,some 2] [] hp2 ?_;refine aO (k+1,Y.set k (fT (n,mm)),o,q') [some 0,some 1,some 2,some 3,some 4] ⟨hkl,hlen _,hnx.1,hnx.2,hcY3 _,hoq2,hm2⟩ (by dsimp only;omega)
 · obtain rfl:k=cs.length:=by omega
   have hdr:Y.drop cs.length=[]:=List.drop_eq_nil_of_le zo;have htk:Y.take cs.length=Y:=agB zo;rw[hdr,htk] at hrun
   have hrun2:(iD P s i cs 0 own).run L p=some ((Y,o),q):=by
    rw[hrun];show some ((Y++[],o),q)=_;rw[ahj]
   rw[hrun2] at hQ;refine ae ?_;exact ak [some 0,some 1,some 2] (hQ ((Y,o),0,q,d) rfl)
end Go.Proofs.YtcnlmelpnflhnaaGreat
