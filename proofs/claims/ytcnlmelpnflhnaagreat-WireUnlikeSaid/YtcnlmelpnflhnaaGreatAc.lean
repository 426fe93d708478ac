import Derived.Test.YtcnlmelpnflhnaaGreatIc
import Derived.Test.YtcnlmelpnflhnaaGreatAb
import Derived.Test.YtcnlmelpnflhnaaGreatBi
import Derived.Test.YtcnlmelpnflhnaaGreatSc
import Derived.Test.YtcnlmelpnflhnaaGreatE6
import Derived.Test.YtcnlmelpnflhnaaGreatE7
import Derived.Test.YtcnlmelpnflhnaaGreatE8
import Derived.Test.YtcnlmelpnflhnaaGreatAa
import Derived.Test.YtcnlmelpnflhnaaGreatFb
import Derived.Test.YtcnlmelpnflhnaaGreatBk
namespace Go.Proofs.YtcnlmelpnflhnaaGreat
open Go.Eng Go.Vx
set_option linter.unusedSimpArgs false
set_option linter.unusedVariables false
set_option maxRecDepth 100000
theorem gZ {L:List Bool} (hm:L.length<1099511627776):aA Tryz.prog 45 [.ref 0 0 0 0] [some (jK 1 L),some (jy L)] (.row 1 ((pk L).map (ie .u8))) [some (jK 1 L),some (jy L)]:=by
 refine zF pl Tryz.call45 Tryz.func45 [.tmp 2] fun Q hQ=>?_;have hpl:=kQ L;have e:List.take 0 (List.replicate (pk L).length (0:Int))++List.take (pk L).length (pk L)++List.drop (List.take (pk L).length (pk L)).length (List.replicate (pk L).length 0)=pk L:=by simp
 refine ae ?_;rw[e];exact ak [some 0,some 1] hQ
def three (k x:Nat):List Bool:=numBits x (k+1)++GN (x ||| 1)++cZ x
open Go.Eng
def fM (L:List Bool) (N key:Nat):List (Nat×Nat)→Nat→Option (List (Nat×Nat)×Nat)
 | [],p=>some ([],p)
 | x::xs,p=>if (cg L N p).2.1=0 then(fM L N key xs (cg L N p).2.2.1).map fun r=>(OD key (cg L N p).1 x::r.1,r.2) else none
theorem uP {L:List Bool} {n p:Nat} (hn:0<n) (h:(cg L n p).2.1=0):(cg L n p).2.2.2=false∧(cg L n p).1<n:=by
 rcases nT (L:=L) (p:=p) hn with e | ⟨x,q,hx,e⟩
 · rw[e] at h;exact absurd h (show¬(8:Int)=0 by decide)
 · rw[e];exact⟨rfl,hx⟩
theorem BC {L:List Bool} {n p:Nat} (hn:0<n) (h:(cg L n p).2.1≠0):cg L n p=(0,8,L.length,true):=by
 rcases nT (L:=L) (p:=p) hn with e | ⟨x,q,hx,e⟩
 · exact e
 · rw[e] at h;exact absurd rfl h
theorem KG {L:List Bool} {N key:Nat}:∀{X:List (Nat×Nat)} {p:Nat} {X':List (Nat×Nat)} {q:Nat},p≤L.length→fM L N key X p=some (X',q)→p≤q∧q≤L.length∧X'.length=X.length:=by
 intro X
 induction X with
 | nil=>
   intro p X' q hp h;unfold fM at h
   cases h
   exact⟨ajp _,hp,rfl⟩
 | cons x xs ih=>
   intro p X' q hp h;unfold fM at h
   split at h
   · rename_i h0
     obtain ⟨e1,e2⟩:=sZ (L:=L) (n:=N) hp
     cases hr:fM L N key xs (cg L N p).2.2.1 with
     | none=>rw[hr] at h;cases h
     | some r=>
       obtain ⟨r1,r2⟩:=r;rw[hr] at h
       cases h
       obtain ⟨a,b,c⟩:=ih e2 hr;exact⟨by omega,b,by simp[c]⟩
   · cases h
theorem sy {L:List Bool} {N key:Nat} (hN:0<N) {A B:Nat×Nat→Prop} (hAB:∀x a,a<N→A x→B (OD key a x)):∀{X:List (Nat×Nat)} {p:Nat} {X':List (Nat×Nat)} {q:Nat},(∀x∈X,A x)→fM L N key X p=some (X',q)→∀x∈X',B x:=by
 intro X
 induction X with
 | nil=>
   intro p X' q _ h;unfold fM at h
   cases h
   exact fun x hx=>by cases hx
 | cons x xs ih=>
   intro p X' q hX h;unfold fM at h
   split at h
   · rename_i h0
     cases hr:fM L N key xs (cg L N p).2.2.1 with
     | none=>rw[hr] at h;cases h
     | some r=>
       obtain ⟨r1,r2⟩:=r;rw[hr] at h
       cases h
       intro y hy;rcases ajC.1 hy with e | e
       · rw[e];exact hAB x _ (uP hN h0).2 (hX x (by simp))
       · exact ih (fun z hz=>hX z (by simp[hz])) hr y e
   · cases h
def alone (key N:Nat) (x:Nat×Nat):Prop:=x.1=key∧1≤x.2∧x.2≤N
theorem MP {L:List Bool} {N key B:Nat} {X X':List (Nat×Nat)} {p q:Nat} (hk:key<B) (hX:∀x∈X,x.1<B∧x.2≤N) (h:fM L (N+1) key X p=some (X',q)):∀x∈X',x.1<B∧x.2≤N+1:=by
 refine sy (alb N) (A:=fun x=>x.1<B∧x.2≤N) (fun x a ha hx=>?_) hX h;unfold OD
 split
 · exact⟨hk,by show 1≤N+1;omega⟩
 · split
   · exact⟨hx.1,by show x.2+1≤N+1;omega⟩
   · exact⟨hx.1,by omega⟩
theorem Et {X:List (Nat×Nat)} (hX:X.length≤1000000) (h:X≠ []):aA Tryz.prog 114 [.row 2 (X.map sV)] [] (.sl 0 2 0 X.length) [some (.row 2 (X.map sV))]:=by
 refine zF pl Tryz.call114 Tryz.func114 [.tmp 2] fun Q hQ=>?_;have he:(X.map sV).isEmpty=false:=by simp[h]
 refine br he ?_;exact ak [some 1] hQ
theorem lQ {K P C:Int} {X:List (Nat×Nat)} {N:Nat} (hX:X.length≤1000000) (h:X≠ []):aA Tryz.prog 55 [KC K P C X N] [] (.ref 0 0 0 0)
 [some (.cells [.lit (.int .i64 K),.lit (.int .i64 P),.lit (.int .i64 C),.sl 1 2 0 X.length,.lit (.int .i64 (N:Int))]),some (.row 2 (X.map sV))]:=by
 have hc:=Et hX h;refine zF XC Tryz.call55 Tryz.func55 [.tmp 2] fun Q hQ=>?_;refine ae ?_;refine bI (hc) ?_;exact zE [some 1,some 0] hQ
theorem MQ {K P C:Int} {X:List (Nat×Nat)} {N key p:Nat} {L:List Bool} (hX:X.length≤1000000) (h:X≠ []) (hk:key<2305843009213693951) (hN:N<1048576) (hL:L.length≤1048576) (hp:p≤L.length) (hR:∀x∈X,x.2≤1048576):
 aA Tryz.prog 20 [.ref 0 0 0 0,.ref 1 0 0 0,.lit (.int .u64 (key:Int))] [some (mr K P C X N),some (bt L p false)]
 (.lit (.int .i64 (match fM L (N+1) key X p with | some _=>0 | none=>8)))
 (match fM L (N+1) key X p with | some r=> [some (mr K P C r.1 (N+1)),some (bt L r.2 false)] | none=> [some (mr K P C X N),some (bt L L.length true)]):=by
 have hc:=lQ (K:=K) (P:=P) (C:=C) (N:=N) hX h;have hN1:(N:Int)+1=((N+1:Nat):Int):=by omega
 refine zF pl Tryz.call20 Tryz.func20 [.tmp 6] fun Q hQ=>?_;refine ae ?_;refine bI (hc) ?_;refine ae ?_
 refine aR (X:=Nat×List (Nat×Nat)×Nat) (st:=fun y=>([(0,.ref 0 0 0 0),(1,.ref 1 0 0 0),(2,.lit (.int .u64 (key:Int))),(7,.ref 2 0 0 0),(34,.lit (.int .i64 (X.length:Int))),(35,.lit (.int .i64 (y.1:Int)))],[some (mr K P C X N),some (bt L y.2.2 false),some (.cells [.lit (.int .i64 K),.lit (.int .i64 P),.lit (.int .i64 C),.sl 3 2 0 X.length,.lit (.int .i64 ((N+1:Nat):Int))]),some (.row 2 (y.2.1.map sV))]))
  (inv:=fun y=>y.1≤X.length∧y.2.1.length=X.length∧y.2.2≤L.length∧fM L (N+1) key X p=(fM L (N+1) key (y.2.1.drop y.1) y.2.2).map (fun r=>(y.2.1.take y.1++r.1,r.2))∧∀x∈y.2.1.drop y.1,x.2≤1048576) (m:=fun y=>X.length-y.1) (0,X,p) [some 0,some 1,some 2,some 3] ⟨ajH _,rfl,hp,by simp,by simpa using hR⟩ ?_
 rintro ⟨i,Y,q⟩ ⟨hi,hY,hq,hu,hR2⟩;dsimp only at hi hY hq hu hR2 ⊢
 by_cases hil:i<X.length
 · have hiY:i<Y.length:=by omega
   have hdr:Y.drop i=Y[i]::Y.drop (i+1):=akm hiY;have hget:Y.getD i default=Y[i]:=by rw[ajk,ajm hiY];rfl
   have hx2:Y[i].2≤1048576:=hR2 Y[i] (by rw[hdr];exact alm);have hset:∀z:Nat×Nat,(Y.map sV).set i [.lit (.int .u64 (z.1:Int)),.lit (.int .i64 (z.2:Int))]=(Y.set i z).map sV:=fun z=>by rw[alC];rfl
   have hb:=Gj (L:=L) (n:=N+1) (p:=q) hL hq zo zo;have hub:fM L (N+1) key (Y.drop i) q=if (cg L (N+1) q).2.1=0 then(fM L (N+1) key (Y.drop (i+1)) (cg L (N+1) q).2.2.1).map fun r=>(OD key (cg L (N+1) q).1 Y[i]::r.1,r.2) else none:=by rw[hdr];rfl
   have hnext:∀z q',fM L (N+1) key (Y.drop i) q=(fM L (N+1) key (Y.drop (i+1)) q').map (fun r=>(z::r.1,r.2))→fM L (N+1) key X p=(fM L (N+1) key ((Y.set i z).drop (i+1)) q').map (fun r=>((Y.set i z).take (i+1)++r.1,r.2)):=by
    intro z q' e;have e1:(Y.set i z).drop (i+1)=Y.drop (i+1):=by rw[alw zo]
    have e2:(Y.set i z).take (i+1)=Y.take i++[z]:=by
     rw[ajN (by simpa using hiY),alu (ajp i)]
     simp
    rw[hu,e,e1,e2,Option.map_map]
    congr 1
    funext r
    simp
   have hR3:∀z,∀x∈(Y.set i z).drop (i+1),x.2≤1048576:=by
    intro z x hx;rw[alw zo] at hx;exact hR2 x (by rw[hdr];exact akJ _ hx)
   by_cases h0:(cg L (N+1) q).2.1=0
   · obtain ⟨hd,hlt⟩:=uP (alb N) h0
     have hend:=sZ (L:=L) (n:=N+1) hq;rw[if_pos h0] at hub;rw[hd,h0] at hb;have hn:=hnext _ _ hub;have hself:Y.set i Y[i]=Y:=List.set_getElem_self _;have hlen:∀z,(Y.set i z).length=X.length:=fun z=>by rw[ajR];exact hY
     generalize (cg L (N+1) q).2.2.1=q' at*
     generalize (cg L (N+1) q).1=a at*
     generalize Y[i]=x at*
     unfold OD at hn
     by_cases ha:a=0
     · rw[if_pos ha] at hn
       have hs:(Y.map sV).set i [.lit (.int .u64 (key:Int)),.lit (.int .i64 1)]=(Y.set i (key,1)).map sV:=hset (key,1);subst ha;refine br hget ?_;refine aF [some 1] [] (hb) ?_;refine ej hget hs ?_;refine aM (i+1,Y.set i (key,1),q') [some 0,some 1,some 2,some 3] ⟨hil,hlen _,hend.2,hn,hR3 _⟩ (by dsimp only;omega)
     · rw[if_neg ha] at hn
       by_cases hxk:x.1=key
       · rw[if_pos hxk] at hn
         have hs:=hset (x.1,x.2+1);have hx1:((x.2+1:Nat):Int)=(x.2:Int)+1:=by omega
         rw[hx1] at hs;refine br hget ?_;refine aF [some 1] [] (hb) ?_;refine ej hget hs ?_;refine aM (i+1,Y.set i (x.1,x.2+1),q') [some 0,some 1,some 2,some 3] ⟨hil,hlen _,hend.2,hn,hR3 _⟩ (by dsimp only;omega)
       · rw[if_neg hxk] at hn
         rw[hself] at hn;have hR4:=hR3 x;rw[hself] at hR4;refine br hget ?_;refine aF [some 1] [] (hb) ?_;refine br hget ?_;refine aM (i+1,Y,q') [some 0,some 1,some 2,some 3] ⟨hil,hY,hend.2,hn,hR4⟩ (by dsimp only;omega)
   · have he:=BC (alb N) h0
     rw[if_neg h0] at hub;rw[he] at hb;rw[hub,Option.map_none] at hu;rw[hu] at hQ;dsimp only at hQ;refine br hget ?_;refine zW [some 1] [] hb ?_;exact ak [some 0,some 1] hQ
 · obtain rfl:i=X.length:=by omega
   have hdr:Y.drop X.length=[]:=List.drop_eq_nil_of_le zo;have htk:Y.take X.length=Y:=ajy zo;rw[hdr,htk] at hu;have hu2:fM L (N+1) key X p=some (Y,q):=by rw[hu];simp[fM]
   rw[hu2] at hQ;dsimp only at hQ;exact zE [some 0,some 1] hQ
theorem BY {R C k a b T n p key:Nat} {l:List RW} {L:List Bool} {d:Bool} (hL:L.length≤1048576) (hs:jG k a b) (hC:1≤C∧C≤64) (hn:n≤100) (hT:T≤1000) (hkey:key<2305843009213693951) (hp:p≤L.length) (hl:l.length=R) (hR:1≤R∧R≤4) (hw:∀r∈l,bC k a b C r):
 ∃(e:Int) (l':List RW) (T' q:Nat) (d':Bool),l'.length=R∧(∀r∈l',bC k a b C r)∧T'≤T+n∧q≤L.length∧
 aA Tryz.prog 19 [.ref 0 0 0 0,.ref 1 0 0 0,.lit (.int .u64 (key:Int)),.lit (.int .i64 (n:Int))] [some (fy R C k a b l T),some (bt L p d)] (.lit (.int .i64 e)) [some (fy R C k a b l' T'),some (bt L q d')]:=by
 subst hl
 match l,hR,hw with
 | [],h,_=>exact absurd h.1 (by simp)
 | [r0],_,hw=>exact GM hL hs hC hn hT hkey hp (hw _ (by simp))
 | [r0,r1],_,hw=>exact IS hL hs hC hn hT hkey hp (hw _ (by simp)) (hw _ (by simp))
 | [r0,r1,r2],_,hw=>exact H9 hL hs hC hn hT hkey hp (hw _ (by simp)) (hw _ (by simp)) (hw _ (by simp))
 | [r0,r1,r2,r3],_,hw=>exact Iv hL hs hC hn hT hkey hp (hw _ (by simp)) (hw _ (by simp)) (hw _ (by simp)) (hw _ (by simp))
 | _::_::_::_::_::_,h,_=>exact absurd h.2 (by simp)
end Go.Proofs.YtcnlmelpnflhnaaGreat
