import Derived.Test.YtcnlmelpnflhnaaGreatE6
import Derived.Test.YtcnlmelpnflhnaaGreatE7
import Derived.Test.YtcnlmelpnflhnaaGreatN1
import Derived.Test.YtcnlmelpnflhnaaGreatRh
namespace Go.Proofs.YtcnlmelpnflhnaaGreat
open Go.Eng Go.Vx
set_option linter.unusedSimpArgs false
set_option linter.unusedVariables false
set_option maxRecDepth 100000
theorem MK {s:ByteArray} {z:Nat} {F:Bool→V→Prop} (h:∀z:Fin 256,pD s z.val=bl z.val) (hs:s.size=256) (hz:z<256):
 t9 Tryz.prog 9 (.lit (.string s)) (.lit (.int .u8 (z:Int))) F=F true (.lit (.int .u8 (bl z:Int))):=by
 rw[LR zo,show((z:Nat):Int).toNat=z by omega,h ⟨z,hz⟩]
theorem j8 {n:Nat} (hn:n<18446744073709551616):aC Tryz.prog 96 [.lit (.int .u64 n)] [] (.lit (.int .i64 (bl n:Int))) []:=by
 refine zF pl Tryz.call96 Tryz.func96 [.tmp 2] fun Q hQ=>?_;obtain ⟨c,hc⟩:∃c:Int,c=bl n:=⟨_,rfl⟩;rw[←hc] at hQ
 by_cases h32:4294967296≤n
 case' pos=>
  have e1:=lx (n:=n) (k:=32) h32;refine ae ?_;rw[show(n:Int)/4294967296=((n/2^32:Nat):Int) by omega];have hx:n/2^32<4294967296:=by omega
  generalize n/2^32=x at*
 case' neg=>
  refine ae ?_;have hx:n<4294967296:=by omega
  have e1:bl n=0+bl n:=by omega
  obtain ⟨x,rfl⟩:∃x,x=n:=⟨_,rfl⟩
 all_goals
  by_cases h16:65536≤x
  case' pos=>
   have e2:=lx (n:=x) (k:=16) h16;refine ae ?_;rw[show(x:Int)/65536=((x/2^16:Nat):Int) by omega];have hy:x/2^16<65536:=by omega
   generalize x/2^16=y at*
  case' neg=>
   refine ae ?_;have hy:x<65536:=by omega
   have e2:bl x=0+bl x:=by omega
   obtain ⟨y,rfl⟩:∃y,y=x:=⟨_,rfl⟩
 all_goals
  by_cases h8:256≤y
  case' pos=>
   have e3:=lx (n:=y) (k:=8) h8;refine ae ?_;rw[show(y:Int)/256=((y/2^8:Nat):Int) by omega];have hz:y/2^8<256:=by omega
   generalize y/2^8=z at*
  case' neg=>
   refine ae ?_;have hz:y<256:=by omega
   have e3:bl y=0+bl y:=by omega
   obtain ⟨z,rfl⟩:∃z,z=y:=⟨_,rfl⟩
 all_goals
  have hb8:=bB (n:=z) (k:=8) hz;rw[MK (of_decide_eq_true zk) zk hz];exact zE [] hQ
def ix (L:List Bool):Nat→Nat→Bool×Int×Nat×Bool
 | 0,p=>(true,0,p,false)
 | k+1,p=>if p<L.length then(if L.getD p false then ix L k (p+1) else(false,0,p+1,false)) else(false,8,L.length,true)
theorem oV (L:List Bool) (p:Nat):ix L 0 p=(true,0,p,false):=by unfold ix;rfl
theorem pj (L:List Bool) (k p:Nat):ix L (k+1) p=if p<L.length then(if L.getD p false then ix L k (p+1) else(false,0,p+1,false)) else(false,8,L.length,true):=by conv=>lhs;unfold ix
theorem Kp {L:List Bool} {p K:Nat} {k:Int} (hL:L.length≤1048576) (hp:p≤L.length) (hk:max 0 k=(K:Int)) (hK:K<9223372036854775807):aC Tryz.prog 158 [.ref 0 0 0 0,.lit (.int .i64 k)] [some (aX L p false)]
 (.tup [.lit (.bool (ix L K p).1),.lit (.int .i64 (ix L K p).2.1)]) [some (aX L (ix L K p).2.2.1 (ix L K p).2.2.2)]:=by
 refine zF pl Tryz.call158 Tryz.func158 [.tmp 4,.tmp 5] fun Q hQ=>?_
 simp(maxSteps:=1000000) (disch:=(first | omega | (simp only[dm,agr,ags,true_and,and_true];(try omega);done) | fail)) only[go_sem,hk,Int.reduceEq,Int.reduceToNat,Nat.reduceAdd,Nat.reduceMul,Nat.reduceEqDiff, ↓reduceIte]
 refine aU (X:=Nat) (st:=fun i=>([(0,.ref 0 0 0 0),(9,.lit (.int .i64 (K:Int))),(10,.lit (.int .i64 (i:Int)))],[some (aX L (p+i) false)]))
  (inv:=fun i=>i≤K∧p+i≤L.length∧ix L K p=ix L (K-i) (p+i)) (m:=fun i=>K-i) 0 [some 0] ⟨by omega,by omega,rfl⟩ ?_
 rintro i ⟨hi,hpi,hv⟩
 by_cases hiK:i<K
 · obtain ⟨n,hn⟩:∃n,K-i=n+1:=⟨K-i-1,by omega⟩
   rw[hn,pj] at hv
   by_cases hin:p+i<L.length
   · rw[if_pos hin] at hv
     refine ae ?_;refine aV [some 0] [] (oz (L:=L) (p:=p+i) hL hin) ?_
     cases hbit:L.getD (p+i) false with
     | true=>
       rw[hbit] at hv;refine ae ?_;refine aG (i+1) [some 0] rfl (by dsimp only;rw[←Nat.add_assoc];exact zM) zM ⟨by omega,by omega,?_⟩ zo;rw[hv,if_pos rfl,show K-(i+1)=n by omega,Nat.add_assoc]
     | false=>
       rw[hbit,if_neg (by simp)] at hv;rw[hv] at hQ;exact zE [some 0] hQ
   · rw[if_neg hin] at hv
     have hqe:p+i=L.length:=by omega
     rw[hv] at hQ;rw[hqe];refine ae ?_;refine zW [some 0] [] (fM (L:=L) (p:=L.length) (d:=false) hL (.inr rfl)) ?_;exact ak [some 0] hQ
 · obtain rfl:i=K:=by omega
   rw[ahJ,oV] at hv;rw[hv] at hQ;exact zE [some 0] hQ
def ng (L:List Bool) (D:Nat):Nat→Nat→Nat→Bool×Int×Nat×Bool
 | 0,_,_=>(false,8,L.length,true)
 | f+1,r,p=>if p<L.length then
    (if L.getD p false=decide (D≤r+r)∧(if D≤r+r then r+r-D else r+r)≠0 then ng L D f (if D≤r+r then r+r-D else r+r) (p+1) else(decide (D≤r+r)&&!L.getD p false,0,p+1,false))
    else(false,8,L.length,true)
theorem iz (L:List Bool) (D f r p:Nat):ng L D (f+1) r p=if p<L.length then
 (if L.getD p false=decide (D≤r+r)∧(if D≤r+r then r+r-D else r+r)≠0 then ng L D f (if D≤r+r then r+r-D else r+r) (p+1) else(decide (D≤r+r)&&!L.getD p false,0,p+1,false))
 else(false,8,L.length,true):=by conv=>lhs;unfold ng
def eO (L:List Bool) (P D p:Nat):Bool×Int×Nat×Bool:=
 if D=0∨D<P then(false,2,p,false) else if P=0 then(false,0,p,false) else if P=D then(true,0,p,false) else ng L D (L.length+1-p) P p
theorem oC {P D:Nat} (hP:(wg P).length≤1000000) (hD1:(wg D).length≤1000000):aC Tryz.prog 201 [NV P,NV D] [] (.lit (.bool (decide (¬(D=0∨D<P))))) []:=by
 refine zF pl Tryz.call201 Tryz.func201 [.tmp 4] fun Q hQ=>?_
 by_cases hz:D=0
 · rw[agq (fun h=>h (.inl hz))] at hQ
   refine ae ?_;refine az (du (n:=D) zo) rfl rfl ?_;rw[agC hz];exact zE [] hQ
 · refine ae ?_
   refine az (du (n:=D) zo) rfl rfl ?_;rw[agq hz];refine ae ?_;refine az (eR (a:=P) (b:=D) zo zo) rfl rfl ?_
   have e:decide (gU P D≤0)=decide (¬(D=0∨D<P)):=by
    have:gU P D≤0↔¬(D=0∨D<P):=by unfold gU;split<;>(try split)<;>omega
    simp only[this]
   refine bh e ?_;exact ak [] hQ
set_option maxHeartbeats 2000000 in
theorem vi {L:List Bool} {P D p:Nat} (hL:L.length≤1048576) (hp:p≤L.length) (hP:(wg P).length≤500000) (hD1:(wg D).length≤500000):aC Tryz.prog 189 [.ref 0 0 0 0,NV P,NV D] [some (aX L p false)]
 (.tup [.lit (.bool (eO L P D p).1),.lit (.int .i64 (eO L P D p).2.1)]) [some (aX L (eO L P D p).2.2.1 (eO L P D p).2.2.2)]:=by
 refine zF pl Tryz.call189 Tryz.func189 [.tmp 6,.tmp 7] fun Q hQ=>?_;unfold eO at hQ;refine ae ?_;refine az (oC (P:=P) (D:=D) zo zo) rfl rfl ?_
 by_cases h1:D=0∨D<P
 · rw[agq (fun h=>h h1)]
   rw[if_pos h1] at hQ;exact zE [some 0] hQ
 · rw[agC h1]
   rw[if_neg h1] at hQ;refine ae ?_;refine az (du (n:=P) zo) rfl rfl ?_
   by_cases h2:P=0
   · rw[agC h2]
     rw[if_pos h2] at hQ;exact zE [some 0] hQ
   · rw[agq h2]
     rw[if_neg h2] at hQ;refine ae ?_
     refine aU (X:=Nat×Nat) (st:=fun z=>([(0,.ref 0 0 0 0),(4,.ref 1 0 0 0),(5,.ref 2 0 0 0),(8,.ref 3 0 0 0)],[some (aX L z.2 false),some (.cells [.row 1 ((nl (wg P)).map (ie .u64))]),some (.cells [.row 1 ((nl (wg D)).map (ie .u64))]),some (.cells [.row 1 ((nl (wg z.1)).map (ie .u64))])]))
      (inv:=fun z=>z.2≤L.length∧0<z.1∧z.1≤D∧(if P=D then(true,0,p,false) else ng L D (L.length+1-p) P p)=(if z.1=D then(true,0,z.2,false) else ng L D (L.length+1-z.2) z.1 z.2)) (m:=fun z=>L.length-z.2) (P,p) [some 0,some 1,some 2,some 3] ⟨hp,by simp only;omega,by simp only;omega,rfl⟩ ?_
     rintro ⟨r,q⟩ ⟨hq,hr0,hrD,hv⟩;simp only at hq hr0 hrD hv ⊢;rw[hv] at hQ;have hrl:=cI hrD;refine ae ?_;refine az (eR (a:=r) (b:=D) zo zo) rfl rfl ?_
     by_cases h3:r=D
     · rw[if_pos h3] at hQ
       have hc:¬gU r D<0:=fun h=>by have:=eN.1 h;omega
       refine bh (agq hc) ?_;exact ak [some 0] hQ
     · rw[if_neg h3] at hQ hv
       have hc:=eN.2 (show r<D by omega);obtain ⟨f,hf⟩:∃f,L.length+1-q=f+1:=⟨L.length-q,by omega⟩;rw[hf,iz] at hQ hv;have hrr:(wg (r+r)).length≤(wg D).length+1:=ia (B:=18446744073709551616) zd hrl hrl
       by_cases hin:q<L.length
       · rw[if_pos hin] at hQ hv
         refine bh (agC hc) ?_;refine zW [some 0] [] (oz (L:=L) (p:=q) hL hin) ?_;refine zC (gh (a:=r) (b:=r) zo zo) ?_
         by_cases hd:D≤r+r
         · rw[if_pos hd,agC hd] at hQ hv
           refine az (i5 (a:=r+r) (b:=D) hd zo) rfl rfl ?_;have hsl:=cI (show r+r-D≤r+r by omega)
           cases hbit:L.getD q false with
           | false=>
             rw[hbit,if_neg (by simp)] at hQ;exact zE [some 0] hQ
           | true=>
             refine ae ?_;refine az (du (n:=r+r-D) zo) rfl rfl ?_
             by_cases hz:r+r-D=0
             · rw[hbit,if_neg (fun h=>h.2 hz)] at hQ
               rw[agC hz];exact zE [some 0] hQ
             · rw[hbit,if_pos (show true=true∧r+r-D≠0 from⟨rfl,hz⟩)] at hv
               rw[agq hz];refine ae ?_;refine aO (r+r-D,q+1) [some 0,some 1,some 2,some 5] ⟨by simp only;omega,by simp only;omega,by simp only;omega,?_⟩ (by simp only;omega);simp only;rw[hv,if_neg (show¬r+r-D=D by omega),show L.length+1-(q+1)=f by omega]
         · rw[if_neg hd,agq hd] at hQ hv
           refine az (p7 (a:=r+r) (b:=D) zo zo zo) rfl rfl ?_
           cases hbit:L.getD q false with
           | true=>
             rw[hbit,if_neg (by simp)] at hQ;exact zE [some 0] hQ
           | false=>
             have hz:r+r≠0:=by omega
             rw[hbit,if_pos (show false=false∧r+r≠0 from⟨rfl,hz⟩)] at hv;refine ae ?_;refine az (du (n:=r+r) zo) rfl rfl ?_;rw[agq hz];refine ae ?_;refine aO (r+r,q+1) [some 0,some 1,some 2,some 5] ⟨by simp only;omega,by simp only;omega,by simp only;omega,?_⟩ (by simp only;omega);simp only;rw[hv,if_neg (show¬r+r=D by omega),show L.length+1-(q+1)=f by omega]
       · rw[if_neg hin] at hQ
         have hqe:q=L.length:=by omega
         rw[hqe];refine bh (agC hc) ?_;refine zW [some 0] [] (fM (L:=L) (p:=L.length) (d:=false) hL (.inr rfl)) ?_;exact ak [some 0] hQ
theorem py {L:List Bool} {D:Nat}:∀f r p,p≤L.length→ng L D f r p=(false,8,L.length,true)∨∃b q,ng L D f r p=(b,0,q,false)∧p<q∧q≤L.length
 | 0,_,_,_=>.inl rfl
 | f+1,r,p,hp=>by
   rw[iz]
   by_cases h:p<L.length
   · rw[if_pos h]
     by_cases hc:L.getD p false=decide (D≤r+r)∧(if D≤r+r then r+r-D else r+r)≠0
     · rw[if_pos hc]
       rcases py f (if D≤r+r then r+r-D else r+r) (p+1) h with e | ⟨b,q,e,h1,h2⟩
       · exact .inl e
       · exact .inr ⟨b,q,e,by omega,h2⟩
     · rw[if_neg hc]
       exact .inr ⟨_,_,rfl,by omega,h⟩
   · rw[if_neg h]
     exact .inl rfl
def Ss (P D:Nat):Prop:=¬(D=0∨D<P)
theorem pE {L:List Bool} {P D p:Nat} (hg:Ss P D) (hp:p≤L.length):eO L P D p=(false,8,L.length,true)∨∃b q,eO L P D p=(b,0,q,false)∧p≤q∧q≤L.length:=by
 unfold eO;rw[if_neg hg]
 split
 · exact .inr ⟨_,_,rfl,agt _,hp⟩
 · split
   · exact .inr ⟨_,_,rfl,agt _,hp⟩
   · rcases py (L:=L) (D:=D) (L.length+1-p) P p hp with e | ⟨b,q,e,h1,h2⟩
     · exact .inl e
     · exact .inr ⟨b,q,e,by omega,h2⟩
def v7 (L:List Bool) (P D:Nat):Nat→Nat→Bool×Int×Nat×Bool
 | 0,p=>(true,0,p,false)
 | k+1,p=>if (eO L P D p).1 then v7 L P D k (eO L P D p).2.2.1 else eO L P D p
theorem CE (L:List Bool) (P D p:Nat):v7 L P D 0 p=(true,0,p,false):=rfl
theorem rW (L:List Bool) (P D k p:Nat):v7 L P D (k+1) p=if (eO L P D p).1 then v7 L P D k (eO L P D p).2.2.1 else eO L P D p:=rfl
def Cm (L:List Bool) (P D K p:Nat):Bool×Int×Nat×Bool:=if D=0∨D<P then(false,2,p,false) else v7 L P D K p
theorem Fh {L:List Bool} {P D p K:Nat} {k:Int} (hL:L.length≤1048576) (hp:p≤L.length) (hP:(wg P).length≤500000) (hD1:(wg D).length≤500000) (hk:max 0 k=(K:Int)) (hK:K<9223372036854775807):aC Tryz.prog 238 [.ref 0 0 0 0,NV P,NV D,.lit (.int .i64 k)] [some (aX L p false)]
 (.tup [.lit (.bool (Cm L P D K p).1),.lit (.int .i64 (Cm L P D K p).2.1)]) [some (aX L (Cm L P D K p).2.2.1 (Cm L P D K p).2.2.2)]:=by
 refine zF pl Tryz.call238 Tryz.func238 [.tmp 8,.tmp 9] fun Q hQ=>?_;unfold Cm at hQ;refine ae ?_;refine az (oC (P:=P) (D:=D) zo zo) rfl rfl ?_
 by_cases h1:D=0∨D<P
 · rw[agq (fun h=>h h1)]
   rw[if_pos h1] at hQ;exact zE [some 0] hQ
 · rw[agC h1]
   rw[if_neg h1] at hQ
   simp(maxSteps:=1000000) (disch:=(first | omega | (simp only[dm,agr,ags,true_and,and_true];(try omega);done) | fail)) only[go_sem,hk,Int.reduceEq,Int.reduceToNat,Nat.reduceAdd,Nat.reduceMul,Nat.reduceEqDiff, ↓reduceIte]
   refine aU (X:=Nat×Nat) (st:=fun z=>([(0,.ref 0 0 0 0),(5,.ref 1 0 0 0),(6,.ref 2 0 0 0),(17,.lit (.int .i64 (K:Int))),(18,.lit (.int .i64 (z.1:Int)))],[some (aX L z.2 false),some (.cells [.row 1 ((nl (wg P)).map (ie .u64))]),some (.cells [.row 1 ((nl (wg D)).map (ie .u64))])]))
    (inv:=fun z=>z.1≤K∧z.2≤L.length∧v7 L P D K p=v7 L P D (K-z.1) z.2) (m:=fun z=>K-z.1) (0,p) [some 0,some 1,some 2] ⟨by simp,hp,rfl⟩ ?_
   rintro ⟨i,q⟩ ⟨hi,hq,hv⟩;simp only at hi hq hv ⊢
   by_cases hiK:i<K
   · obtain ⟨n,hn⟩:∃n,K-i=n+1:=⟨K-i-1,by omega⟩
     rw[hn,rW] at hv;have hr:=vi (L:=L) (P:=P) (D:=D) (p:=q) hL hq hP hD1;rcases pE (L:=L) (p:=q) h1 hq with e | ⟨b,q2,e,hq1,hq2⟩
     · rw[e] at hr hv
       rw[hv] at hQ;refine ae ?_;refine zW [some 0] [] hr ?_;exact ak [some 0] hQ
     · rw[e] at hr hv
       dsimp only at hr hv
       cases b with
       | false=>
         rw[if_neg (by simp)] at hv;rw[hv] at hQ;refine ae ?_;refine zW [some 0] [] hr ?_;exact ak [some 0] hQ
       | true=>
         rw[if_pos rfl] at hv;refine ae ?_;refine zW [some 0] [] hr ?_;refine aO (i+1,q2) [some 0,some 1,some 2] ⟨by simp only;omega,hq2,?_⟩ (by simp only;omega);simp only;rw[hv,show K-(i+1)=n by omega]
   · obtain rfl:i=K:=by omega
     rw[ahJ,CE] at hv;rw[hv] at hQ;exact zE [some 0] hQ
end Go.Proofs.YtcnlmelpnflhnaaGreat

namespace Go.Vx
open Go.Eng
set_option linter.unusedSimpArgs false
set_option linter.unusedVariables false
section
variable {P:Program}
def YN (P:Program) (f:FuncId) (vs:List V) (σ:St) {X:Type} (R:X→Prop) (r:X→V) (s:X→St):Prop:=Fn P f vs σ fun u' s'=>∃x,R x∧u'=r x∧s'=s x
theorem AA {f:FuncId} {fn:Func} {c:Code} {vs:List V} {σ:St} {X:Type} {R:X→Prop} {r:X→V} {s:X→St} (pl:aH) (hm:P.follows .mixedOrders=true) (hcf:∀(args:Array Value) (w:World),(callFunc f args).run P w=.ok (.enter f args) w)
 (hf:P.funcs[f]? =some fn) (hb:fn.body=some c) (hc:mA fn.ntmps pl c=true) (hs:Nat.ble vs.length fn.ntmps=true) (rs:List ResultVar) (hr:fn.results.toList=rs)
 (h:∀Q:V→St→Prop,(∀x,R x→Q (r x) (s x))→dJ true P σ.length pl c (Dj 0 vs) σ (po P rs (rA σ.length Q))):YN P f vs σ R r s:=
 K4 pl hm hcf hf hb (eJ hc) hs rs hr (h _ fun x hx=>⟨x,hx,rfl,rfl⟩)
theorem Ls {e:Bool} {f:FuncId} {vs vs₀:List V} {σ σ₀:St} {X:Type} {R:X→Prop} {r:X→V} {s:X→St} {K:KV} (π:Pi) (F:List Nat) (spec:YN P f vs₀ σ₀ R r s)
 (hk:∀x,R x→K true (kS (ur (iw σ.length π) (σ.length+jz π)) (r x)) (qy π F σ (s x)))
 (h1:(O2 π&&π.all (fun p=>match p with | some p=>decide (p<σ.length)&&!F.contains p | none=>true))=true:=by rfl)
 (h2:mE F.contains π σ σ₀ π:=by simp(disch:=(first | omega | (simp only[agn,ag0,agu,agE,agN,agz,ag3,agr,ags,true_and,and_true];(try omega);done) | fail)) only[go_sem,Int.reduceEq,Int.reduceToNat,Nat.reduceAdd,Nat.reduceMul,Nat.reduceEqDiff, ↓reduceIte,true_and,and_true,and_self,agO,agF,agt,V.lit.injEq,Value.int.injEq,Value.bool.injEq];try (first | omega | (simp;done) | (simp;omega)))
 (h3:rn F.contains π σ vs₀ vs:=by simp(disch:=(first | omega | (simp only[agn,ag0,agu,agE,agN,agz,ag3,agr,ags,true_and,and_true];(try omega);done) | fail)) only[go_sem,Int.reduceEq,Int.reduceToNat,Nat.reduceAdd,Nat.reduceMul,Nat.reduceEqDiff, ↓reduceIte,true_and,and_true,and_self,agO,agF,agt,V.lit.injEq,Value.int.injEq,Value.bool.injEq];try (first | omega | (simp;done) | (simp;omega))) (he:e=true→σ₀=[]:=by simp):dv P e f vs σ K:=
 uB π F spec ⟨h1,h2,h3⟩ he fun u s ⟨x,hx,h4,h5⟩=>by rw[h4,h5];exact hk x hx
end
@[go_sem] theorem QE {l:List V}:JJ (.cells l)=(EM.pnL l=true):=(rfl)
end Go.Vx
