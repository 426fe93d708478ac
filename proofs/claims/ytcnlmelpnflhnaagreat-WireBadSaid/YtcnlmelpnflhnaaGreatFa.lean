import Derived.Test.YtcnlmelpnflhnaaGreatN1
import Derived.Test.YtcnlmelpnflhnaaGreatNi
namespace Go.Proofs.YtcnlmelpnflhnaaGreat
open Go.Eng Go.Vx
set_option linter.unusedSimpArgs false
set_option linter.unusedVariables false
set_option maxRecDepth 100000
def jf (L:List Bool):Nat→Nat→Bool×Int×Nat×Bool
 | 0,p=>(true,0,p,false)
 | k+1,p=>if p<L.length then(if L.getD p false then jf L k (p+1) else(false,0,p+1,false)) else(false,8,L.length,true)
theorem qF (L:List Bool) (p:Nat):jf L 0 p=(true,0,p,false):=by unfold jf;rfl
theorem qT (L:List Bool) (k p:Nat):jf L (k+1) p=if p<L.length then(if L.getD p false then jf L k (p+1) else(false,0,p+1,false)) else(false,8,L.length,true):=by conv=>lhs;unfold jf
theorem Ou {L:List Bool} {p K:Nat} {k:Int} (hL:L.length≤1048576) (hp:p≤L.length) (hk:max 0 k=(K:Int)) (hK:K<9223372036854775807):aA Tryz.prog 158 [.ref 0 0 0 0,.I k] [some (bm L p false)]
 (.tup [.lit (.bool (jf L K p).1),.I (jf L K p).2.1]) [some (bm L (jf L K p).2.2.1 (jf L K p).2.2.2)]:=by
 refine zF pl Tryz.call158 Tryz.func158 [.tmp 4,.tmp 5] fun Q hQ=>?_
 simp(maxSteps:=1000000) (disch:=(first | omega | (simp only[cS,aki,akj,true_and,and_true];(try omega);done) | fail)) only[go_sem,hk,Int.reduceEq,Int.reduceToNat,Nat.reduceAdd,Nat.reduceMul,Nat.reduceEqDiff, ↓reduceIte]
 refine aU (X:=Nat) (st:=fun i=>([(0,.ref 0 0 0 0),(9,.I K),(10,.I i)],[some (bm L (p+i) false)]))
  (inv:=fun i=>i≤K∧p+i≤L.length∧jf L K p=jf L (K-i) (p+i)) (m:=fun i=>K-i) 0 [some 0] ⟨by omega,by omega,rfl⟩ ?_
 rintro i ⟨hi,hpi,hv⟩
 by_cases hiK:i<K
 · obtain ⟨n,hn⟩:∃n,K-i=n+1:=⟨K-i-1,by omega⟩
   rw[hn,qT] at hv
   by_cases hin:p+i<L.length
   · rw[if_pos hin] at hv
     refine ae ?_;refine aF [some 0] [] (qk (L:=L) (p:=p+i) hL hin) ?_
     cases hbit:L.getD (p+i) false with
     | true=>
       rw[hbit] at hv;refine ae ?_;refine aI (i+1) [some 0] rfl (by dsimp only;rw[←Nat.add_assoc];exact zM) zM ⟨by omega,by omega,?_⟩ zo;rw[hv,if_pos rfl,show K-(i+1)=n by omega,Nat.add_assoc]
     | false=>
       rw[hbit,if_neg (by simp)] at hv;rw[hv] at hQ;exact zE [some 0] hQ
   · rw[if_neg hin] at hv
     have hqe:p+i=L.length:=by omega
     rw[hv] at hQ;rw[hqe];refine ae ?_;refine zW [some 0] [] (gJ (L:=L) (p:=L.length) (d:=false) hL (.inr rfl)) ?_;exact ai [some 0] hQ
 · obtain rfl:i=K:=by omega
   rw[alw,qF] at hv;rw[hv] at hQ;exact zE [some 0] hQ
def oM (L:List Bool) (D:Nat):Nat→Nat→Nat→Bool×Int×Nat×Bool
 | 0,_,_=>(false,8,L.length,true)
 | f+1,r,p=>if p<L.length then
    (if L.getD p false=decide (D≤r+r)∧(if D≤r+r then r+r-D else r+r)≠0 then oM L D f (if D≤r+r then r+r-D else r+r) (p+1) else(decide (D≤r+r)&&!L.getD p false,0,p+1,false))
    else(false,8,L.length,true)
theorem jh (L:List Bool) (D f r p:Nat):oM L D (f+1) r p=if p<L.length then
 (if L.getD p false=decide (D≤r+r)∧(if D≤r+r then r+r-D else r+r)≠0 then oM L D f (if D≤r+r then r+r-D else r+r) (p+1) else(decide (D≤r+r)&&!L.getD p false,0,p+1,false))
 else(false,8,L.length,true):=by conv=>lhs;unfold oM
def fB (L:List Bool) (P D p:Nat):Bool×Int×Nat×Bool:=
 if D=0∨D<P then(false,2,p,false) else if P=0 then(false,0,p,false) else if P=D then(true,0,p,false) else oM L D (L.length+1-p) P p
theorem ql {P D:Nat} (hP:(wg P).length≤1000000) (hD1:(wg D).length≤1000000):aA Tryz.prog 201 [NV P,NV D] [] (.lit (.bool (decide (¬(D=0∨D<P))))) []:=by
 refine zF pl Tryz.call201 Tryz.func201 [.tmp 4] fun Q hQ=>?_
 by_cases hz:D=0
 · rw[akg (fun h=>h (.inl hz))] at hQ
   refine ae ?_;refine aC (dS (n:=D) zo) rfl rfl ?_;rw[aks hz];exact zE [] hQ
 · refine ae ?_
   refine aC (dS (n:=D) zo) rfl rfl ?_;rw[akg hz];refine ae ?_;refine aC (fE (a:=P) (b:=D) zo zo) rfl rfl ?_
   have e:decide (iP P D≤0)=decide (¬(D=0∨D<P)):=by
    have:iP P D≤0↔¬(D=0∨D<P):=by unfold iP;split<;>(try split)<;>omega
    simp only[this]
   refine bg e ?_;exact ai [] hQ
set_option maxHeartbeats 2000000 in
theorem xQ {L:List Bool} {P D p:Nat} (hL:L.length≤1048576) (hp:p≤L.length) (hP:(wg P).length≤500000) (hD1:(wg D).length≤500000):aA Tryz.prog 189 [.ref 0 0 0 0,NV P,NV D] [some (bm L p false)]
 (.tup [.lit (.bool (fB L P D p).1),.I (fB L P D p).2.1]) [some (bm L (fB L P D p).2.2.1 (fB L P D p).2.2.2)]:=by
 refine zF pl Tryz.call189 Tryz.func189 [.tmp 6,.tmp 7] fun Q hQ=>?_;unfold fB at hQ;refine ae ?_;refine aC (ql (P:=P) (D:=D) zo zo) rfl rfl ?_
 by_cases h1:D=0∨D<P
 · rw[akg (fun h=>h h1)]
   rw[if_pos h1] at hQ;exact zE [some 0] hQ
 · rw[aks h1]
   rw[if_neg h1] at hQ;refine ae ?_;refine aC (dS (n:=P) zo) rfl rfl ?_
   by_cases h2:P=0
   · rw[aks h2]
     rw[if_pos h2] at hQ;exact zE [some 0] hQ
   · rw[akg h2]
     rw[if_neg h2] at hQ;refine ae ?_
     refine aU (X:=Nat×Nat) (st:=fun z=>([(0,.ref 0 0 0 0),(4,.ref 1 0 0 0),(5,.ref 2 0 0 0),(8,.ref 3 0 0 0)],[some (bm L z.2 false),some (.cells [.row 1 ((nl (wg P)).map (ie .u64))]),some (.cells [.row 1 ((nl (wg D)).map (ie .u64))]),some (.cells [.row 1 ((nl (wg z.1)).map (ie .u64))])]))
      (inv:=fun z=>z.2≤L.length∧0<z.1∧z.1≤D∧(if P=D then(true,0,p,false) else oM L D (L.length+1-p) P p)=(if z.1=D then(true,0,z.2,false) else oM L D (L.length+1-z.2) z.1 z.2)) (m:=fun z=>L.length-z.2) (P,p) [some 0,some 1,some 2,some 3] ⟨hp,by simp only;omega,by simp only;omega,rfl⟩ ?_
     rintro ⟨r,q⟩ ⟨hq,hr0,hrD,hv⟩;simp only at hq hr0 hrD hv ⊢;rw[hv] at hQ;have hrl:=df hrD;refine ae ?_;refine aC (fE (a:=r) (b:=D) zo zo) rfl rfl ?_
     by_cases h3:r=D
     · rw[if_pos h3] at hQ
       have hc:¬iP r D<0:=fun h=>by have:=fA.1 h;omega
       refine bg (akg hc) ?_;exact ai [some 0] hQ
     · rw[if_neg h3] at hQ hv
       have hc:=fA.2 (show r<D by omega);obtain ⟨f,hf⟩:∃f,L.length+1-q=f+1:=⟨L.length-q,by omega⟩;rw[hf,jh] at hQ hv;have hrr:(wg (r+r)).length≤(wg D).length+1:=iX (B:=18446744073709551616) zd hrl hrl
       by_cases hin:q<L.length
       · rw[if_pos hin] at hQ hv
         refine bg (aks hc) ?_;refine zW [some 0] [] (qk (L:=L) (p:=q) hL hin) ?_;refine zC (ia (a:=r) (b:=r) zo zo) ?_
         by_cases hd:D≤r+r
         · rw[if_pos hd,aks hd] at hQ hv
           refine aC (jP (a:=r+r) (b:=D) hd zo) rfl rfl ?_;have hsl:=df (show r+r-D≤r+r by omega)
           cases hbit:L.getD q false with
           | false=>
             rw[hbit,if_neg (by simp)] at hQ;exact zE [some 0] hQ
           | true=>
             refine ae ?_;refine aC (dS (n:=r+r-D) zo) rfl rfl ?_
             by_cases hz:r+r-D=0
             · rw[hbit,if_neg (fun h=>h.2 hz)] at hQ
               rw[aks hz];exact zE [some 0] hQ
             · rw[hbit,if_pos (show true=true∧r+r-D≠0 from⟨rfl,hz⟩)] at hv
               rw[akg hz];refine ae ?_;refine aR (r+r-D,q+1) [some 0,some 1,some 2,some 5] ⟨by simp only;omega,by simp only;omega,by simp only;omega,?_⟩ (by simp only;omega);simp only;rw[hv,if_neg (show¬r+r-D=D by omega),show L.length+1-(q+1)=f by omega]
         · rw[if_neg hd,akg hd] at hQ hv
           refine aC (rV (a:=r+r) (b:=D) zo zo zo) rfl rfl ?_
           cases hbit:L.getD q false with
           | true=>
             rw[hbit,if_neg (by simp)] at hQ;exact zE [some 0] hQ
           | false=>
             have hz:r+r≠0:=by omega
             rw[hbit,if_pos (show false=false∧r+r≠0 from⟨rfl,hz⟩)] at hv;refine ae ?_;refine aC (dS (n:=r+r) zo) rfl rfl ?_;rw[akg hz];refine ae ?_;refine aR (r+r,q+1) [some 0,some 1,some 2,some 5] ⟨by simp only;omega,by simp only;omega,by simp only;omega,?_⟩ (by simp only;omega);simp only;rw[hv,if_neg (show¬r+r=D by omega),show L.length+1-(q+1)=f by omega]
       · rw[if_neg hin] at hQ
         have hqe:q=L.length:=by omega
         rw[hqe];refine bg (aks hc) ?_;refine zW [some 0] [] (gJ (L:=L) (p:=L.length) (d:=false) hL (.inr rfl)) ?_;exact ai [some 0] hQ
theorem Bb {x:Rat} {L:List Bool} {p p':Nat} {d d' r1:Bool} {r2:Int} (hx:¬x.num<0) (hs:RS 400000 x)
 (hr:aA Tryz.prog 189 [.ref 0 0 0 0,NV x.num.natAbs,NV x.den] [some (bm L p d)] (.tup [.lit (.bool r1),.I r2]) [some (bm L p' d')]):
 aA Tryz.prog 170 [.ref 0 0 0 0,RV x] [some (bm L p d)] (.tup [.lit (.bool r1),.I r2]) [some (bm L p' d')]:=by
 obtain ⟨hs1,hs2⟩:=hs;have e:RV x=.agg [.row 1 ((nl (wg x.num.natAbs)).map (ie .u64)),.lit (.bool false),.row 1 ((nl (wg (x.den-1))).map (ie .u64))]:=by unfold RV;rw[akg hx]
 have ew:WV x.num=.agg [.row 1 ((nl (wg x.num.natAbs)).map (ie .u64)),.lit (.bool false)]:=by unfold WV;rw[akg hx]
 have h1:=Oa (x:=x);have h2:=qv (z:=x.num);have h3:=j8 (z:=x.num);have h4:=qs (x:=x) zo;rw[e] at h1 h4 ⊢;rw[ew] at h1 h2 h3;rw[akg hx] at h2;refine zF PC Tryz.call170 Tryz.func170 [.tmp 4,.tmp 5] fun Q hQ=>?_;refine ae ?_;refine zC h1 ?_;refine zC h2 ?_;refine zC h1 ?_;refine zC h3 ?_;refine zC h4 ?_;refine zW [some 0] [] hr ?_;exact ai [some 0] hQ
theorem rR {L:List Bool} {D g:Nat} (hg:0<g):∀f r p,oM L (g*D) f (g*r) p=oM L D f r p
 | 0,_,_=>rfl
 | f+1,r,p=>by
   rw[jh,jh];have e1:g*r+g*r=g*(r+r):=by rw[akU]
   have e2:(g*D≤g*(r+r))=(D≤r+r):=propext ⟨fun h=>Nat.le_of_mul_le_mul_left h hg,fun h=>alg g h⟩
   have e3:(if D≤r+r then g*(r+r)-g*D else g*(r+r))=g*(if D≤r+r then r+r-D else r+r):=by
    split
    · rw[Nat.mul_sub]
    · rfl
   have e4:∀z,(g*z≠0)=(z≠0):=fun z=>propext ⟨fun h e=>h (by rw[e,amB]),fun h=>Nat.mul_ne_zero zo h⟩;simp only[e1,e2,e3,e4,rR hg f]
theorem r9 {L:List Bool} {P D g p:Nat} (hg:0<g):fB L (g*P) (g*D) p=fB L P D p:=by
 unfold fB;have e1:(g*D=0)=(D=0):=propext ⟨fun h=>(Nat.mul_eq_zero.1 h).resolve_left zo,fun h=>by rw[h,amB]⟩;have e2:(g*P=0)=(P=0):=propext ⟨fun h=>(Nat.mul_eq_zero.1 h).resolve_left zo,fun h=>by rw[h,amB]⟩;have e3:(g*D<g*P)=(D<P):=propext ⟨fun h=>Nat.lt_of_mul_lt_mul_left h,fun h=>Nat.mul_lt_mul_of_pos_left h hg⟩;have e4:(g*P=g*D)=(P=D):=propext ⟨fun h=>Nat.eq_of_mul_eq_mul_left hg h,fun h=>by rw[h]⟩;simp only[e1,e2,e3,e4,rR hg]
theorem Ny {L:List Bool} {n d p:Nat} (hd:d≠0):fB L (mkRat (n:Int) d).num.natAbs (mkRat (n:Int) d).den p=fB L n d p:=by
 rw[fa hd,iC hd,kP,ak9];have hg:0<Nat.gcd n d:=Nat.gcd_pos_of_pos_right _ zo;have h:=r9 (L:=L) (P:=n/Nat.gcd n d) (D:=d/Nat.gcd n d) (p:=p) hg;rw[Nat.mul_div_cancel' (amN n d),Nat.mul_div_cancel' (Nat.gcd_dvd_right n d)] at h;exact h.symm
theorem vm {n d:Nat} (hd:d≠0):¬(mkRat (n:Int) d).num<0:=by
 rw[fa hd,akg (show¬(n:Int)<0 by omega)];exact Int.not_lt.2 (Int.natCast_nonneg _)
theorem wa {x:Rat} (hx:¬x.num<0):x-((x.floor:Int):Rat)=mkRat ((x.num.natAbs%x.den:Nat):Int) x.den:=by
 rw[Rat.sub_def',Rat.num_intCast,Rat.den_intCast,Rat.floor_def,al9]
 congr 1
 have h:=Int.mul_ediv_add_emod x.num x.den
 have e:((x.num.natAbs%x.den:Nat):Int)=x.num%x.den:=by
  rw[Int.natCast_emod];congr 1;omega
 rw[e,Int.natCast_one,Int.mul_one,Int.mul_comm];omega
theorem Gc {x:Rat} (hx:¬x.num<0):x.floor=((x.num.natAbs/x.den:Nat):Int):=by
 rw[Rat.floor_def,Int.natCast_ediv];congr 1;omega
def oO (L:List Bool) (n d p:Nat):Int×Int×Nat×Bool:=
 let r:=fB L (n%d) d p
 (if r.2.1=0 then((n/d+(if r.1 then 1 else 0):Nat):Int) else 0,r.2.1,r.2.2.1,r.2.2.2)
theorem J9 {x y:Rat}:Cv x y<0↔x<y:=by
 unfold Cv
 split
 · rename_i h;simp[h]
 · rename_i h;split<;>simp[h]
theorem HW {x y:Rat}:0<Cv x y↔y<x:=by
 unfold Cv
 split
 · rename_i h
   have:=Rat.not_lt.2 (Rat.le_of_lt h)
   simp[this]
 · rename_i h;split<;>simp[*]
theorem lz {x:Rat} (h:0≤x):¬x.num<0:=by have:=Rat.num_nonneg.2 h;omega
theorem rP {x:Rat} {L:List Bool} {p p':Nat} {d d' r1:Bool} {r2:Int} (hs:RS 100000 x) (h1:¬x<0) (h2:¬((1099511627776:Int):Rat)<x)
 (hch:aA Tryz.prog 189 [.ref 0 0 0 0,NV (x-((x.floor:Int):Rat)).num.natAbs,NV (x-((x.floor:Int):Rat)).den] [some (bm L p d)] (.tup [.lit (.bool r1),.I r2]) [some (bm L p' d')]):
 aA Tryz.prog 134 [.ref 0 0 0 0,RV x] [some (bm L p d)]
 (.tup [.I (if r2=0 then((x.num.natAbs/x.den+(if r1 then 1 else 0):Nat):Int) else 0),.I r2]) [some (bm L p' d')]:=by
 have h0:=Lh (n:=0) zd zd;have hM:=Lh (n:=1099511627776) zd zd;have s0:RS 400000 ((0:Int):Rat):=te (akE (di zd) zd) zd;have sM:RS 400000 ((1099511627776:Int):Rat):=te (akE (di zd) zd) zd;have c0:=CJ (hs.mono zd) s0;have cM:=CJ (hs.mono zd) sM;have e0:=J9 (x:=x) (y:=((0:Int):Rat));have eM:=HW (x:=x) (y:=((1099511627776:Int):Rat))
 have hfl:x.floor≤1099511627776:=by
  have:=Rat.floor_monotone (Rat.not_lt.1 h2)
  rwa [Rat.floor_intCast] at this
 rw[show((0:Int):Rat)=0 from rfl] at h0 s0 c0 e0;rw[OF] at h0 c0;have hd:=akg (fun e=>h1 (e0.1 e));have hd2:=akg (fun e=>h2 (eM.1 e));generalize ((1099511627776:Int):Rat)=M at*
 have hn:¬x.num<0:=lz (Rat.not_lt.1 h1);have hfn:=Gc hn;have hre:=wa hn;have hf:=F7 (x:=x) (hs.mono zd);have hab:=j8 (z:=x.floor);have hfl2:x.floor.natAbs=x.num.natAbs/x.den:=by rw[hfn];rfl
 have hfl3:(wg (x.num.natAbs/x.den)).length≤1:=di zo;have hna:=MH (n:=x.num.natAbs/x.den) zo;rw[←hfn] at hna;have hsf:RS 1 ((x.floor:Int):Rat):=te (by rw[hfl2];exact hfl3) zd;have hsb:=Nx (hs.mono (show 100000≤400000 by decide)) (hsf.mono (show 1≤400000 by decide));have hrs:=JA hs hsf;have hch:=Bb (x:=x-((x.floor:Int):Rat)) (by rw[hre];exact vm x.den_nz) (hrs.mono zd) hch;have hin:=Ml (n:=x.num.natAbs/x.den) (M:=1099511627776) (m:=1099511627776) zo zo zo;rw[show min (x.num.natAbs/x.den) 1099511627776=x.num.natAbs/x.den by omega] at hin;rw[hfl2] at hab;generalize x-((x.floor:Int):Rat)=y at*
 have hfi:x.num.natAbs/x.den≤1099511627776:=by omega
 generalize x.num.natAbs/x.den=fl at*
 refine zF HU Tryz.call134 Tryz.func134 [.tmp 4,.tmp 5] fun Q hQ=>?_;refine ae ?_;refine zC h0 ?_;refine aC (c0) rfl rfl ?_;refine bg hd ?_;refine zC hM ?_;refine aC (cM) rfl rfl ?_;refine bg hd2 ?_;refine zC hf ?_;refine zC hab ?_;refine zC hna ?_;refine zC hsb ?_;refine aF [some 0] [] (hch) ?_
 by_cases hr:r2=0
 · rw[if_pos hr] at hQ
   subst hr
   cases r1
   · refine ae ?_
     refine zC hin ?_;exact ai [some 0] hQ
   · refine ae ?_
     refine zC hin ?_;exact ai [some 0] hQ
 · rw[if_neg hr] at hQ
   exact zE [some 0] hQ
theorem Hr {x:Rat} {L:List Bool} {p:Nat} (hn:¬x.num<0):fB L (x-((x.floor:Int):Rat)).num.natAbs (x-((x.floor:Int):Rat)).den p=fB L (x.num.natAbs%x.den) x.den p:=by
 rw[wa hn,Ny x.den_nz]
theorem C1 {x:Rat} (hs:RS 100000 x):RS 200002 (x-((x.floor:Int):Rat)):=by
 have hf:RS 100001 ((x.floor:Int):Rat):=te (by
  rw[Rat.floor_def];have h1:=Int.natAbs_ediv_le_natAbs x.num (x.den:Int);exact akE (df h1) (by have:=hs.1;omega)) zd
 exact(JA hs hf).mono zd
theorem FO {x:Rat} {L:List Bool} {p:Nat} (hL:L.length≤1048576) (hp:p≤L.length) (hs:RS 100000 x) (h1:¬x<0) (h2:¬((1099511627776:Int):Rat)<x):aA Tryz.prog 134 [.ref 0 0 0 0,RV x] [some (bm L p false)]
 (.tup [.I (oO L x.num.natAbs x.den p).1,.I (oO L x.num.natAbs x.den p).2.1]) [some (bm L (oO L x.num.natAbs x.den p).2.2.1 (oO L x.num.natAbs x.den p).2.2.2)]:=by
 have hrs:=C1 hs;have hr:=xQ (L:=L) (P:=(x-((x.floor:Int):Rat)).num.natAbs) (D:=(x-((x.floor:Int):Rat)).den) (p:=p) hL hp (akE hrs.1 zd) (akE hrs.2 zd);rw[Hr (lz (Rat.not_lt.1 h1))] at hr;exact rP hs h1 h2 hr
end Go.Proofs.YtcnlmelpnflhnaaGreat
