import Derived.Test.YtcnlmelpnflhnaaGreatHa
import Derived.Test.YtcnlmelpnflhnaaGreatD3
import Derived.Test.YtcnlmelpnflhnaaGreatN1
import Derived.Test.YtcnlmelpnflhnaaGreatFb
import Derived.Test.YtcnlmelpnflhnaaGreatOb
import Derived.Test.YtcnlmelpnflhnaaGreatFw
import Derived.Test.YtcnlmelpnflhnaaGreatRa
import Derived.Test.YtcnlmelpnflhnaaGreatAa
import Derived.Test.YtcnlmelpnflhnaaGreatFa
import Derived.Test.YtcnlmelpnflhnaaGreatNi
namespace Go.Proofs.YtcnlmelpnflhnaaGreat
open Go.Eng Go.Vx
set_option linter.unusedSimpArgs false
set_option linter.unusedVariables false
set_option maxRecDepth 100000
theorem vU {v N:Nat} (hN:N≤8192) (hv:(wg v).length≤1000000):aA Tryz.prog 131 [NV v,.I N] [] (.tup [NV (v*2^N),.I 0]) []:=by
 refine zF Qp Tryz.call131 Tryz.func131 [.cell 4 157,.tmp 5] fun Q hQ=>?_;have hnl:=av (wg v);have hq:(N:Int)/64=((N/64:Nat):Int):=by omega
 have hs:(N:Int)%64=((N%64:Nat):Int):=by omega
 have hm:=sx (W:=wg v) (s:=N%64) (fe v) zo zo;rw[eH] at hm;have hF:=cJ (B:=18446744073709551616) ((wg v).length+1) (v*2^(N%64));have hFl:=pG (B:=18446744073709551616) zd ((wg v).length+1) (v*2^(N%64))
 have hFv:aE 18446744073709551616 (fw 18446744073709551616 ((wg v).length+1) (v*2^(N%64)))=v*2^(N%64):=by
  rw[kL zd,akG];have h1:v<18446744073709551616^(wg v).length:=gh (B:=18446744073709551616) zd v
  have h2:2^(N%64)≤18446744073709551616:=by
   rw[show(18446744073709551616:Nat)=2^64 from rfl];exact ako zd zo
  rw[akM];exact akT (amE h1 (akN zd)) (alg _ h2)
 have hval:aE 18446744073709551616 (List.replicate (N/64) 0++fw 18446744073709551616 ((wg v).length+1) (v*2^(N%64)))=v*2^N:=by
  rw[jF,sZ,akB,akP,hFv,show(18446744073709551616:Nat)=2^64 from rfl,←Nat.pow_mul,al0,←ale,akO]
 have hall:∀d∈List.replicate (N/64) 0++fw 18446744073709551616 ((wg v).length+1) (v*2^(N%64)),d<18446744073709551616:=fun d hd=>by
  rcases alK.1 hd with h | h
  · rw[alR h];decide
  · exact hFl d h
 have hlen:(List.replicate (N/64) 0++fw 18446744073709551616 ((wg v).length+1) (v*2^(N%64))).length≤4000000:=by
  rw[ake,akB,hF];omega
 have hsplit:nl (List.replicate (N/64) 0++fw 18446744073709551616 ((wg v).length+1) (v*2^(N%64)))=nl (List.replicate (N/64) 0)++nl (fw 18446744073709551616 ((wg v).length+1) (v*2^(N%64))):=by unfold nl;rw[alQ]
 have hrep:=mQ (N/64);generalize fw 18446744073709551616 ((wg v).length+1) (v*2^(N%64))=F at*
 clear hFv;generalize N/64=q at*
 generalize N%64=s at*
 have hnF:=av F;rw[←hF] at hm;refine eo hq hs ?_;refine dk (hm) ?_;have htk:List.take F.length (nl F)=nl F:=aku zo
 have happ:List.map (ie .u64) (List.replicate q 0++nl F)=List.map (ie .u64) (nl (List.replicate q 0++F)):=by
  rw[hsplit,hrep]
 have hll:q+(nl F).length=(List.replicate q 0++F).length:=by rw[ake,akB,hnF]
 refine Oc hq hs htk happ hll ?_;have hnl4:=av (List.replicate q 0++F);refine aF [] [4] (dD (l:=List.replicate q 0++F) hall hlen) ?_;rw[hval];exact zE [] hQ
abbrev PL:=Nat×Nat×Nat×Nat
def LO (x:PL):V:=.agg [.I x.1,.I x.2.1,.row 1 ((nl (wg x.2.2.1)).map (ie .u64)),.row 1 ((nl (wg x.2.2.2)).map (ie .u64))]
attribute [go_sem] LO
def nk (s t:Nat):Nat:=t+if t/2^s*2^s<t then t/2^s+1 else t/2^s
def plN (s:Nat) (x:PL):PL:=if x.2.2.2≤x.2.2.1+2^x.2.1 then(x.1+1,bl (nk s x.2.2.2)-1-2*s,x.2.2.1+2^x.2.1,nk s x.2.2.2) else(x.1,x.2.1,x.2.2.1+2^x.2.1,x.2.2.2)
theorem dK {n:Nat} (h:n<18446744073709551616):(wg n).length≤1:=di h
theorem It {s t:Nat} (hs:s≤5) (ht:t<4294967296):aA Tryz.prog 261 [.I s,NV t] [] (NV (nk s t)) []:=by
 have w0:=dK (n:=t) zo;have hp:2^s≤2^5:=ako zd hs;have hd:t/2^s≤t:=alq _ _;have hm:t/2^s*2^s≤t:=amU _ _;have w1:=dK (n:=t/2^s) zo;have w2:=dK (n:=t/2^s*2^s) zo;have w3:=dK (n:=t/2^s+1) zo;have w4:=dK (n:=1) zo;have sr:=Cc (v:=t) (N:=s) (n:=(s:Int)) zo zo zo;have sl:=vU (v:=t/2^s) (N:=s) zo zo;have cm:=fE (a:=t/2^s*2^s) (b:=t) zo zo;have o1:=eI (x:=1) zd;rw[show((1:Nat):Int)=1 from rfl] at o1;have a1:=ia (a:=t/2^s) (b:=1) zo zo;have a2:=ia (a:=t) (b:=t/2^s+1) zo zo;have a3:=ia (a:=t) (b:=t/2^s) zo zo;have hc:=fA (a:=t/2^s*2^s) (b:=t);unfold nk;generalize t/2^s*2^s=u at*
 generalize t/2^s=q at*
 refine zF P3 Tryz.call261 Tryz.func261 [.cell 4 157] fun Q hQ=>?_
 by_cases hu:u<t
 · rw[if_pos hu] at hQ
   have hd:=aks (hc.2 hu);refine ae ?_;refine zC sr ?_;refine zC sl ?_;refine aC (cm) rfl rfl ?_;refine bg hd ?_;refine zW [] [4] o1 ?_;refine zC a1 ?_;refine zC a2 ?_;exact ai [] hQ
 · rw[if_neg hu] at hQ
   have hd:=akg (fun e=>hu (hc.1 e));refine ae ?_;refine zC sr ?_;refine zC sl ?_;refine aC (cm) rfl rfl ?_;refine bg hd ?_;refine zC a3 ?_;exact ai [] hQ
theorem Ea {s t:Nat} (hs:s≤5) (ht:t<4294967296*3):aA Tryz.prog 262 [.I s,NV t] [] (.I ((bl t-1-2*s:Nat):Int)) []:=by
 have w0:=dK (n:=t) zo;have b:=OD (n:=t) zo;have hb:=bI (n:=t) (k:=34) zo;have hm:max 0 ((bl t:Int)-1-2*(s:Int))=((bl t-1-2*s:Nat):Int):=by omega
 generalize bl t=B at*
 refine zF pl Tryz.call262 Tryz.func262 [.tmp 4] fun Q hQ=>?_;refine ae ?_;refine aC (b) rfl rfl ?_;refine bg hm ?_;exact ai [] hQ
theorem ML {s t:Nat}:nk s t≤t+(t+1):=by
 have hd:t/2^s≤t:=alq _ _;unfold nk
 split<;>omega
set_option maxHeartbeats 1000000 in
theorem KN {s:Nat} {x:PL} (hs:s≤5) (h1:x.1<100000) (h2:x.2.1≤30) (h3:x.2.2.1<4294967296) (h4:x.2.2.2<4294967296):aA Tryz.prog 260 [LO x,.I s] [] (LO (plN s x)) []:=by
 obtain ⟨X,Sh,U,R⟩:=x;dsimp only at h1 h2 h3 h4;have hp:2^Sh≤2^30:=Nat.pow_le_pow_right zd h2;have hmb:=ML (s:=s) (t:=R);have wV:=dK (n:=U) zo;have wR:=dK (n:=R) zo;have w1:=dK (n:=1) zo;have wS:=dK (n:=2^Sh) zo;have wA:=dK (n:=U+2^Sh) zo;have wM:=dK (n:=nk s R) zo;have o1:=eI (x:=1) zd;rw[show((1:Nat):Int)=1 from rfl] at o1;have sl:=vU (v:=1) (N:=Sh) zo zo;rw[Nat.one_mul] at sl;have a1:=ia (a:=U) (b:=2^Sh) zo zo;have cm:=fE (a:=U+2^Sh) (b:=R) zo zo;have hc:=fA (a:=U+2^Sh) (b:=R);have mo:=It hs h4;have sh:=Ea (s:=s) (t:=nk s R) hs zo;unfold plN;dsimp only;generalize nk s R=M at*
 generalize U+2^Sh=A at*
 generalize 2^Sh=P at*
 refine zF PD Tryz.call260 Tryz.func260 [.cell 4 321] fun Q hQ=>?_
 by_cases hu:R≤A
 · rw[if_pos hu] at hQ
   have hd:=aks (show(0:Int)≤iP A R from by
    refine Classical.byContradiction fun h=>?_
    have:=hc.1 zo
    omega)
   refine ae ?_;refine zW [] [2] o1 ?_;refine zC sl ?_;refine zC a1 ?_;refine aC (cm) rfl rfl ?_;refine bg hd ?_;refine zC mo ?_;refine zC sh ?_;exact ai [] hQ
 · rw[if_neg hu] at hQ
   have hd:=akg (show¬(0:Int)≤iP A R from by
    have:=hc.2 (show A<R by omega)
    omega)
   refine ae ?_;refine zW [] [2] o1 ?_;refine zC sl ?_;refine zC a1 ?_;refine aC (cm) rfl rfl ?_;refine bg hd ?_;exact ai [] hQ
def ajW (L:List Bool) (n d p:Nat):Nat×Int×Nat×Bool:=
 (if (fB L (n%d) d p).2.1=0 then n/d+(if (fB L (n%d) d p).1 then 1 else 0) else 0,(fB L (n%d) d p).2.1,(fB L (n%d) d p).2.2.1,(fB L (n%d) d p).2.2.2)
def nj (L:List Bool) (p:Nat) (r:Nat×Int×Nat×Bool):Prop:=r=(0,8,L.length,true)∨∃n e q,r=(n,e,q,false)∧e≠8∧p≤q∧q≤L.length
theorem Bm {L:List Bool} {a b g p:Nat} (hg:0<g):oO L (g*a) (g*b) p=oO L a b p:=by
 unfold oO;rw[Nat.mul_mod_mul_left,Nat.mul_div_mul_left _ _ hg,r9 hg]
theorem uv {L:List Bool} {A B p:Nat} (hB:B≠0):oO L (((A:Int):Rat)/((B:Int):Rat)).num.natAbs (((A:Int):Rat)/((B:Int):Rat)).den p=oO L A B p:=by
 have h:=qt (p:=(A:Int)) (q:=(B:Int)) zo;rw[akg (show¬(A:Int)<0 by omega),akg (show¬(B:Int)<0 by omega)] at h;rw[←h,ak9,ak9];show oO L (mkRat (A:Int) B).num.natAbs (mkRat (A:Int) B).den p=_;rw[fa hB,iC hB,kP,ak9];have hg:0<Nat.gcd A B:=Nat.gcd_pos_of_pos_right _ zo;have h2:=Bm (L:=L) (a:=A/Nat.gcd A B) (b:=B/Nat.gcd A B) (p:=p) hg;rw[Nat.mul_div_cancel' (amN A B),Nat.mul_div_cancel' (Nat.gcd_dvd_right A B)] at h2;exact h2.symm
theorem pF {A B:Nat} (hB:B≠0) (hA:A≤1099511627776):¬((A:Int):Rat)/((B:Int):Rat)<0∧¬((1099511627776:Int):Rat)<((A:Int):Rat)/((B:Int):Rat):=by
 have hB':(0:Rat)<((B:Int):Rat):=Rat.intCast_pos.2 zo;constructor
 · rw[Rat.not_lt,←Rat.num_nonneg]
   have:=ye (A:=A) hB
   omega
 · rw[Rat.lt_div_iff hB',←Rat.intCast_mul,Rat.intCast_lt_intCast]
   have:=alg 1099511627776 (show 1≤B by omega)
   omega
def mD (k a b:Int):Prop:=∃k' a' b':Nat,k=k'∧a=a'∧b=b'∧aX k' a' b'
theorem G5 {k a w:Int} (h1:k≠1) (h2:k≠2) (h3:k≠3):aA Tryz.prog 125 [.agg [.I k,.I a,.I w]] [] (.lit .nilIface) []:=by
 refine zF pl Tryz.call125 Tryz.func125 [.tmp 2] fun Q hQ=>?_;exact zE [] hQ
set_option maxHeartbeats 1000000 in
theorem Af {k a b:Int} (h:¬mD k a b) (h4:k≠4):aA Tryz.prog 157 [.agg [.I k,.I a,.I b]] [] (.I 10) []:=by
 by_cases h1:k=1
 · subst h1
   have k1:=sj (a:=a) (w:=b);have g:=uR (a:=a)
   by_cases ha:1≤a∧a≤4096
   · rw[aks ha] at g
     by_cases hb1:1≤b
     · by_cases hb2:b≤10
       · obtain ⟨x,rfl⟩:=al3 (show 0≤a by omega)
         obtain ⟨y,rfl⟩:=al3 (show 0≤b by omega);have hm:¬bl (x+1)*(2^y-1)≤8192:=fun hm=>h ⟨1,x,y,rfl,rfl,rfl,.inl ⟨rfl,by omega,by omega,by omega,by omega,hm⟩⟩;have ln:=wo (n:=x+1) zo;have ha1:(x:Int)+1=((x+1:Nat):Int):=by omega
         have hs:=shW (k:=y) zo;have hp:1≤2^y:=akN zd;have hp2:2^y≤2^10:=ako zd zo;have hb:=bI (n:=x+1) (k:=13) zo
         have hm2:((bl (x+1):Nat):Int)*(((2^y:Nat):Int)-1)=((bl (x+1)*(2^y-1):Nat):Int):=by
          rw[show(((2^y:Nat):Int)-1)=((2^y-1:Nat):Int) by omega]
          simp
         have hbd:bl (x+1)*(2^y-1)≤13*1024:=akH hb zo;refine zF lh Tryz.call157 Tryz.func157 [.tmp 2] fun Q hQ=>?_;refine ae ?_;refine zC k1 ?_;refine aC (g) rfl rfl ?_;refine bg ha1 ?_;refine aC (ln) rfl rfl ?_;generalize bl (x+1)*(2^y-1)=m at*
         refine QI hs hm2 ?_;exact ai [] hQ
       · refine zF lh Tryz.call157 Tryz.func157 [.tmp 2] fun Q hQ=>?_
         refine ae ?_;refine zC k1 ?_;refine zC g ?_;exact ai [] hQ
     · refine zF lh Tryz.call157 Tryz.func157 [.tmp 2] fun Q hQ=>?_
       refine ae ?_;refine zC k1 ?_;refine zC g ?_;exact ai [] hQ
   · rw[akg ha] at g
     refine zF lh Tryz.call157 Tryz.func157 [.tmp 2] fun Q hQ=>?_;refine ae ?_;refine zC k1 ?_;refine zC g ?_;exact ai [] hQ
 · by_cases h2:k=2
   · subst h2
     have k1:=qX (a:=a) (w:=b);have g:=ui (a:=a)
     by_cases ha:0≤a∧a≤8
     · rw[aks ha] at g
       have hb:b<1∨10<b:=by
        refine Classical.byContradiction fun hc=>h ⟨2,a.toNat,b.toNat,rfl,by omega,by omega,.inr (.inl ⟨rfl,by omega,by omega,by omega⟩)⟩
       refine zF lh Tryz.call157 Tryz.func157 [.tmp 2] fun Q hQ=>?_;rcases hb with hb | hb
       · refine ae ?_
         refine zC k1 ?_;refine zC g ?_;exact ai [] hQ
       · refine ae ?_
         refine zC k1 ?_;refine zC g ?_;exact ai [] hQ
     · rw[akg ha] at g
       refine zF lh Tryz.call157 Tryz.func157 [.tmp 2] fun Q hQ=>?_;refine ae ?_;refine zC k1 ?_;refine zC g ?_;exact ai [] hQ
   · by_cases h3:k=3
     · subst h3
       have k1:=qW (a:=a) (w:=b);have g:=uf (a:=a)
       by_cases ha:1≤a∧a≤5
       · rw[aks ha] at g
         have hb:b<1∨10<b:=by
          refine Classical.byContradiction fun hc=>h ⟨3,a.toNat,b.toNat,rfl,by omega,by omega,.inr (.inr (.inl ⟨rfl,by omega,by omega,by omega,by omega⟩))⟩
         refine zF lh Tryz.call157 Tryz.func157 [.tmp 2] fun Q hQ=>?_;rcases hb with hb | hb
         · refine ae ?_
           refine zC k1 ?_;refine zC g ?_;exact ai [] hQ
         · refine ae ?_
           refine zC k1 ?_;refine zC g ?_;exact ai [] hQ
       · rw[akg ha] at g
         refine zF lh Tryz.call157 Tryz.func157 [.tmp 2] fun Q hQ=>?_;refine ae ?_;refine zC k1 ?_;refine zC g ?_;exact ai [] hQ
     · have k1:=G5 (a:=a) (w:=b) h1 h2 h3
       refine zF lh Tryz.call157 Tryz.func157 [.tmp 2] fun Q hQ=>?_;refine ae ?_;refine zC k1 ?_;exact ai [] hQ
theorem Ck {a b:Int} (h:a<1∨1023<a∨b<0∨20<b):aA Tryz.prog 156 [.agg [.I a,.I b]] [] (.I 10) []:=by
 refine zF pl Tryz.call156 Tryz.func156 [.tmp 2] fun Q hQ=>?_
 by_cases h1:a<1
 · refine ae ?_
   exact ai [] hQ
 · by_cases h2:1023<a
   · refine ae ?_
     exact ai [] hQ
   · by_cases h3:b<0
     · refine ae ?_
       exact ai [] hQ
     · have h4:20<b:=by omega
       exact zE [] hQ
theorem jT {k a b:Int} (h:¬mD k a b):aA Tryz.prog 121 [.agg [.I k,.I a,.I b]] [] (.I 10) []:=by
 refine zF pl Tryz.call121 Tryz.func121 [.tmp 2] fun Q hQ=>?_
 by_cases h4:k=4
 · subst h4
   have c:=Ck (a:=a) (b:=b) (Classical.byContradiction fun hc=>h ⟨4,a.toNat,b.toNat,rfl,by omega,by omega,.inr (.inr (.inr ⟨rfl,by omega,by omega,by omega⟩))⟩);have t:=kD (k:=4) (a:=a) (b:=b);refine ae ?_;refine zC t ?_;refine zC c ?_;exact ai [] hQ
 · have c:=Af h h4
   have t:=jv (k:=k) (a:=a) (b:=b);refine ae ?_;refine zC t ?_;refine zC c ?_;exact ai [] hQ
def xl (N:Nat):Int:=((N*lgN (max 1 N):Nat):Int)
def mz (K P C:Int):Prop:=(K=1∧1≤P∧P≤8∨K=2∧P=0)∧1≤C∧C≤16
theorem FU {K P C:Int} (h:mz K P C):aA Tryz.prog 85 [.agg [.I K,.I P,.I C]] [] (.I 0) []:=by
 obtain ⟨h,h1,h2⟩:=h;refine zF pl Tryz.call85 Tryz.func85 [.tmp 2] fun Q hQ=>?_;rcases h with⟨rfl,h3,h4⟩ | ⟨rfl,rfl⟩
 · refine ae ?_
   exact ai [] hQ
 · refine ae ?_
   exact ai [] hQ
theorem AI {K P C:Int} (h:¬mz K P C):aA Tryz.prog 85 [.agg [.I K,.I P,.I C]] [] (.I 10) []:=by
 refine zF pl Tryz.call85 Tryz.func85 [.tmp 2] fun Q hQ=>?_;unfold mz at h
 by_cases h1:K=1
 · subst h1
   by_cases h2:1≤P
   · by_cases h3:P≤8
     · by_cases h4:C<1
       · refine ae ?_
         exact ai [] hQ
       · have h5:16<C:=by omega
         exact zE [] hQ
     · refine ae ?_
       exact ai [] hQ
   · refine ae ?_
     exact ai [] hQ
 · by_cases h2:K=2
   · subst h2
     by_cases h3:P=0
     · subst h3
       by_cases h4:C<1
       · refine ae ?_
         exact ai [] hQ
       · have h5:16<C:=by omega
         exact zE [] hQ
     · refine ae ?_
       exact ai [] hQ
   · refine ae ?_
     exact ai [] hQ
def gN (K:Int) (P N:Nat):Nat:=if K=2 then N*lgN (max 1 N) else N^P
def sV (x:Nat×Nat):List PV:=[.lit (.int .u64 x.1),.I x.2]
def oH (K P C:Int) (X:List (Nat×Nat)) (N:Nat):Ob:=.cells [.I K,.I P,.I C,.row 2 (X.map sV),.I N]
def L4 (K P C:Int) (X:List (Nat×Nat)) (N:Nat):V:=.rref 5 [[.I K,.I P,.I C,.row 2 (X.map sV),.I N]] 0 0
attribute [go_sem] oH L4
@[go_sem] theorem X4 {x:Nat×Nat}:sV x=[.lit (.int .u64 x.1),.I x.2]:=(rfl)
@[go_sem] theorem agB {X:List (Nat×Nat)} {z:Nat}:NG (.row z (X.map sV))=True:=eq_true fun e he p hp=>by
 obtain ⟨x,_,rfl⟩:=alb.1 he;rw[X4] at hp;simp only[aky,ak6,or_false] at hp;rcases hp with rfl | rfl<;>rfl
theorem Lc {K P C:Int} (h:¬mz K P C):aA Tryz.prog 34 [.agg [.I K,.I P,.I C]] [] (.tup [.lit (.pointer none),.I 10]) []:=by
 have hc:=AI h;refine zF Sy Tryz.call34 Tryz.func34 [.tmp 2,.tmp 3] fun Q hQ=>?_;refine ae ?_;refine zC hc ?_;exact ai [] hQ
def dG (K:Int) (P R:Nat):Rat:=(((gN K P R:Nat):Int):Rat)-(((gN K P (R-1):Nat):Int):Rat)
def dGe (K:Int) (P R:Nat):Rat:=if K=2 then dG K P R/((268435456:Int):Rat) else dG K P R
open Go.Eng
theorem Js {L:List Bool} {k:Nat}:∀{f r p F:Nat},f≤k→r≠0→r<2^k→2^(k-f)∣r→p≤L.length→L.length+1-p≤F→
 oM L (2^k) F r p=match (rv (2^k) f r).run L p with | some (b,q)=>(b,0,q,false) | none=>(false,8,L.length,true):=by
 intro f
 induction f with
 | zero=>
   intro r p F _ h0 h1 h2;exact absurd (Nat.eq_zero_of_dvd_of_lt h2 (by simpa using h1)) h0
 | succ f ih=>
   intro r p F hk h0 h1 h2 hp hF;obtain ⟨F,rfl⟩:∃G,F=G+1:=⟨F-1,by omega⟩;have h3:=Cw hk h2;have hdk:2^(k-f)∣2^k:=Nat.pow_dvd_pow 2 zo;rw[jh];unfold rv;generalize hD:2^k=D at*
   by_cases hge:D≤r+r
   · rw[if_pos hge,if_pos hge,lU]
     simp only[aks hge]
     by_cases hpl:p<L.length
     · rw[if_pos hpl,if_pos hpl]
       cases hb:L.getD p false with
       | true=>
         by_cases hz:r+r-D=0
         · rw[if_neg (by simp[hz]),if_pos rfl,if_pos hz]
           rfl
         · rw[if_pos ⟨rfl,hz⟩,if_pos rfl,if_neg hz]
           exact ih zo hz zo (Nat.dvd_sub h3 hdk) zo zo
       | false=>
         rw[if_neg (by simp),if_neg (by simp)]
         rfl
     · rw[if_neg hpl,if_neg hpl]
   · rw[if_neg hge,if_neg hge,lU]
     simp only[akg hge];have hz:r+r≠0:=by omega
     by_cases hpl:p<L.length
     · rw[if_pos hpl,if_pos hpl]
       cases hb:L.getD p false with
       | true=>
         rw[if_neg (by simp),if_pos rfl]
         rfl
       | false=>
         rw[if_pos ⟨rfl,hz⟩,if_neg (by simp),if_neg hz];exact ih zo hz zo h3 zo zo
     · rw[if_neg hpl,if_neg hpl]
theorem yv {L:List Bool} {n k p:Nat} (hp:p≤L.length):oO L n (2^k) p=match (fq n k).run L p with | some (a,q)=>((a:Int),0,q,false) | none=>(0,8,L.length,true):=by
 have hpos:0<2^k:=akN zd;have hlt:=akD n hpos;unfold oO fq fB;rw[if_neg zo]
 by_cases hz:n%2^k=0
 · rw[if_pos hz,if_pos hz]
   simp[DT.run]
 · rw[if_neg hz,if_neg hz,if_neg zo]
   have h:=Js (L:=L) (k:=k) (f:=k) (r:=n%2^k) (p:=p) (F:=L.length+1-p) (akk k) hz hlt (by rw[alw];exact Nat.one_dvd _) hp (akk _);rw[h,run_bind]
   cases hr:(rv (2^k) k (n%2^k)).run L p with
   | none=>simp
   | some x=>
     obtain ⟨b,q⟩:=x
     cases b<;>simp[bit,DT.run]
theorem Jy {L:List Bool} {D k r:Nat}:(rv D (k+1) r).run L L.length=none:=by
 unfold rv
 split
 · rw[lU,if_neg (Nat.lt_irrefl _)]
 · rw[lU,if_neg (Nat.lt_irrefl _)]
theorem zp {L:List Bool} {n k:Nat}:(fq n k).run L L.length=if n%2^k=0 then some (n/2^k,L.length) else none:=by
 unfold fq;have hpos:0<2^k:=akN zd;have hlt:=akD n hpos
 by_cases hz:n%2^k=0
 · rw[if_pos hz,if_pos hz]
   rfl
 · rw[if_neg hz,if_neg hz,run_bind]
   cases k with
   | zero=>omega
   | succ k=>rw[Jy]
end Go.Proofs.YtcnlmelpnflhnaaGreat
