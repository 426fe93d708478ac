import Derived.Test.YtcnlmelpnflhnaaGreatZ1
import Derived.Test.YtcnlmelpnflhnaaGreatE8
namespace Go.Proofs.YtcnlmelpnflhnaaGreat
open Go.Eng Go.Vx
set_option linter.unusedSimpArgs false
set_option linter.unusedVariables false
set_option maxRecDepth 100000
def RV (x:Rat):V:=.agg [.row 1 ((nl (wg x.num.natAbs)).map (ie .u64)),.lit (.bool (decide (x.num<0))),.row 1 ((nl (wg (x.den-1))).map (ie .u64))]
attribute [go_sem] RV
def RS (k:Nat) (x:Rat):Prop:=(wg x.num.natAbs).length≤k∧(wg x.den).length≤k
theorem RS.mono {k l:Nat} {x:Rat} (h:RS k x) (hk:k≤l):RS l x:=⟨akE h.1 hk,akE h.2 hk⟩
theorem Rl {b:Bool} {X g:Nat} (hg:g≠0) (hd:X%g=0):sg b X/(g:Int)=sg b (X/g):=by
 cases b
 · exact(yT hg).1
 · exact(uM hg hd).1
theorem fa {n:Int} {d:Nat} (hd:d≠0):(mkRat n d).num=sg (decide (n<0)) (n.natAbs/Nat.gcd n.natAbs d):=by
 have hg:Nat.gcd n.natAbs d≠0:=fun e=>hd (Nat.gcd_eq_zero_iff.1 e).2;rw[Rat.num_mkRat,if_neg hd,Nat.gcd_comm];have h:=Rl (b:=decide (n<0)) hg (Nat.mod_eq_zero_of_dvd (amN n.natAbs d))
 rwa [lY] at h
theorem iC {n:Int} {d:Nat} (hd:d≠0):(mkRat n d).den=d/Nat.gcd n.natAbs d:=by
 rw[Rat.den_mkRat,if_neg hd,Nat.gcd_comm]
theorem PA {n:Int} {d k:Nat} (hd:d≠0) (h1:(wg n.natAbs).length≤k) (h2:(wg d).length≤k):RS k (mkRat n d):=by
 constructor
 · rw[fa hd,kP]
   exact akE (df (alq _ _)) h1
 · rw[iC hd]
   exact akE (df (alq _ _)) h2
theorem zt {n:Int} {d:Nat} (hd:d≠0) (h1:(wg n.natAbs).length≤1000000) (h2:(wg d).length≤1000000):aA Tryz.prog 163 [WV n,NV d] [] (RV (mkRat n d)) []:=by
 have hg:Nat.gcd n.natAbs d≠0:=fun e=>hd (Nat.gcd_eq_zero_iff.1 e).2;have hgl:(wg (Nat.gcd n.natAbs d)).length≤1000000:=akE (df (Nat.gcd_le_right _ zo)) h2;have hgd:=Nat.gcd_le_right n.natAbs (show 0<d by omega);have hgc:=LY (a:=n.natAbs) (b:=d) h1 h2;have hq:1≤d/Nat.gcd n.natAbs d:=(Nat.one_le_div_iff zo).2 hgd;have ho:=eI (x:=1) zd;have hab:=qB (a:=n.natAbs) (b:=Nat.gcd n.natAbs d) hg h1 hgl;have hbe:=qB (a:=d) (b:=Nat.gcd n.natAbs d) hg h2 hgl;have hal:(wg (n.natAbs/Nat.gcd n.natAbs d)).length≤1000000:=akE (df (alq _ _)) h1;have hbl:(wg (d/Nat.gcd n.natAbs d)).length≤1000000:=akE (df (alq _ _)) h2;refine zF xD Tryz.call163 Tryz.func163 [.cell 4 234] fun Q hQ=>?_;unfold RV at hQ;rw[fa hd,iC hd] at hQ;generalize Nat.gcd n.natAbs d=g at*
 generalize n.natAbs/g=a at*
 generalize d/g=b at*
 generalize n.natAbs%g=ra at*
 generalize d%g=rb at*
 have hm:=cL (b:=decide (n<0)) (n:=a) zo;have hsub:=jP (a:=b) (b:=1) hq zo;refine ae ?_;refine zC (j8 (z:=n)) ?_;refine zC hgc ?_;refine zC (j8 (z:=n)) ?_;refine zC hab ?_;refine zC hbe ?_;refine zW [] [8] ho ?_;refine zC hsub ?_;refine zC (qv (z:=n)) ?_;refine zC hm ?_;exact ai [] hQ
theorem zP (z:Int):RV (z:Rat)=.agg [.row 1 ((nl (wg z.natAbs)).map (ie .u64)),.lit (.bool (decide (z<0))),.row 1 []]:=by
 unfold RV;rw[Rat.num_intCast,Rat.den_intCast,show 1-1=0 from rfl,eU]
 rfl
theorem Lh {n:Int} (h0: -9223372036854775808≤n) (h1:n≤9223372036854775807):aA Tryz.prog 166 [.I n] [] (RV (n:Rat)) []:=by
 rw[zP];refine zF pl Tryz.call166 Tryz.func166 [.cell 2 234] fun Q hQ=>?_;refine ae ?_;refine zC (Rd h0 h1) ?_;exact ai [] hQ
theorem MH {n:Nat} (hn:(wg n).length≤4000000):aA Tryz.prog 169 [NV n] [] (RV ((n:Int):Rat)) []:=by
 have hm:=cL (b:=false) (n:=n) hn;rw[show sg false n=(n:Int) from rfl] at hm;rw[zP];refine zF pl Tryz.call169 Tryz.func169 [.cell 2 234] fun Q hQ=>?_;refine ae ?_;refine zC hm ?_;exact ai [] hQ
theorem Oa {x:Rat}:aA Tryz.prog 188 [RV x] [] (WV x.num) []:=by
 refine zF pl Tryz.call188 Tryz.func188 [.cell 2 232] fun Q hQ=>?_;exact zE [] hQ
theorem qs {x:Rat} (h:(wg x.den).length≤1999999):aA Tryz.prog 190 [RV x] [] (NV x.den) []:=by
 have ho:=eI (x:=1) zd;have hd:=x.den_nz;have hl:(wg (x.den-1)).length≤1999999:=akE (df zo) h;have ha:=ia (a:=x.den-1) (b:=1) zo (akE (di zd) zd);rw[show x.den-1+1=x.den by omega] at ha;refine zF O1 Tryz.call190 Tryz.func190 [.cell 2 157] fun Q hQ=>?_;refine ae ?_;refine zW [] [2] ho ?_;refine zC ha ?_;exact ai [] hQ
theorem kF {x:Rat} (h:(wg x.den).length≤1999999):aA Tryz.prog 183 [RV x] [] (WV (x.den:Int)) []:=by
 have hm:=cL (b:=false) (n:=x.den) zo;rw[show sg false x.den=(x.den:Int) from rfl] at hm;refine zF pl Tryz.call183 Tryz.func183 [.cell 2 232] fun Q hQ=>?_;refine ae ?_;refine zC (qs (x:=x) h) ?_;refine zC hm ?_;exact ai [] hQ
def Cv (x y:Rat):Int:=if x<y then-1 else if y<x then 1 else 0
theorem Nb (x y:Rat):rh (x.num*y.den) (y.num*x.den)=Cv x y:=by
 unfold rh Cv;simp only[Rat.lt_iff]
theorem gw {x y:Int} {k l:Nat} (hx:(wg x.natAbs).length≤k) (hy:(wg y.natAbs).length≤l):(wg (x*y).natAbs).length≤k+l:=by
 rw[Int.natAbs_mul];exact akE (iY (B:=18446744073709551616) zd _ _) (Nat.add_le_add hx hy)
theorem xi {x y:Int} {k:Nat} (hx:(wg x.natAbs).length≤k) (hy:(wg y.natAbs).length≤k):(wg (x+y).natAbs).length≤k+1:=
 akE (df (Int.natAbs_add_le x y)) (iX (B:=18446744073709551616) zd hx hy)
theorem CJ {x y:Rat} (hx:RS 400000 x) (hy:RS 400000 y):aA Tryz.prog 165 [RV x,RV y] [] (.I (Cv x y)) []:=by
 obtain ⟨hx1,hx2⟩:=hx;obtain ⟨hy1,hy2⟩:=hy;have hm1:=qo (x:=x.num) (y:=(y.den:Int)) zo (by simp only[ak9];omega);have hm2:=qo (x:=y.num) (y:=(x.den:Int)) zo (by simp only[ak9];omega);have hl1:=gw (x:=x.num) (y:=(y.den:Int)) hx1 (by simp only[ak9];exact hy2);have hl2:=gw (x:=y.num) (y:=(x.den:Int)) hy1 (by simp only[ak9];exact hx2);have hc:=OK (x:=x.num*y.den) (y:=y.num*x.den) zo zo;rw[Nb] at hc;refine zF Qq Tryz.call165 Tryz.func165 [.tmp 4] fun Q hQ=>?_;refine ae ?_;refine zC (kF (x:=y) zo) ?_;refine zC hm1 ?_;refine zC (kF (x:=x) zo) ?_;refine zC hm2 ?_;refine zC hc ?_;exact ai [] hQ
theorem qt {p q:Int} (hq:q≠0):mkRat (sg (!(decide (p<0)==decide (q<0))) p.natAbs) q.natAbs=(p:Rat)/(q:Rat):=by
 rw[←Rat.divInt_eq_div];have hp:=lY p
 by_cases h:q<0
 · obtain ⟨m,rfl⟩:∃m:Nat,q= -(m:Int):=⟨q.natAbs,by omega⟩
   rw[Rat.divInt_neg',Rat.divInt_ofNat,aks h]
   congr 1
   · cases hb:decide (p<0)
     · rw[hb] at hp;simp[sg] at hp ⊢;omega
     · rw[hb] at hp;simp[sg] at hp ⊢;omega
   · omega
 · obtain ⟨m,rfl⟩:∃m:Nat,q=(m:Int):=⟨q.natAbs,by omega⟩
   rw[Rat.divInt_ofNat,akg h]
   congr 1
   cases hb:decide (p<0)
   · rw[hb] at hp;simp[sg] at hp ⊢;omega
   · rw[hb] at hp;simp[sg] at hp ⊢;omega
theorem OF:RV 0=.agg [.row 1 [],.lit (.bool false),.row 1 []]:=by
 have:=zP 0
 rw[show((0:Int):Rat)=0 from rfl,show(0:Int).natAbs=0 from rfl,eU] at this;exact this
theorem IW {p q:Int} (hq:q≠0) (h1:(wg p.natAbs).length≤1000000) (h2:(wg q.natAbs).length≤1000000):aA Tryz.prog 132 [WV p,WV q] [] (.tup [RV ((p:Rat)/(q:Rat)),.I 0]) []:=by
 have hm:=cL (b:= !(decide (p<0)==decide (q<0))) (n:=p.natAbs) zo;have hr:=zt (n:=sg (!(decide (p<0)==decide (q<0))) p.natAbs) (d:=q.natAbs) zo (by rw[kP];exact h1) h2;rw[qt hq] at hr;refine zF PI Tryz.call132 Tryz.func132 [.cell 4 234,.tmp 5] fun Q hQ=>?_;refine ae ?_;refine zC (j8 (z:=q)) ?_;refine aC (dS (n:=q.natAbs) zo) rfl rfl ?_;rw[akg (show¬q.natAbs=0 by omega)];refine ae ?_;refine zC (qv (z:=p)) ?_;refine zC (qv (z:=q)) ?_;refine zC (j8 (z:=p)) ?_;refine zC hm ?_;refine zC (j8 (z:=q)) ?_;refine zC hr ?_;exact ai [] hQ
theorem Rw {p:Int} (h0: -9223372036854775808≤p) (h1:p≤9223372036854775807):(wg p.natAbs).length≤1:=di zo
theorem Sp {k l:Nat} {x y:Rat} (hx:RS k x) (hy:RS l y):RS (k+l+1) (x+y):=by
 rw[Rat.add_def'];refine PA (Nat.mul_ne_zero x.den_nz y.den_nz) ?_ (akE (iY (B:=18446744073709551616) zd _ _) (by have:=hx.2;have:=hy.2;unfold wg at*;omega));have a:=gw (x:=x.num) (y:=(y.den:Int)) hx.1 (by simp only[ak9];exact hy.2);have b:=gw (x:=y.num) (y:=(x.den:Int)) hy.1 (by simp only[ak9];exact hx.2);exact xi a zo
theorem Hw {k:Nat} {x:Rat} (hx:RS k x):RS k (-x):=by
 unfold RS;rw[Rat.neg_num,Rat.neg_den,Int.natAbs_neg];exact hx
theorem JA {k l:Nat} {x y:Rat} (hx:RS k x) (hy:RS l y):RS (k+l+1) (x-y):=by
 rw[Rat.sub_eq_add_neg];exact Sp hx (Hw hy)
theorem te {z:Int} {k:Nat} (h:(wg z.natAbs).length≤k) (hk:1≤k):RS k (z:Rat):=by
 constructor
 · rw[Rat.num_intCast];exact h
 · rw[Rat.den_intCast];exact akE (di zd) hk
theorem Ov {x y:Rat} (hx:RS 400000 x) (hy:RS 400000 y):aA Tryz.prog 186 [RV x,RV y] [] (RV (x+y)) []:=by
 obtain ⟨hx1,hx2⟩:=hx;obtain ⟨hy1,hy2⟩:=hy;have hm1:=qo (x:=x.num) (y:=(y.den:Int)) zo (by simp only[ak9];omega);have hm2:=qo (x:=y.num) (y:=(x.den:Int)) zo (by simp only[ak9];omega);have hl1:=gw (x:=x.num) (y:=(y.den:Int)) hx1 (by simp only[ak9];exact hy2);have hl2:=gw (x:=y.num) (y:=(x.den:Int)) hy1 (by simp only[ak9];exact hx2);have hl3:=xi hl1 hl2;have hl4:(wg (x.den*y.den)).length≤800000:=akE (iY (B:=18446744073709551616) zd _ _) (by unfold wg at*;omega);have ha:=MO (x:=x.num*y.den) (y:=y.num*x.den) zo zo;have hmd:=CU (a:=x.den) (b:=y.den) zo zo;have hr:=zt (n:=x.num*y.den+y.num*x.den) (d:=x.den*y.den) (Nat.mul_ne_zero x.den_nz y.den_nz) zo zo;rw[←Rat.add_def'] at hr;refine zF Qh Tryz.call186 Tryz.func186 [.cell 4 234] fun Q hQ=>?_;refine ae ?_;refine zC (kF (x:=y) zo) ?_;refine zC hm1 ?_;refine zC (kF (x:=x) zo) ?_;refine zC hm2 ?_;refine zC ha ?_;refine zC (qs (x:=x) zo) ?_;refine zC (qs (x:=y) zo) ?_;refine zC hmd ?_;refine zC hr ?_;exact ai [] hQ
theorem Nx {x y:Rat} (hx:RS 400000 x) (hy:RS 400000 y):aA Tryz.prog 168 [RV x,RV y] [] (RV (x-y)) []:=by
 have hw:=Eg (z:=y.num) (by have:=hy.1;omega);have ha:=Ov (x:=x) (y:=-y) hx (Hw hy);rw[←Rat.sub_eq_add_neg] at ha;rw[show RV (-y)=.agg [.row 1 ((nl (wg (-y.num).natAbs)).map (ie .u64)),.lit (.bool (decide (-y.num<0))),.row 1 ((nl (wg (y.den-1))).map (ie .u64))] from rfl] at ha;refine zF Qv Tryz.call168 Tryz.func168 [.cell 4 234] fun Q hQ=>?_;refine ae ?_;refine zC hw ?_;refine zC ha ?_;exact ai [] hQ
open Go.Eng
def iH (c:Nat):Nat:=if c%2=1 then(c/2)^^^3988292384 else c/2
def bX (c:Nat):Nat→Nat
 | 0=>c
 | k+1=>iH (bX c k)
def entry (i:Nat):Nat:=bX i 8
theorem Ir {c:Nat} (h:c<4294967296):iH c<4294967296:=by
 unfold iH
 split
 · exact alC (n:=32) zo zo
 · omega
theorem ig {c:Nat} (h:c<4294967296):∀k,bX c k<4294967296
 | 0=>h
 | k+1=>Ir (ig h k)
theorem Ij {i:Nat} (h:i<256):entry i<4294967296:=ig zo 8
def enV (i:Nat):Value:=.int .u32 (entry i:Int)
def mu (i:Nat):List Value:=(List.range i).map enV++List.replicate (256-i) (.int .u32 0)
theorem EE {i:Nat} (h:i≤256):(mu i).length=256:=by
 unfold mu;rw[ake,aki,akj,akB];omega
theorem Eb {i:Nat} (h:i<256):(mu i).set i (enV i)=mu (i+1):=by
 unfold mu;rw[amY,alQ,ame _ _ (by simp)];simp only[aki,akj,alw,akK,akV,akl,am7];rw[show 256-i=(256-(i+1))+1 by omega,alE]
 rfl
theorem E5 {m:Nat} (h:m<256):(mu 256)[m]? =some (enV m):=by
 unfold mu;rw[akp (by simpa using h),akX,amj h]
 rfl
theorem z8:mu 0=List.replicate 256 (.int .u32 0):=by
 unfold mu;rw[List.range_zero,akV,aln]
theorem yK (x y:Nat):(x^^^y)%2=(x+y)%2:=by
 have h:=Nat.xor_mod_two_pow (a:=x) (b:=y) (n:=1);rw[show(2:Nat)^1=2 from rfl] at h;rw[h];rcases amJ x with hx | hx<;>rcases amJ y with hy | hy<;>rw[hx,hy]<;>simp<;>omega
theorem FN (x y:Nat):iH (x^^^y)=iH x^^^iH y:=by
 have h1:(x^^^y)/2=(x/2)^^^(y/2):=Nat.xor_div_two;have h2:(x^^^y)%2=(x+y)%2:=yK x y;unfold iH;rw[h1,h2];rcases amJ x with hx | hx<;>rcases amJ y with hy | hy
 · rw[if_neg zo,if_neg zo,if_neg zo]
 · rw[if_pos zo,if_neg zo,if_pos zo,amp]
 · rw[if_pos zo,if_pos zo,if_neg zo,amp,amp,am6 (y/2)]
 · rw[if_neg zo,if_pos zo,if_pos zo]
   rw[am6 (y/2),amp,←amp 3988292384,Nat.xor_self,Nat.zero_xor]
theorem nh (x y:Nat):∀k,bX (x^^^y) k=bX x k^^^bX y k
 | 0=>rfl
 | k+1=>by rw[bX,bX,bX,nh x y k,FN]
theorem FP (x:Nat):iH (2*x)=x:=by
 unfold iH;rw[if_neg zo];omega
theorem pN (x:Nat):∀k,bX x (k+1)=bX (iH x) k
 | 0=>rfl
 | k+1=>by rw[bX,pN x k,bX]
theorem mP (x:Nat):∀k,bX (2^k*x) k=x
 | 0=>by simp[bX]
 | k+1=>by rw[pN,akM,show 2^k*2*x=2*(2^k*x) by rw[akC (2^k) 2,akS],FP,mP x k]
theorem Nk (c:Nat):c=(c%256)^^^(256*(c/256)):=by
 apply al5;intro i;rw[Nat.testBit_xor,show(256:Nat)=2^8 from rfl,alO,Nat.testBit_two_pow_mul,al4]
 by_cases h:i<8
 · have:¬8≤i:=by omega
   simp[h,this]
 · have h':8≤i:=by omega
   simp[h,h',Nat.sub_add_cancel h']
theorem pV {x y:Nat} (hx:x<2147483648) (hy:y<2147483648):x^^^3988292384≠y:=by
 intro h;have h1:=congrArg (fun n=>n.testBit 31) h;simp only[Nat.testBit_xor] at h1;rw[alZ (i:=31) (x:=x) hx,alZ (i:=31) (x:=y) hy] at h1
 revert h1
 decide
theorem mN {x y z:Nat} (h:x^^^z=y^^^z):x=y:=by
 have:=congrArg (· ^^^z) h
 simpa [amp] using this
theorem Gy {x y:Nat} (hx:x<4294967296) (hy:y<4294967296) (h:iH x=iH y):x=y:=by
 unfold iH at h
 split at h<;>split at h
 · have:=mN h
   omega
 · exact absurd h (pV zo zo)
 · exact absurd h.symm (pV zo zo)
 · omega
theorem na {x y:Nat} (hx:x<4294967296) (hy:y<4294967296):∀k,bX x k=bX y k→x=y
 | 0,h=>h
 | k+1,h=>na hx hy k (Gy (ig hx k) (ig hy k) h)
def ms (c b:Nat):Nat:=entry ((c%256)^^^b)^^^(c/256)
theorem CB (c b:Nat):ms c b=bX (c^^^b) 8:=by
 have h:c^^^b=(c%256^^^b)^^^(256*(c/256)):=by
  conv=>lhs;rw[Nk c]
  rw[amp,am6 _ b,←amp]
 rw[h,nh];unfold ms entry
 congr 1
 exact(mP (c/256) 8).symm
theorem HZ {c b:Nat} (hc:c<4294967296) (hb:b<256):ms c b<4294967296:=by
 rw[CB];exact ig (alC (n:=32) hc zo) 8
def iQ (c:Nat) (l:List Nat):Nat:=l.foldl ms c
theorem lg (c:Nat) (l m:List Nat):iQ c (l++m)=iQ (iQ c l) m:=by simp[iQ]
theorem kj:∀{l:List Nat} {c:Nat},(∀x∈l,x<256)→c<4294967296→iQ c l<4294967296
 | [],c,_,h=>h
 | b::l,c,hl,h=>kj (l:=l) (fun x hx=>hl x (by simp[hx])) (HZ h (hl b (by simp)))
def eZ (l:List Nat):Nat:=4294967295-iQ 4294967295 l
theorem qi (l:List Nat):eZ l<4294967296:=by unfold eZ;omega
def Ag:List Nat→Nat
 | []=>0
 | b::l=>b^^^(256*Ag l)
theorem rI (c j:Nat):∀k,bX (bX c j) k=bX c (j+k)
 | 0=>rfl
 | k+1=>by rw[bX,rI c j k];rfl
theorem vE:∀(l:List Nat) (c:Nat),iQ c l=bX (c^^^Ag l) (8*l.length)
 | [],c=>by simp[iQ,Ag,bX]
 | b::l,c=>by
   have ih:=vE l (ms c b);show iQ (ms c b) l=_;have e:Ag (b::l)=b^^^(2^8*Ag l):=rfl;rw[ih,CB,e,←amp,show 8*(b::l).length=8+8*l.length by simp;omega,←rI]
   congr 1
   rw[nh (c^^^b),mP]
theorem DA (b:Nat) (l:List Nat) (hb:b<256):Ag (b::l)/256=Ag l∧Ag (b::l)%256=b:=by
 have e:Ag (b::l)=b^^^(2^8*Ag l):=rfl;rw[e,show(256:Nat)=2^8 from rfl,Nat.xor_div_two_pow,Nat.xor_mod_two_pow];simp only[Nat.mul_div_cancel_left _ (show 0<2^8 by decide),Nat.mul_mod_right];rw[alx hb,akG hb]
 simp
theorem CH:∀{l m:List Nat},l.length=m.length→(∀x∈l,x<256)→(∀x∈m,x<256)→Ag l=Ag m→l=m
 | [],[],_,_,_,_=>rfl
 | b::l,d::m,h,hl,hm,he=>by
   obtain ⟨a1,a2⟩:=DA b l (hl b (by simp));obtain ⟨b1,b2⟩:=DA d m (hm d (by simp));rw[he] at a1 a2;rw[CH (l:=l) (m:=m) (by simpa using h) (fun x hx=>hl x (by simp[hx])) (fun x hx=>hm x (by simp[hx])) zo]
   congr 1
   omega
 | [],_::_,h,_,_,_=>by simp at h
 | _::_,[],h,_,_,_=>by simp at h
theorem B7:∀{l:List Nat},(∀x∈l,x<256)→Ag l<2^(8*l.length)
 | [],_=>by simp[Ag]
 | b::l,h=>by
   have ih:=B7 (l:=l) (fun x hx=>h x (by simp[hx]));have hb:=h b (by simp);have e:2^(8*(b::l).length)=2^8*2^(8*l.length):=by rw[←ale];congr 1;simp;omega
   refine alC ?_ ?_
   · refine akT hb ?_
     show 2^8≤_;exact ako zd (by simp;omega)
   · rw[e]
     show 2^8*Ag l<_;exact Nat.mul_lt_mul_of_pos_left ih zd
theorem KD {c:Nat} {l m:List Nat} (hc:c<4294967296) (h:l.length=m.length) (h4:l.length≤4) (hl:∀x∈l,x<256) (hm:∀x∈m,x<256) (he:iQ c l=iQ c m):l=m:=by
 rw[vE,vE,h] at he;have l1:=B7 hl;have l2:=B7 hm;have p1:2^(8*l.length)≤2^32:=ako zd zo;have p2:2^(8*m.length)≤2^32:=ako zd zo
 have:=na (alC (n:=32) hc zo) (alC (n:=32) hc zo) _ he
 rw[am6 c,am6 c] at this;exact CH h hl hm (mN this)
theorem qH:∀{l:List Nat} {c d:Nat},(∀x∈l,x<256)→c<4294967296→d<4294967296→iQ c l=iQ d l→c=d
 | [],c,d,_,_,_,h=>h
 | b::l,c,d,hl,hc,hd,h=>by
   have hb:=hl b (by simp);have h1:=qH (l:=l) (fun x hx=>hl x (by simp[hx])) (HZ hc hb) (HZ hd hb) h;rw[CB,CB] at h1;exact mN (na (alC (n:=32) hc zo) (alC (n:=32) hd zo) 8 h1)
def fS (s:Nat):List Nat:=[s/16777216%256,s/65536%256,s/256%256,s%256]
theorem HK {s t:Nat} (hs:s<4294967296) (ht:t<4294967296) (h:fS s=fS t):s=t:=by
 simp only[fS,List.cons.injEq,and_true] at h;omega
theorem MT (s:Nat):∀x∈fS s,x<256:=fun x hx=>by
 simp only[fS,aky,ak6,or_false] at hx;omega
def aT (l:List Nat):List Nat:=l++fS (eZ l)
theorem fj (l:List Nat):(aT l).length=l.length+4:=by simp[aT,fS]
theorem Hf {l:List Nat} (h:∀x∈l,x<256):∀x∈aT l,x<256:=fun x hx=>by
 rcases alK.1 hx with h' | h'
 · exact h x h'
 · exact MT _ x h'
theorem Cu (l:List Nat):(aT l).take l.length=l:=alo rfl
theorem Nn {l m:List Nat} (hl:∀x∈l,x<256) (hm:∀x∈m,x<256) (h:eZ l=eZ m):iQ 4294967295 l=iQ 4294967295 m:=by
 have h1:=kj (c:=4294967295) hl zd;have h2:=kj (c:=4294967295) hm zd;unfold eZ at h;omega
theorem zO {A B B' C:List Nat} (hA:∀x∈A,x<256) (hB:∀x∈B,x<256) (hB':∀x∈B',x<256) (hC:∀x∈C,x<256) (hlen:B.length=B'.length) (h4:B.length≤4) (h:eZ (A++B++C)=eZ (A++B'++C)):B=B':=by
 have hall:∀{B:List Nat},(∀x∈B,x<256)→∀x∈A++B++C,x<256:=fun hB x hx=>by
  simp only[alK] at hx;rcases hx with(h | h) | h
  · exact hA x h
  · exact hB x h
  · exact hC x h
 have h1:=Nn (hall hB) (hall hB') h;have hcA:=kj (c:=4294967295) hA zd;rw[lg,lg,lg,lg] at h1;have h2:=qH hC (kj hB hcA) (kj hB' hcA) h1;exact KD hcA hlen h4 hB hB' h2
theorem HQ {x:Nat} (h:x<4294967296):4294967295-x=x^^^4294967295:=by
 have h1:=BitVec.toNat_not (x:=BitVec.ofNat 32 x);rw[BitVec.not_def,BitVec.toNat_xor,BitVec.toNat_allOnes,BitVec.toNat_ofNat,akG zo] at h1;rw[←h1];exact am6 4294967295 x
theorem BM {A B:List Nat} {i:Nat} (h:i<A.length):(A++B).getD i 0=A.getD i 0:=by simp[akf,akp h]
theorem AF {A B:List Nat} {i:Nat} (h:A.length≤i):(A++B).getD i 0=B.getD (i-A.length) 0:=by simp[akf,akq h]
theorem tS {A:List Nat} {i x:Nat} (h:i<A.length):(A.set i x).getD i 0=x:=by simp[akf,h]
theorem GW {x e:Nat} (he:e≠0):x^^^e≠x:=fun h=>he (by
 have:=congrArg (fun z=>x^^^z) h
 simpa [←amp] using this)
theorem yL {l:List Nat} {p:Nat} (h:p<l.length):l=l.take p++l.getD p 0::l.drop (p+1):=by
 conv=>lhs;rw[←alT p l]
 congr 1
 rw[ak3 h];simp[akf,h]
theorem E9 {l:List Nat} {p x:Nat} (h:p<l.length):l.set p x=l.take p++x::l.drop (p+1):=by
 conv=>lhs;rw[yL h]
 rw[ame _ _ (by simp;omega)]
 congr 1
 rw[show p-(l.take p).length=0 by simp;omega]
 rfl
theorem ke {l:List Nat} (h:∀x∈l,x<256) (i:Nat):l.getD i 0<256:=by
 have:=vO (w:=8) h i
 exact this
theorem BG {l:List Nat} {i x:Nat} (h:∀y∈l,y<256) (hx:x<256):∀y∈l.set i x,y<256:=Q8 (w:=8) h hx
theorem Od {l:List Nat} {p e:Nat} (hl:∀x∈l,x<256) (hp:p<l.length+4) (he:e≠0) (he2:e<256):aT (((aT l).set p ((aT l).getD p 0^^^e)).take l.length)≠(aT l).set p ((aT l).getD p 0^^^e):=by
 intro H
 by_cases h:p<l.length
 · have e1:(aT l).getD p 0=l.getD p 0:=BM h
   rw[e1] at H;have e2:(aT l).set p (l.getD p 0^^^e)=l.set p (l.getD p 0^^^e)++fS (eZ l):=by unfold aT;rw[List.set_append_left _ _ h]
   rw[e2,alo (by simp)] at H;unfold aT at H;have h3:=HK (qi _) (qi _) (List.append_cancel_left H);have hx:=ke hl p;have hxe:l.getD p 0^^^e<256:=alC (n:=8) hx he2
   have w:=zO (A:=l.take p) (B:=[l.getD p 0^^^e]) (B':=[l.getD p 0]) (C:=l.drop (p+1)) (fun x hx=>hl x (akt hx)) (fun z hz=>by rw[ak1] at hz;rw[hz];exact hxe) (fun z hz=>by rw[ak1] at hz;rw[hz];exact hx) (fun x hx=>hl x (alP hx)) rfl (by simp)
    (by rw[akl,akl,am7,am7,←E9 h,←yL h];exact h3)
   simp only[List.cons.injEq,and_true] at w;exact GW he w
 · have e2:(aT l).set p ((aT l).getD p 0^^^e)=l++(fS (eZ l)).set (p-l.length) ((aT l).getD p 0^^^e):=by
    conv=>lhs;arg 1;unfold aT
    rw[ame _ _ zo]
   rw[e2,alo rfl] at H;have h3:=List.append_cancel_left H;have h4:=congrArg (fun z=>z.getD (p-l.length) 0) h3;rw[tS (by simp[fS];omega)] at h4;have e1:(aT l).getD p 0=(fS (eZ l)).getD (p-l.length) 0:=AF zo;rw[e1] at h4;exact GW he h4.symm
end Go.Proofs.YtcnlmelpnflhnaaGreat
