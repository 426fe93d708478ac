import Derived.Test.YtcnlmelpnflhnaaGreatDb
import Derived.Test.YtcnlmelpnflhnaaGreatD1
namespace Go.Proofs.YtcnlmelpnflhnaaGreat
open Go.Eng Go.Vx
set_option linter.unusedSimpArgs false
set_option linter.unusedVariables false
set_option maxRecDepth 100000
theorem Hl {x c s:Nat} (hs:s≤63) (hx:x<18446744073709551616) (hc:c<2^s):
 cv .or .u64 (c:Int) ((x*2^s%18446744073709551616:Nat):Int)=((c+x*2^s%18446744073709551616:Nat):Int)∧
 c+x*2^s%18446744073709551616<18446744073709551616∧x/2^(64-s)<2^s∧
 c+x*2^s%18446744073709551616+18446744073709551616*(x/2^(64-s))=c+x*2^s:=by
 have e:(18446744073709551616:Nat)=2^(64-s)*2^s:=by rw[←ako,show 64-s+s=64 by omega]
 have hp:0<2^s:=ajV zd;have hq:0<2^(64-s):=ajV zd;have h63:2^s≤2^63:=ajv zd hs;have hmm:x*2^s%18446744073709551616=x%2^(64-s)*2^s:=by rw[e,alH]
 have hl:x/2^(64-s)<2^s:=by rw[ajX hq,ajJ,←e];exact hx
 have hm:=ajI x hq
 have hlt:x%2^(64-s)*2^s+2^s≤18446744073709551616:=by
  have:=ajP (2^s) (show x%2^(64-s)+1≤2^(64-s) from hm)
  rw[ajG,akH,←e] at this;exact this
 refine⟨?_,by rw[hmm];omega,hl,?_⟩
 · have h1:=Iq (A:=x%2^(64-s)) (B:=c) (s:=s) zo hc hs
   rw[←hmm] at h1;rw[iE zo (ajI _ zd)] at*
   rw[iE (ajI _ zd) zo] at h1;rw[Nat.or_comm,akS];exact h1
 · have h:=ajT x (2^(64-s))
   have h2:18446744073709551616*(x/2^(64-s))=2^(64-s)*(x/2^(64-s))*2^s:=by
    conv=>lhs;rw[e]
    rw[ajZ,ajJ (2^s),←ajZ]
   rw[hmm,h2,aj8,←ajG,akS (x%_),h]
set_option maxHeartbeats 1000000 in
theorem rR {W:List Nat} {s:Nat} (hW:∀d∈W,d<18446744073709551616) (hl:W.length≤2000000) (hs:s≤63):aA Tryz.prog 160 [.row 1 ((nl W).map (ie .u64)),.lit (.int .i64 (s:Int))] [] (.sl 0 1 0 (W.length+1)) [some (.row 1 ((nl (fw 18446744073709551616 (W.length+1) (aD 18446744073709551616 W*2^s))).map (ie .u64)))]:=by
 refine zF NN Tryz.call160 Tryz.func160 [.tmp 4] fun Q hQ=>?_;have hnW:=ay W;refine ae ?_
 refine aT (X:=List Nat×Nat) (st:=fun z=>([(1,.lit (.int .i64 (s:Int))),(5,.sl 0 1 0 (W.length+1)),(12,.row 1 ((nl W).map (ie .u64))),(13,.lit (.int .i64 (W.length:Int))),(14,.lit (.int .i64 (z.1.length:Int)))],[some (.row 1 ((nl (pad (z.1++[z.2]) (W.length+1))).map (ie .u64)))]))
  (inv:=fun z=>z.1.length≤W.length∧(∀d∈z.1,d<18446744073709551616)∧z.2<2^s∧aD 18446744073709551616 z.1+18446744073709551616^z.1.length*z.2=aD 18446744073709551616 (W.take z.1.length)*2^s)
  (m:=fun z=>W.length-z.1.length) ([],0) [some 0] rfl (by simp only[pad,akq,akw,akW,←akF,List.singleton_append,←mI];exact zM) zM ⟨by simp,by simp,ajV zd,by simp[aD]⟩ ?_
 rintro ⟨L,c⟩ ⟨hi,hL,hc,hv⟩;simp only at hi hL hc hv ⊢;have hpl:=v7 (L:=L++[c]) (k:=W.length+1) (by simp;omega);have hnp:=ay (pad (L++[c]) (W.length+1))
 by_cases h1:L.length<W.length
 · have hg:=bD W L.length
   have hx:=cL zd hW L.length;have htk:=dj (B:=18446744073709551616) W L.length;generalize W.getD L.length 0=x at*
   obtain ⟨d1,d2,d3,d4⟩:=Hl hs hx hc;have k3:IntKind.u64.wrap ((x:Int)*2^s)=((x*2^s%18446744073709551616:Nat):Int):=wrap_mul _ _;have k4:(64:Int)-(s:Int)=((64-s:Nat):Int):=by omega
   have k5:(x:Int)/2^(64-s)=((x/2^(64-s):Nat):Int):=gQ x (64-s)
   have hgc:(nl (pad (L++[c]) (W.length+1))).getD L.length 0=(c:Int):=by
    rw[bD];unfold pad;simp[ajk]
   have hlow:x*2^s%18446744073709551616<18446744073709551616:=ajI _ zd
   have hinv:aD 18446744073709551616 (L++[c+x*2^s%18446744073709551616])+18446744073709551616^(L.length+1)*(x/2^(64-s))=aD 18446744073709551616 (W.take (L.length+1))*2^s:=by
    rw[eo,htk,ajG,←hv,ajS]
    have:=congrArg (18446744073709551616^L.length* ·) d4
    simp only[aj0] at this;rw[ajZ,ajZ];simp only[aj0];generalize 18446744073709551616^L.length*(x*2^s)=a1 at*
    generalize 18446744073709551616^L.length*c=a2 at*
    generalize 18446744073709551616^L.length*(x*2^s%18446744073709551616)=a3 at*
    generalize 18446744073709551616^L.length*(18446744073709551616*(x/2^(64-s)))=a4 at*
    omega
   generalize x*2^s%18446744073709551616=lo at*
   generalize x/2^(64-s)=hi' at*
   have hset:((nl (pad (L++[c]) (W.length+1))).set L.length ((c+lo:Nat):Int)).set (L.length+1) (hi':Int)=nl (pad ((L++[c+lo])++[hi']) (W.length+1)):=by
    rw[fT,fT]
    congr 1
    unfold pad;obtain ⟨m,hm⟩:∃m,W.length+1-(L++[c]).length=m+1:=⟨W.length-L.length-1,by simp;omega⟩;have hm2:W.length+1-(L++[c+lo]++[hi']).length=m:=by simp at hm ⊢;omega
    rw[hm,hm2,akF]
    simp
   have hls:(L++[c+lo]).length=L.length+1:=by simp
   have hidx:((L.length:Int)+1).toNat=L.length+1:=by omega
   refine PJ hg k3 k4 k5 hgc d1 hidx hset ?_;refine aH (L++[c+lo],hi') [some 0] rfl (by rw[hls];exact zM) (by exact zM) ⟨by simp only;omega,jZ hL d2,d3,by simp only[hls];exact hinv⟩ (by simp only;omega)
 · have hLe:L.length=W.length:=by omega
   have hfull:W.take L.length=W:=ajy zo;rw[hfull] at hv;have h63:2^s≤2^63:=ajv zd hs;have hpf:=s5 (L:=L++[c]) (k:=W.length+1) (by simp;omega);have hval:aD 18446744073709551616 (L++[c])=aD 18446744073709551616 W*2^s:=by rw[eo];exact hv
   have hfw:=xR (B:=18446744073709551616) (l:=L++[c]) (k:=W.length+1) (jZ hL zo) (by simp;omega) hval;rw[hfw] at hQ;rw[hpf];exact zE [some 0] hQ
theorem yA {P N S:List Nat} {B k U:Nat} (h:N.length=k):iY P N (fw B k U++S)=P++(N++S):=by
 unfold iY;rw[List.drop_left' (by rw[cI,h])]
theorem KQ {B k U:Nat} {S:List Nat} (hB:0<B) (hU:U<B^k):aD B ((fw B k U++S).take k)=U:=by
 rw[akv (cI k U),ku hB,ajL hU]
theorem Gi {B k U:Nat} {S:List Nat} (hB:0<B) (hS:∀d∈S,d<B):∀d∈fw B k U++S,d<B:=fun d hd=>by
 rcases akU.1 hd with h | h
 · exact pg hB k U d h
 · exact hS d h
theorem ur {Bi B nw p bo c tt bo' c' A1 A2 V1 V2:Nat} (hk:bo+c+nw+p=tt+B*bo'+B*c') (h:V1+A1=V2+Bi*bo+Bi*c) (hp:A2=A1+Bi*p):
 V1+Bi*nw+A2=V2+Bi*tt+Bi*B*bo'+Bi*B*c':=by
 have:=congrArg (Bi* ·) hk
 simp only[aj0,←ajZ] at this;rw[hp];generalize Bi*bo=a1 at*
 generalize Bi*c=a2 at*
 generalize Bi*nw=a3 at*
 generalize Bi*p=a4 at*
 generalize Bi*tt=a5 at*
 generalize Bi*B*bo'=a6 at*
 generalize Bi*B*c'=a7 at*
 omega
set_option maxHeartbeats 2000000 in
theorem Nk {P S dl:List Nat} {U t n:Nat} (hn:dl.length=n) (hdl:∀d∈dl,d<18446744073709551616) (hS:∀d∈S,d<18446744073709551616) (hU:U<18446744073709551616^(n+1)) (ht:t<18446744073709551616) (hsz:P.length+(n+1)+S.length≤4000000):
 aA Tryz.prog 206 [.sl 0 1 P.length (n+1),.row 1 ((nl dl).map (ie .u64)),.lit (.int .u64 (t:Int))] [some (.row 1 ((nl (P++(fw 18446744073709551616 (n+1) U++S))).map (ie .u64)))]
 (.lit (.int .i64 ((if U<t*aD 18446744073709551616 dl then 1 else 0:Nat):Int))) [some (.row 1 ((nl (P++(fw 18446744073709551616 (n+1) (U+18446744073709551616^(n+1)*(if U<t*aD 18446744073709551616 dl then 1 else 0)-t*aD 18446744073709551616 dl)++S))).map (ie .u64)))]:=by
 refine zF pl Tryz.call206 Tryz.func206 [.tmp 6] fun Q hQ=>?_;have hTl:(fw 18446744073709551616 (n+1) U++S).length=n+1+S.length:=by rw[ajj,cI]
 have hTv:=KQ (S:=S) zd hU;have hTw:=Gi (U:=U) (k:=n+1) zd hS;have hfull:=fun N=>yA (P:=P) (N:=N) (S:=S) (B:=18446744073709551616) (k:=n+1) (U:=U);generalize hT:fw 18446744073709551616 (n+1) U++S=T at*
 have hnd:=ay dl;have hpT:=ay (P++T);rw[ajj] at hpT;refine ae ?_
 refine aT (X:=List Nat×Nat×Nat) (st:=fun z=>([(0,.sl 0 1 P.length (n+1)),(1,.row 1 ((nl dl).map (ie .u64))),(2,.lit (.int .u64 (t:Int))),(7,.lit (.int .u64 (z.2.1:Int))),(8,.lit (.int .u64 (z.2.2:Int))),(15,.row 1 ((nl dl).map (ie .u64))),(16,.lit (.int .i64 (n:Int))),(17,.lit (.int .i64 (z.1.length:Int)))],[some (.row 1 ((nl (iY P z.1 T)).map (ie .u64)))]))
  (inv:=fun z=>z.1.length≤n∧(∀d∈z.1,d<18446744073709551616)∧z.2.1<18446744073709551616∧z.2.2≤1∧aD 18446744073709551616 z.1+t*aD 18446744073709551616 (dl.take z.1.length)=aD 18446744073709551616 (T.take z.1.length)+18446744073709551616^z.1.length*z.2.2+18446744073709551616^z.1.length*z.2.1)
  (m:=fun z=>n-z.1.length) ([],0,0) [some 0] rfl (by simp only[ni];exact zM) zM ⟨by simp,by simp,by simp,by simp,by simp[aD]⟩ ?_
 rintro ⟨N,c,bo⟩ ⟨hi,hN,hc,hb,hv⟩;simp only at hi hN hc hb hv ⊢;have hprl:=n7 (P:=P) (N:=N) (T:=T) zo;have hnp:=ay (iY P N T);have hgu:=fun(i:Nat) (h:N.length≤i) (h2:i<T.length)=>(bD (iY P N T) (P.length+i)).trans (by rw[nA h h2]);have hset:∀x:Nat,(nl (iY P N T)).set (P.length+N.length) (x:Int)=nl (iY P (N++[x]) T):=fun x=>by rw[fT,vE zo]
 have hxu:=cL zd hTw N.length;have htu:=dj (B:=18446744073709551616) T N.length
 by_cases h1:N.length<n
 · have hgd:=bD dl N.length
   have hxd:=cL zd hdl N.length;have htd:=dj (B:=18446744073709551616) dl N.length;have hgu:=hgu N.length (ajp _) zo;generalize T.getD N.length 0=u at*
   generalize dl.getD N.length 0=y at*
   have hyt:y*t≤18446744073709551615*18446744073709551615:=ajO zo zo;have hm64:=rB (x:=y) (y:=t) hxd ht
   have hpp:t*aD 18446744073709551616 (dl.take (N.length+1))=t*aD 18446744073709551616 (dl.take N.length)+18446744073709551616^N.length*(y*t):=by
    rw[htd,aj0,akZ,ajJ t y]
   generalize y*t=p at*
   have e0:18446744073709551615*18446744073709551615=340282366920938463426481119284349108225:=by decide
   rw[e0] at hyt;have hlo:(p%18446744073709551616+c+0)%18446744073709551616<18446744073709551616:=ajI _ zd;have hcc:p/18446744073709551616+(p%18446744073709551616+c+0)/18446744073709551616<18446744073709551616:=by omega
   have hsum:(p/18446744073709551616+(p%18446744073709551616+c+0)/18446744073709551616)*18446744073709551616+(p%18446744073709551616+c+0)%18446744073709551616=p+c:=by omega
   generalize hlo1:(p%18446744073709551616+c+0)%18446744073709551616=lo at*
   generalize hc1:(p%18446744073709551616+c+0)/18446744073709551616=c1 at*
   obtain ⟨q1,q2,q3⟩:=oC hxu hlo hb;have hq1:((p/18446744073709551616:Nat):Int)+(c1:Int)=((p/18446744073709551616+c1:Nat):Int):=by omega
   generalize hnw:(u+18446744073709551616-lo-bo)%18446744073709551616=nw at*
   generalize hb':(if u<lo+bo then 1 else 0)=b' at*
   generalize hc':p/18446744073709551616+c1=c' at*
   have hinv:=ur (Bi:=18446744073709551616^N.length) (B:=18446744073709551616) (nw:=nw) (p:=p) (tt:=u) (bo':=b') (c':=c') zo hv hpp;rw[←ajS,←htu,←eo] at hinv;have hls:(N++[nw]).length=N.length+1:=by simp
   refine br hgd ?_;refine zC hm64 ?_;refine fN (c:=0) Tryz.func205 zk zk zk zk zo ?_;rw[hlo1,hc1];refine ej hq1 hgu ?_;refine jW Tryz.func197 zk zk zk zk zo ?_;rw[hnw,hb'];refine br hset ?_;refine aH (N++[nw],c',b') [some 0] rfl (by rw[hls];exact zM) (by exact zM) ⟨by simp only;omega,jZ hN q3,hcc,q2,by simp only[hls];rw[hinv,ajS]⟩ (by simp only;omega)
 · obtain rfl:n=N.length:=by omega
   have hgu:=hgu N.length (ajp _) zo;generalize T.getD N.length 0=u at*
   obtain ⟨q1,q2,q3⟩:=oC hxu hc hb;have hnd2:(nl dl).length=N.length:=by omega
   have hdf:dl.take N.length=dl:=ajy zo;rw[hdf] at hv;generalize hnw:(u+18446744073709551616-c-bo)%18446744073709551616=nw at*
   have hb0:∀b',(if u<c+bo then 1 else 0)=b'→aD 18446744073709551616 (N++[nw])+t*aD 18446744073709551616 dl=U+18446744073709551616^(N.length+1)*b':=fun b' e=>by
    rw[e] at q1;have hinv:=ur (Bi:=18446744073709551616^N.length) (B:=18446744073709551616) (nw:=nw) (p:=0) (tt:=u) (bo':=b') (c':=0) (A2:=t*aD 18446744073709551616 dl) zo hv zo;rw[←ajS,←htu,←eo,hTv,alB,aky] at hinv;exact hinv
   have hNv:=fU (B:=18446744073709551616) (l:=N++[nw]) (jZ hN q3);rw[ajj,akw] at hNv
   have hif:(if u<c+bo then 1 else 0)=(if U<t*aD 18446744073709551616 dl then 1 else 0:Nat):=by
    by_cases hc1:u<c+bo
    · have e:=hb0 1 (if_pos hc1)
      rw[if_pos hc1,if_pos zo]
    · have e:=hb0 0 (if_neg hc1)
      rw[if_neg hc1,if_neg zo]
   have e:=hb0 _ hif;have hval:aD 18446744073709551616 (N++[nw])=U+18446744073709551616^(N.length+1)*(if U<t*aD 18446744073709551616 dl then 1 else 0)-t*aD 18446744073709551616 dl:=by omega
   have hfw:=xR (B:=18446744073709551616) (l:=N++[nw]) (k:=N.length+1) (jZ hN q3) (by simp) hval;have hend:=hfull (N++[nw]) (by simp);rw[hfw] at hQ;clear hb0 hval hfw e;generalize hbb:(if U<t*aD 18446744073709551616 dl then 1 else 0:Nat)=bb at*
   have hb1:bb≤1:=by rw[←hbb];split<;>omega
   refine ej hnd2 hgu ?_;refine jW Tryz.func197 zk zk zk zk zo ?_;rw[hnw,hif];refine ej hset hend ?_;exact ak [some 0] hQ
theorem DQ {B v x y:Nat} (hy:0<y):(x+B*v)/y=(v%y*B+x)/y+B*(v/y)∧(x+B*v)%y=(v%y*B+x)%y:=by
 have h:=ajT v y;generalize v%y=r at*
 generalize v/y=q at*
 have e:x+B*v=y*(B*q)+(r*B+x):=by
  rw[←h,aj0,akZ,ajJ B r];omega
 rw[e,Nat.mul_add_div hy,Nat.mul_add_mod,akS];exact⟨rfl,rfl⟩
set_option maxHeartbeats 1000000 in
theorem HU {W:List Nat} {y:Nat} (hW:∀d∈W,d<18446744073709551616) (hl:W.length≤2000000) (hy0:0<y) (hy:y<18446744073709551616):aA Tryz.prog 195 [.row 1 ((nl W).map (ie .u64)),.lit (.int .u64 (y:Int))] []
 (.tup [.sl 0 1 0 W.length,.lit (.int .u64 ((aD 18446744073709551616 W%y:Nat):Int))]) [some (.row 1 ((nl (fw 18446744073709551616 W.length (aD 18446744073709551616 W/y))).map (ie .u64)))]:=by
 refine zF pl Tryz.call195 Tryz.func195 [.tmp 4,.tmp 5] fun Q hQ=>?_;have hnW:=ay W;refine ae ?_
 refine aT (X:=Nat×List Nat) (st:=fun z=>([(0,.row 1 ((nl W).map (ie .u64))),(1,.lit (.int .u64 (y:Int))),(6,.sl 0 1 0 W.length),(7,.lit (.int .u64 ((aD 18446744073709551616 (W.drop z.1)%y:Nat):Int))),(8,.lit (.int .i64 ((z.1:Int)-1)))],[some (.row 1 ((nl z.2).map (ie .u64)))]))
  (inv:=fun z=>z.1≤W.length∧z.2.length=W.length∧(∀d∈z.2,d<18446744073709551616)∧aD 18446744073709551616 (z.2.drop z.1)=aD 18446744073709551616 (W.drop z.1)/y)
  (m:=fun z=>z.1) (W.length,List.replicate W.length 0) [some 0] rfl (by simp only[←mI];exact zM) (by simp only[alA,show aD 18446744073709551616 []%y=0 from Nat.zero_mod y];exact zM)
  ⟨ajp _,by simp,fun d hd=>by rw[ala hd];decide,by simp[aD]⟩ ?_
 rintro ⟨k,O⟩ ⟨hk,hO,hOl,hv⟩;simp only at hk hO hOl hv ⊢;have hnO:=ay O
 by_cases h:0<k
 · obtain ⟨i,rfl⟩:∃i,k=i+1:=⟨k-1,by omega⟩
   have hg:=bD W i;have hx:=cL zd hW i;have hdv:=HH (l:=W) (i:=i) (B:=18446744073709551616) zo;have hki:(((i+1:Nat):Int)-1).toNat=i:=by omega
   generalize W.getD i 0=x at*
   obtain ⟨s1,s2⟩:=DQ (B:=18446744073709551616) (v:=aD 18446744073709551616 (W.drop (i+1))) (x:=x) hy0;rw[←hdv] at s1 s2;have hr:=ajI (aD 18446744073709551616 (W.drop (i+1))) hy0;generalize aD 18446744073709551616 (W.drop (i+1))%y=r at*
   have hd:=wT (hi:=r) (lo:=x) (y:=y) hr hx hy
   have hq:(r*18446744073709551616+x)/y<18446744073709551616:=by
    rw[ajX hy0];omega
   rw[←s2] at hd;generalize (r*18446744073709551616+x)/y=q at*
   have hset:=fT O i q;refine ej hki hg ?_;refine aB (hd) rfl rfl ?_;refine ej hki hset ?_;refine aM (i,O.set i q) [some 0] ⟨by simp only;omega,by simpa using hO,eB hOl hq,?_⟩ (by simp only;omega);simp only;rw[set_drop zo];show q+18446744073709551616*aD 18446744073709551616 (O.drop (i+1))=_;rw[hv,s1]
 · obtain rfl:k=0:=by omega
   rw[ajE,ajE] at hv;rw[ajE];have hf:=xR (B:=18446744073709551616) hOl hO hv;rw[hf] at hQ;exact zE [some 0] hQ
theorem IH {v s i:Nat} (hs:s≤63):v/2^s/18446744073709551616^i%18446744073709551616=v/18446744073709551616^i%18446744073709551616/2^s+v/18446744073709551616^(i+1)%18446744073709551616*2^(64-s)%18446744073709551616:=by
 have e:(18446744073709551616:Nat)=2^s*2^(64-s):=by rw[←ako,show s+(64-s)=64 by omega]
 have hp:0<2^s:=ajV zd;have hq:0<2^(64-s):=ajV zd;rw[akp,ajJ,←akp,ajS,←akp];generalize v/18446744073709551616^i=x;have h1:x/2^s%18446744073709551616=x%(2^s*18446744073709551616)/2^s:=(Nat.mod_mul_right_div_self _ _ _).symm
 have h2:x/18446744073709551616%18446744073709551616*2^(64-s)%18446744073709551616=x/18446744073709551616%2^s*2^(64-s):=by
  have e3:∀z:Nat,z%18446744073709551616*2^(64-s)%18446744073709551616=z%2^s*2^(64-s):=fun z=>by
   rw[e,alH,Nat.mod_mul_right_mod]
  exact e3 _
 have h3:x%(2^s*18446744073709551616)=x%18446744073709551616+18446744073709551616*(x/18446744073709551616%2^s):=by
  rw[ajJ,Nat.mod_mul]
 rw[h1,h2,h3]
 have h4:18446744073709551616*(x/18446744073709551616%2^s)=2^s*(x/18446744073709551616%2^s*2^(64-s)):=by
  generalize x/18446744073709551616%2^s=z
  conv=>lhs;rw[e]
  rw[ajZ,ajJ (2^(64-s))]
 rw[h4,alr _ _ hp]
end Go.Proofs.YtcnlmelpnflhnaaGreat
