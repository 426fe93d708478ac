import Derived.Test.YtcnlmelpnflhnaaGreatDb
import Derived.Test.YtcnlmelpnflhnaaGreatD1
namespace Go.Proofs.YtcnlmelpnflhnaaGreat
open Go.Eng Go.Vx
set_option linter.unusedSimpArgs false
set_option linter.unusedVariables false
set_option maxRecDepth 100000
theorem Ik {x c s:Nat} (hs:s≤63) (hx:x<18446744073709551616) (hc:c<2^s):
 bS .or .u64 (c:Int) ((x*2^s%18446744073709551616:Nat):Int)=((c+x*2^s%18446744073709551616:Nat):Int)∧
 c+x*2^s%18446744073709551616<18446744073709551616∧x/2^(64-s)<2^s∧
 c+x*2^s%18446744073709551616+18446744073709551616*(x/2^(64-s))=c+x*2^s:=by
 have e:(18446744073709551616:Nat)=2^(64-s)*2^s:=by rw[←ale,show 64-s+s=64 by omega]
 have hp:0<2^s:=akN zd;have hq:0<2^(64-s):=akN zd;have h63:2^s≤2^63:=ako zd hs;have hmm:x*2^s%18446744073709551616=x%2^(64-s)*2^s:=by rw[e,amG]
 have hl:x/2^(64-s)<2^s:=by rw[akR hq,akC,←e];exact hx
 have hm:=akD x hq
 have hlt:x%2^(64-s)*2^s+2^s≤18446744073709551616:=by
  have:=akI (2^s) (show x%2^(64-s)+1≤2^(64-s) from hm)
  rw[akA,alG,←e] at this;exact this
 refine⟨?_,by rw[hmm];omega,hl,?_⟩
 · have h1:=JG (A:=x%2^(64-s)) (B:=c) (s:=s) zo hc hs
   rw[←hmm] at h1;rw[iK zo (akD _ zd)] at*
   rw[iK (akD _ zd) zo] at h1;rw[Nat.or_comm,alX];exact h1
 · have h:=akO x (2^(64-s))
   have h2:18446744073709551616*(x/2^(64-s))=2^(64-s)*(x/2^(64-s))*2^s:=by
    conv=>lhs;rw[e]
    rw[akS,akC (2^s),←akS]
   rw[hmm,h2,alN,←akA,alX (x%_),h]
set_option maxHeartbeats 1000000 in
theorem sx {W:List Nat} {s:Nat} (hW:∀d∈W,d<18446744073709551616) (hl:W.length≤2000000) (hs:s≤63):aA Tryz.prog 160 [.row 1 ((nl W).map (ie .u64)),.I s] [] (.sl 0 1 0 (W.length+1)) [some (.row 1 ((nl (fw 18446744073709551616 (W.length+1) (aE 18446744073709551616 W*2^s))).map (ie .u64)))]:=by
 refine zF Pb Tryz.call160 Tryz.func160 [.tmp 4] fun Q hQ=>?_;have hnW:=av W;refine ae ?_
 refine aW (X:=List Nat×Nat) (st:=fun z=>([(1,.I s),(5,.sl 0 1 0 (W.length+1)),(12,.row 1 ((nl W).map (ie .u64))),(13,.I W.length),(14,.I z.1.length)],[some (.row 1 ((nl (pad (z.1++[z.2]) (W.length+1))).map (ie .u64)))]))
  (inv:=fun z=>z.1.length≤W.length∧(∀d∈z.1,d<18446744073709551616)∧z.2<2^s∧aE 18446744073709551616 z.1+18446744073709551616^z.1.length*z.2=aE 18446744073709551616 (W.take z.1.length)*2^s)
  (m:=fun z=>W.length-z.1.length) ([],0) [some 0] rfl (by simp only[pad,aln,alj,alJ,←alE,am7,←mQ];exact zM) zM ⟨by simp,by simp,akN zd,by simp[aE]⟩ ?_
 rintro ⟨L,c⟩ ⟨hi,hL,hc,hv⟩;simp only at hi hL hc hv ⊢;have hpl:=wG (L:=L++[c]) (k:=W.length+1) (by simp;omega);have hnp:=av (pad (L++[c]) (W.length+1))
 by_cases h1:L.length<W.length
 · have hg:=bt W L.length
   have hx:=cN zd hW L.length;have htk:=dj (B:=18446744073709551616) W L.length;generalize W.getD L.length 0=x at*
   obtain ⟨d1,d2,d3,d4⟩:=Ik hs hx hc;have k3:IntKind.u64.wrap ((x:Int)*2^s)=((x*2^s%18446744073709551616:Nat):Int):=wrap_mul _ _;have k4:(64:Int)-(s:Int)=((64-s:Nat):Int):=by omega
   have k5:(x:Int)/2^(64-s)=((x/2^(64-s):Nat):Int):=hH x (64-s)
   have hgc:(nl (pad (L++[c]) (W.length+1))).getD L.length 0=(c:Int):=by
    rw[bt];unfold pad;simp[akf]
   have hlow:x*2^s%18446744073709551616<18446744073709551616:=akD _ zd
   have hinv:aE 18446744073709551616 (L++[c+x*2^s%18446744073709551616])+18446744073709551616^(L.length+1)*(x/2^(64-s))=aE 18446744073709551616 (W.take (L.length+1))*2^s:=by
    rw[eu,htk,akA,←hv,akM]
    have:=congrArg (18446744073709551616^L.length* ·) d4
    simp only[akU] at this;rw[akS,akS];simp only[akU];generalize 18446744073709551616^L.length*(x*2^s)=a1 at*
    generalize 18446744073709551616^L.length*c=a2 at*
    generalize 18446744073709551616^L.length*(x*2^s%18446744073709551616)=a3 at*
    generalize 18446744073709551616^L.length*(18446744073709551616*(x/2^(64-s)))=a4 at*
    omega
   generalize x*2^s%18446744073709551616=lo at*
   generalize x/2^(64-s)=hi' at*
   have hset:((nl (pad (L++[c]) (W.length+1))).set L.length ((c+lo:Nat):Int)).set (L.length+1) (hi':Int)=nl (pad ((L++[c+lo])++[hi']) (W.length+1)):=by
    rw[fJ,fJ]
    congr 1
    unfold pad;obtain ⟨m,hm⟩:∃m,W.length+1-(L++[c]).length=m+1:=⟨W.length-L.length-1,by simp;omega⟩;have hm2:W.length+1-(L++[c+lo]++[hi']).length=m:=by simp at hm ⊢;omega
    rw[hm,hm2,alE]
    simp
   have hls:(L++[c+lo]).length=L.length+1:=by simp
   have hidx:((L.length:Int)+1).toNat=L.length+1:=by omega
   refine Sr hg k3 k4 k5 hgc d1 hidx hset ?_;refine aI (L++[c+lo],hi') [some 0] rfl (by rw[hls];exact zM) (by exact zM) ⟨by simp only;omega,kq hL d2,d3,by simp only[hls];exact hinv⟩ (by simp only;omega)
 · have hLe:L.length=W.length:=by omega
   have hfull:W.take L.length=W:=aku zo;rw[hfull] at hv;have h63:2^s≤2^63:=ako zd hs;have hpf:=tG (L:=L++[c]) (k:=W.length+1) (by simp;omega);have hval:aE 18446744073709551616 (L++[c])=aE 18446744073709551616 W*2^s:=by rw[eu];exact hv
   have hfw:=ym (B:=18446744073709551616) (l:=L++[c]) (k:=W.length+1) (kq hL zo) (by simp;omega) hval;rw[hfw] at hQ;rw[hpf];exact zE [some 0] hQ
theorem yV {P N S:List Nat} {B k U:Nat} (h:N.length=k):jc P N (fw B k U++S)=P++(N++S):=by
 unfold jc;rw[List.drop_left' (by rw[cJ,h])]
theorem Mf {B k U:Nat} {S:List Nat} (hB:0<B) (hU:U<B^k):aE B ((fw B k U++S).take k)=U:=by
 rw[alo (cJ k U),kL hB,akG hU]
theorem G7 {B k U:Nat} {S:List Nat} (hB:0<B) (hS:∀d∈S,d<B):∀d∈fw B k U++S,d<B:=fun d hd=>by
 rcases alK.1 hd with h | h
 · exact pG hB k U d h
 · exact hS d h
theorem uT {Bi B nw p bo c tt bo' c' A1 A2 V1 V2:Nat} (hk:bo+c+nw+p=tt+B*bo'+B*c') (h:V1+A1=V2+Bi*bo+Bi*c) (hp:A2=A1+Bi*p):
 V1+Bi*nw+A2=V2+Bi*tt+Bi*B*bo'+Bi*B*c':=by
 have:=congrArg (Bi* ·) hk
 simp only[akU,←akS] at this;rw[hp];generalize Bi*bo=a1 at*
 generalize Bi*c=a2 at*
 generalize Bi*nw=a3 at*
 generalize Bi*p=a4 at*
 generalize Bi*tt=a5 at*
 generalize Bi*B*bo'=a6 at*
 generalize Bi*B*c'=a7 at*
 omega
set_option maxHeartbeats 2000000 in
theorem ON {P S dl:List Nat} {U t n:Nat} (hn:dl.length=n) (hdl:∀d∈dl,d<18446744073709551616) (hS:∀d∈S,d<18446744073709551616) (hU:U<18446744073709551616^(n+1)) (ht:t<18446744073709551616) (hsz:P.length+(n+1)+S.length≤4000000):
 aA Tryz.prog 206 [.sl 0 1 P.length (n+1),.row 1 ((nl dl).map (ie .u64)),.lit (.int .u64 t)] [some (.row 1 ((nl (P++(fw 18446744073709551616 (n+1) U++S))).map (ie .u64)))]
 (.I ((if U<t*aE 18446744073709551616 dl then 1 else 0:Nat):Int)) [some (.row 1 ((nl (P++(fw 18446744073709551616 (n+1) (U+18446744073709551616^(n+1)*(if U<t*aE 18446744073709551616 dl then 1 else 0)-t*aE 18446744073709551616 dl)++S))).map (ie .u64)))]:=by
 refine zF pl Tryz.call206 Tryz.func206 [.tmp 6] fun Q hQ=>?_;have hTl:(fw 18446744073709551616 (n+1) U++S).length=n+1+S.length:=by rw[ake,cJ]
 have hTv:=Mf (S:=S) zd hU;have hTw:=G7 (U:=U) (k:=n+1) zd hS;have hfull:=fun N=>yV (P:=P) (N:=N) (S:=S) (B:=18446744073709551616) (k:=n+1) (U:=U);generalize hT:fw 18446744073709551616 (n+1) U++S=T at*
 have hnd:=av dl;have hpT:=av (P++T);rw[ake] at hpT;refine ae ?_
 refine aW (X:=List Nat×Nat×Nat) (st:=fun z=>([(0,.sl 0 1 P.length (n+1)),(1,.row 1 ((nl dl).map (ie .u64))),(2,.lit (.int .u64 t)),(7,.lit (.int .u64 z.2.1)),(8,.lit (.int .u64 z.2.2)),(15,.row 1 ((nl dl).map (ie .u64))),(16,.I n),(17,.I z.1.length)],[some (.row 1 ((nl (jc P z.1 T)).map (ie .u64)))]))
  (inv:=fun z=>z.1.length≤n∧(∀d∈z.1,d<18446744073709551616)∧z.2.1<18446744073709551616∧z.2.2≤1∧aE 18446744073709551616 z.1+t*aE 18446744073709551616 (dl.take z.1.length)=aE 18446744073709551616 (T.take z.1.length)+18446744073709551616^z.1.length*z.2.2+18446744073709551616^z.1.length*z.2.1)
  (m:=fun z=>n-z.1.length) ([],0,0) [some 0] rfl (by simp only[nD];exact zM) zM ⟨by simp,by simp,by simp,by simp,by simp[aE]⟩ ?_
 rintro ⟨N,c,bo⟩ ⟨hi,hN,hc,hb,hv⟩;simp only at hi hN hc hb hv ⊢;have hprl:=ox (P:=P) (N:=N) (T:=T) zo;have hnp:=av (jc P N T);have hgu:=fun(i:Nat) (h:N.length≤i) (h2:i<T.length)=>(bt (jc P N T) (P.length+i)).trans (by rw[nN h h2]);have hset:∀x:Nat,(nl (jc P N T)).set (P.length+N.length) (x:Int)=nl (jc P (N++[x]) T):=fun x=>by rw[fJ,v9 zo]
 have hxu:=cN zd hTw N.length;have htu:=dj (B:=18446744073709551616) T N.length
 by_cases h1:N.length<n
 · have hgd:=bt dl N.length
   have hxd:=cN zd hdl N.length;have htd:=dj (B:=18446744073709551616) dl N.length;have hgu:=hgu N.length (akk _) zo;generalize T.getD N.length 0=u at*
   generalize dl.getD N.length 0=y at*
   have hyt:y*t≤18446744073709551615*18446744073709551615:=akH zo zo;have hm64:=rZ (x:=y) (y:=t) hxd ht
   have hpp:t*aE 18446744073709551616 (dl.take (N.length+1))=t*aE 18446744073709551616 (dl.take N.length)+18446744073709551616^N.length*(y*t):=by
    rw[htd,akU,al0,akC t y]
   generalize y*t=p at*
   have e0:18446744073709551615*18446744073709551615=340282366920938463426481119284349108225:=by decide
   rw[e0] at hyt;have hlo:(p%18446744073709551616+c+0)%18446744073709551616<18446744073709551616:=akD _ zd;have hcc:p/18446744073709551616+(p%18446744073709551616+c+0)/18446744073709551616<18446744073709551616:=by omega
   have hsum:(p/18446744073709551616+(p%18446744073709551616+c+0)/18446744073709551616)*18446744073709551616+(p%18446744073709551616+c+0)%18446744073709551616=p+c:=by omega
   generalize hlo1:(p%18446744073709551616+c+0)%18446744073709551616=lo at*
   generalize hc1:(p%18446744073709551616+c+0)/18446744073709551616=c1 at*
   obtain ⟨q1,q2,q3⟩:=oP hxu hlo hb;have hq1:((p/18446744073709551616:Nat):Int)+(c1:Int)=((p/18446744073709551616+c1:Nat):Int):=by omega
   generalize hnw:(u+18446744073709551616-lo-bo)%18446744073709551616=nw at*
   generalize hb':(if u<lo+bo then 1 else 0)=b' at*
   generalize hc':p/18446744073709551616+c1=c' at*
   have hinv:=uT (Bi:=18446744073709551616^N.length) (B:=18446744073709551616) (nw:=nw) (p:=p) (tt:=u) (bo':=b') (c':=c') zo hv hpp;rw[←akM,←htu,←eu] at hinv;have hls:(N++[nw]).length=N.length+1:=by simp
   refine bg hgd ?_;refine zC hm64 ?_;refine fZ (c:=0) Tryz.func205 zk zk zk zk zo ?_;rw[hlo1,hc1];refine eo hq1 hgu ?_;refine km Tryz.func197 zk zk zk zk zo ?_;rw[hnw,hb'];refine bg hset ?_;refine aI (N++[nw],c',b') [some 0] rfl (by rw[hls];exact zM) (by exact zM) ⟨by simp only;omega,kq hN q3,hcc,q2,by simp only[hls];rw[hinv,akM]⟩ (by simp only;omega)
 · obtain rfl:n=N.length:=by omega
   have hgu:=hgu N.length (akk _) zo;generalize T.getD N.length 0=u at*
   obtain ⟨q1,q2,q3⟩:=oP hxu hc hb;have hnd2:(nl dl).length=N.length:=by omega
   have hdf:dl.take N.length=dl:=aku zo;rw[hdf] at hv;generalize hnw:(u+18446744073709551616-c-bo)%18446744073709551616=nw at*
   have hb0:∀b',(if u<c+bo then 1 else 0)=b'→aE 18446744073709551616 (N++[nw])+t*aE 18446744073709551616 dl=U+18446744073709551616^(N.length+1)*b':=fun b' e=>by
    rw[e] at q1;have hinv:=uT (Bi:=18446744073709551616^N.length) (B:=18446744073709551616) (nw:=nw) (p:=0) (tt:=u) (bo':=b') (c':=0) (A2:=t*aE 18446744073709551616 dl) zo hv zo;rw[←akM,←htu,←eu,hTv,amB,alv] at hinv;exact hinv
   have hNv:=gj (B:=18446744073709551616) (l:=N++[nw]) (kq hN q3);rw[ake,alj] at hNv
   have hif:(if u<c+bo then 1 else 0)=(if U<t*aE 18446744073709551616 dl then 1 else 0:Nat):=by
    by_cases hc1:u<c+bo
    · have e:=hb0 1 (if_pos hc1)
      rw[if_pos hc1,if_pos zo]
    · have e:=hb0 0 (if_neg hc1)
      rw[if_neg hc1,if_neg zo]
   have e:=hb0 _ hif;have hval:aE 18446744073709551616 (N++[nw])=U+18446744073709551616^(N.length+1)*(if U<t*aE 18446744073709551616 dl then 1 else 0)-t*aE 18446744073709551616 dl:=by omega
   have hfw:=ym (B:=18446744073709551616) (l:=N++[nw]) (k:=N.length+1) (kq hN q3) (by simp) hval;have hend:=hfull (N++[nw]) (by simp);rw[hfw] at hQ;clear hb0 hval hfw e;generalize hbb:(if U<t*aE 18446744073709551616 dl then 1 else 0:Nat)=bb at*
   have hb1:bb≤1:=by rw[←hbb];split<;>omega
   refine eo hnd2 hgu ?_;refine km Tryz.func197 zk zk zk zk zo ?_;rw[hnw,hif];refine eo hset hend ?_;exact ai [some 0] hQ
theorem Ey {B v x y:Nat} (hy:0<y):(x+B*v)/y=(v%y*B+x)/y+B*(v/y)∧(x+B*v)%y=(v%y*B+x)%y:=by
 have h:=akO v y;generalize v%y=r at*
 generalize v/y=q at*
 have e:x+B*v=y*(B*q)+(r*B+x):=by
  rw[←h,akU,al0,akC B r];omega
 rw[e,Nat.mul_add_div hy,Nat.mul_add_mod,alX];exact⟨rfl,rfl⟩
set_option maxHeartbeats 1000000 in
theorem I7 {W:List Nat} {y:Nat} (hW:∀d∈W,d<18446744073709551616) (hl:W.length≤2000000) (hy0:0<y) (hy:y<18446744073709551616):aA Tryz.prog 195 [.row 1 ((nl W).map (ie .u64)),.lit (.int .u64 y)] []
 (.tup [.sl 0 1 0 W.length,.lit (.int .u64 ((aE 18446744073709551616 W%y:Nat):Int))]) [some (.row 1 ((nl (fw 18446744073709551616 W.length (aE 18446744073709551616 W/y))).map (ie .u64)))]:=by
 refine zF pl Tryz.call195 Tryz.func195 [.tmp 4,.tmp 5] fun Q hQ=>?_;have hnW:=av W;refine ae ?_
 refine aW (X:=Nat×List Nat) (st:=fun z=>([(0,.row 1 ((nl W).map (ie .u64))),(1,.lit (.int .u64 y)),(6,.sl 0 1 0 W.length),(7,.lit (.int .u64 ((aE 18446744073709551616 (W.drop z.1)%y:Nat):Int))),(8,.I ((z.1:Int)-1))],[some (.row 1 ((nl z.2).map (ie .u64)))]))
  (inv:=fun z=>z.1≤W.length∧z.2.length=W.length∧(∀d∈z.2,d<18446744073709551616)∧aE 18446744073709551616 (z.2.drop z.1)=aE 18446744073709551616 (W.drop z.1)/y)
  (m:=fun z=>z.1) (W.length,List.replicate W.length 0) [some 0] rfl (by simp only[←mQ];exact zM) (by simp only[amA,show aE 18446744073709551616 []%y=0 from Nat.zero_mod y];exact zM)
  ⟨akk _,by simp,fun d hd=>by rw[alR hd];decide,by simp[aE]⟩ ?_
 rintro ⟨k,O⟩ ⟨hk,hO,hOl,hv⟩;simp only at hk hO hOl hv ⊢;have hnO:=av O
 by_cases h:0<k
 · obtain ⟨i,rfl⟩:∃i,k=i+1:=⟨k-1,by omega⟩
   have hg:=bt W i;have hx:=cN zd hW i;have hdv:=IS (l:=W) (i:=i) (B:=18446744073709551616) zo;have hki:(((i+1:Nat):Int)-1).toNat=i:=by omega
   generalize W.getD i 0=x at*
   obtain ⟨s1,s2⟩:=Ey (B:=18446744073709551616) (v:=aE 18446744073709551616 (W.drop (i+1))) (x:=x) hy0;rw[←hdv] at s1 s2;have hr:=akD (aE 18446744073709551616 (W.drop (i+1))) hy0;generalize aE 18446744073709551616 (W.drop (i+1))%y=r at*
   have hd:=xn (hi:=r) (lo:=x) (y:=y) hr hx hy
   have hq:(r*18446744073709551616+x)/y<18446744073709551616:=by
    rw[akR hy0];omega
   rw[←s2] at hd;generalize (r*18446744073709551616+x)/y=q at*
   have hset:=fJ O i q;refine eo hki hg ?_;refine aC (hd) rfl rfl ?_;refine eo hki hset ?_;refine aR (i,O.set i q) [some 0] ⟨by simp only;omega,by simpa using hO,eE hOl hq,?_⟩ (by simp only;omega);simp only;rw[set_drop zo];show q+18446744073709551616*aE 18446744073709551616 (O.drop (i+1))=_;rw[hv,s1]
 · obtain rfl:k=0:=by omega
   rw[akv,akv] at hv;rw[akv];have hf:=ym (B:=18446744073709551616) hOl hO hv;rw[hf] at hQ;exact zE [some 0] hQ
theorem JW {v s i:Nat} (hs:s≤63):v/2^s/18446744073709551616^i%18446744073709551616=v/18446744073709551616^i%18446744073709551616/2^s+v/18446744073709551616^(i+1)%18446744073709551616*2^(64-s)%18446744073709551616:=by
 have e:(18446744073709551616:Nat)=2^s*2^(64-s):=by rw[←ale,show s+(64-s)=64 by omega]
 have hp:0<2^s:=akN zd;have hq:0<2^(64-s):=akN zd;rw[alm,akC,←alm,akM,←alm];generalize v/18446744073709551616^i=x;have h1:x/2^s%18446744073709551616=x%(2^s*18446744073709551616)/2^s:=(Nat.mod_mul_right_div_self _ _ _).symm
 have h2:x/18446744073709551616%18446744073709551616*2^(64-s)%18446744073709551616=x/18446744073709551616%2^s*2^(64-s):=by
  have e3:∀z:Nat,z%18446744073709551616*2^(64-s)%18446744073709551616=z%2^s*2^(64-s):=fun z=>by
   rw[e,amG,Nat.mod_mul_right_mod]
  exact e3 _
 have h3:x%(2^s*18446744073709551616)=x%18446744073709551616+18446744073709551616*(x/18446744073709551616%2^s):=by
  rw[akC,Nat.mod_mul]
 rw[h1,h2,h3]
 have h4:18446744073709551616*(x/18446744073709551616%2^s)=2^s*(x/18446744073709551616%2^s*2^(64-s)):=by
  generalize x/18446744073709551616%2^s=z
  conv=>lhs;rw[e]
  rw[akS,akC (2^(64-s))]
 rw[h4,amu _ _ hp]
end Go.Proofs.YtcnlmelpnflhnaaGreat
