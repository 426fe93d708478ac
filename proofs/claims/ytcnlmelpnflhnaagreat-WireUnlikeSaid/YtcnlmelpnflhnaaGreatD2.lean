import Derived.Test.YtcnlmelpnflhnaaGreatDb
import Derived.Test.YtcnlmelpnflhnaaGreatD1
import Derived.Test.YtcnlmelpnflhnaaGreatN2
namespace Go.Proofs.YtcnlmelpnflhnaaGreat
open Go.Eng Go.Vx
set_option linter.unusedSimpArgs false
set_option linter.unusedVariables false
set_option maxRecDepth 100000
theorem Fe {x c s:Nat} (hs:s≤63) (hx:x<18446744073709551616) (hc:c<2^s):
 bY .or .u64 (c:Int) ((x*2^s%18446744073709551616:Nat):Int)=((c+x*2^s%18446744073709551616:Nat):Int)∧
 c+x*2^s%18446744073709551616<18446744073709551616∧x/2^(64-s)<2^s∧
 c+x*2^s%18446744073709551616+18446744073709551616*(x/2^(64-s))=c+x*2^s:=by
 have e:(18446744073709551616:Nat)=2^(64-s)*2^s:=by rw[←ahq,show 64-s+s=64 by omega]
 have hp:0<2^s:=agV zd;have hq:0<2^(64-s):=agV zd;have h63:2^s≤2^63:=agA zd hs;have hmm:x*2^s%18446744073709551616=x%2^(64-s)*2^s:=by rw[e,aiF]
 have hl:x/2^(64-s)<2^s:=by rw[agY hq,agK,←e];exact hx
 have hm:=agJ x hq
 have hlt:x%2^(64-s)*2^s+2^s≤18446744073709551616:=by
  have:=agP (2^s) (show x%2^(64-s)+1≤2^(64-s) from hm)
  rw[agH,ahH,←e] at this;exact this
 refine⟨?_,by rw[hmm];omega,hl,?_⟩
 · have h1:=Gn (A:=x%2^(64-s)) (B:=c) (s:=s) zo hc hs
   rw[←hmm] at h1;rw[jo zo (agJ _ zd)] at*
   rw[jo (agJ _ zd) zo] at h1;rw[Nat.or_comm,ah1];exact h1
 · have h:=agT x (2^(64-s))
   have h2:18446744073709551616*(x/2^(64-s))=2^(64-s)*(x/2^(64-s))*2^s:=by
    conv=>lhs;rw[e]
    rw[agZ,agK (2^s),←agZ]
   rw[hmm,h2,ahQ,←agH,ah1 (x%_),h]
set_option maxHeartbeats 1000000 in
theorem qm {W:List Nat} {s:Nat} (hW:∀d∈W,d<18446744073709551616) (hl:W.length≤2000000) (hs:s≤63):aC Tryz.prog 160 [.row 1 ((nl W).map (ie .u64)),.lit (.int .i64 (s:Int))] [] (.sl 0 1 0 (W.length+1)) [some (.row 1 ((nl (fw 18446744073709551616 (W.length+1) (aA 18446744073709551616 W*2^s))).map (ie .u64)))]:=by
 refine zF Li Tryz.call160 Tryz.func160 [.tmp 4] fun Q hQ=>?_;have hnW:=aD W;refine ae ?_
 refine aM (X:=List Nat×Nat) (st:=fun z=>([(1,.lit (.int .i64 (s:Int))),(5,.sl 0 1 0 (W.length+1)),(12,.row 1 ((nl W).map (ie .u64))),(13,.lit (.int .i64 (W.length:Int))),(14,.lit (.int .i64 (z.1.length:Int)))],[some (.row 1 ((nl (pad (z.1++[z.2]) (W.length+1))).map (ie .u64)))]))
  (inv:=fun z=>z.1.length≤W.length∧(∀d∈z.1,d<18446744073709551616)∧z.2<2^s∧aA 18446744073709551616 z.1+18446744073709551616^z.1.length*z.2=aA 18446744073709551616 (W.take z.1.length)*2^s)
  (m:=fun z=>W.length-z.1.length) ([],0) [some 0] rfl (by simp only[pad,aht,aip,ahX,←ahN,List.singleton_append,←lB];exact zM) zM ⟨by simp,by simp,agV zd,by simp[aA]⟩ ?_
 rintro ⟨L,c⟩ ⟨hi,hL,hc,hv⟩;simp only at hi hL hc hv ⊢;have hpl:=tZ (L:=L++[c]) (k:=W.length+1) (by simp;omega);have hnp:=aD (pad (L++[c]) (W.length+1))
 by_cases h1:L.length<W.length
 · have hg:=bg W L.length
   have hx:=cv zd hW L.length;have htk:=cL (B:=18446744073709551616) W L.length;generalize W.getD L.length 0=x at*
   obtain ⟨d1,d2,d3,d4⟩:=Fe hs hx hc;have k3:IntKind.u64.wrap ((x:Int)*2^s)=((x*2^s%18446744073709551616:Nat):Int):=wrap_mul _ _;have k4:(64:Int)-(s:Int)=((64-s:Nat):Int):=by omega
   have k5:(x:Int)/2^(64-s)=((x/2^(64-s):Nat):Int):=gb x (64-s)
   have hgc:(nl (pad (L++[c]) (W.length+1))).getD L.length 0=(c:Int):=by
    rw[bg];unfold pad;simp[ago]
   have hlow:x*2^s%18446744073709551616<18446744073709551616:=agJ _ zd
   have hinv:aA 18446744073709551616 (L++[c+x*2^s%18446744073709551616])+18446744073709551616^(L.length+1)*(x/2^(64-s))=aA 18446744073709551616 (W.take (L.length+1))*2^s:=by
    rw[dM,htk,agH,←hv,agS]
    have:=congrArg (18446744073709551616^L.length* ·) d4
    simp only[ag1] at this;rw[agZ,agZ];simp only[ag1];generalize 18446744073709551616^L.length*(x*2^s)=a1 at*
    generalize 18446744073709551616^L.length*c=a2 at*
    generalize 18446744073709551616^L.length*(x*2^s%18446744073709551616)=a3 at*
    generalize 18446744073709551616^L.length*(18446744073709551616*(x/2^(64-s)))=a4 at*
    omega
   generalize x*2^s%18446744073709551616=lo at*
   generalize x/2^(64-s)=hi' at*
   have hset:((nl (pad (L++[c]) (W.length+1))).set L.length ((c+lo:Nat):Int)).set (L.length+1) (hi':Int)=nl (pad ((L++[c+lo])++[hi']) (W.length+1)):=by
    rw[fv,fv]
    congr 1
    unfold pad;obtain ⟨m,hm⟩:∃m,W.length+1-(L++[c]).length=m+1:=⟨W.length-L.length-1,by simp;omega⟩;have hm2:W.length+1-(L++[c+lo]++[hi']).length=m:=by simp at hm ⊢;omega
    rw[hm,hm2,ahN]
    simp
   have hls:(L++[c+lo]).length=L.length+1:=by simp
   have hidx:((L.length:Int)+1).toNat=L.length+1:=by omega
   refine Oa hg k3 k4 k5 hgc d1 hidx hset ?_;refine aG (L++[c+lo],hi') [some 0] rfl (by rw[hls];exact zM) (by exact zM) ⟨by simp only;omega,jt hL d2,d3,by simp only[hls];exact hinv⟩ (by simp only;omega)
 · have hLe:L.length=W.length:=by omega
   have hfull:W.take L.length=W:=agB zo;rw[hfull] at hv;have h63:2^s≤2^63:=agA zd hs;have hpf:=rk (L:=L++[c]) (k:=W.length+1) (by simp;omega);have hval:aA 18446744073709551616 (L++[c])=aA 18446744073709551616 W*2^s:=by rw[dM];exact hv
   have hfw:=vK (B:=18446744073709551616) (l:=L++[c]) (k:=W.length+1) (jt hL zo) (by simp;omega) hval;rw[hfw] at hQ;rw[hpf];exact zE [some 0] hQ
theorem wq {P N S:List Nat} {B k U:Nat} (h:N.length=k):iv P N (fw B k U++S)=P++(N++S):=by
 unfold iv;rw[List.drop_left' (by rw[cj,h])]
theorem Iq {B k U:Nat} {S:List Nat} (hB:0<B) (hU:U<B^k):aA B ((fw B k U++S).take k)=U:=by
 rw[ahy (cj k U),jN hB,agL hU]
theorem D9 {B k U:Nat} {S:List Nat} (hB:0<B) (hS:∀d∈S,d<B):∀d∈fw B k U++S,d<B:=fun d hd=>by
 rcases ah2.1 hd with h | h
 · exact nV hB k U d h
 · exact hS d h
theorem sH {Bi B nw p bo c tt bo' c' A1 A2 V1 V2:Nat} (hk:bo+c+nw+p=tt+B*bo'+B*c') (h:V1+A1=V2+Bi*bo+Bi*c) (hp:A2=A1+Bi*p):
 V1+Bi*nw+A2=V2+Bi*tt+Bi*B*bo'+Bi*B*c':=by
 have:=congrArg (Bi* ·) hk
 simp only[ag1,←agZ] at this;rw[hp];generalize Bi*bo=a1 at*
 generalize Bi*c=a2 at*
 generalize Bi*nw=a3 at*
 generalize Bi*p=a4 at*
 generalize Bi*tt=a5 at*
 generalize Bi*B*bo'=a6 at*
 generalize Bi*B*c'=a7 at*
 omega
set_option maxHeartbeats 2000000 in
theorem KT {P S dl:List Nat} {U t n:Nat} (hn:dl.length=n) (hdl:∀d∈dl,d<18446744073709551616) (hS:∀d∈S,d<18446744073709551616) (hU:U<18446744073709551616^(n+1)) (ht:t<18446744073709551616) (hsz:P.length+(n+1)+S.length≤4000000):
 aC Tryz.prog 206 [.sl 0 1 P.length (n+1),.row 1 ((nl dl).map (ie .u64)),.lit (.int .u64 (t:Int))] [some (.row 1 ((nl (P++(fw 18446744073709551616 (n+1) U++S))).map (ie .u64)))]
 (.lit (.int .i64 ((if U<t*aA 18446744073709551616 dl then 1 else 0:Nat):Int))) [some (.row 1 ((nl (P++(fw 18446744073709551616 (n+1) (U+18446744073709551616^(n+1)*(if U<t*aA 18446744073709551616 dl then 1 else 0)-t*aA 18446744073709551616 dl)++S))).map (ie .u64)))]:=by
 refine zF pl Tryz.call206 Tryz.func206 [.tmp 6] fun Q hQ=>?_;have hTl:(fw 18446744073709551616 (n+1) U++S).length=n+1+S.length:=by rw[agn,cj]
 have hTv:=Iq (S:=S) zd hU;have hTw:=D9 (U:=U) (k:=n+1) zd hS;have hfull:=fun N=>wq (P:=P) (N:=N) (S:=S) (B:=18446744073709551616) (k:=n+1) (U:=U);generalize hT:fw 18446744073709551616 (n+1) U++S=T at*
 have hnd:=aD dl;have hpT:=aD (P++T);rw[agn] at hpT;refine ae ?_
 refine aM (X:=List Nat×Nat×Nat) (st:=fun z=>([(0,.sl 0 1 P.length (n+1)),(1,.row 1 ((nl dl).map (ie .u64))),(2,.lit (.int .u64 (t:Int))),(7,.lit (.int .u64 (z.2.1:Int))),(8,.lit (.int .u64 (z.2.2:Int))),(15,.row 1 ((nl dl).map (ie .u64))),(16,.lit (.int .i64 (n:Int))),(17,.lit (.int .i64 (z.1.length:Int)))],[some (.row 1 ((nl (iv P z.1 T)).map (ie .u64)))]))
  (inv:=fun z=>z.1.length≤n∧(∀d∈z.1,d<18446744073709551616)∧z.2.1<18446744073709551616∧z.2.2≤1∧aA 18446744073709551616 z.1+t*aA 18446744073709551616 (dl.take z.1.length)=aA 18446744073709551616 (T.take z.1.length)+18446744073709551616^z.1.length*z.2.2+18446744073709551616^z.1.length*z.2.1)
  (m:=fun z=>n-z.1.length) ([],0,0) [some 0] rfl (by simp only[l7];exact zM) zM ⟨by simp,by simp,by simp,by simp,by simp[aA]⟩ ?_
 rintro ⟨N,c,bo⟩ ⟨hi,hN,hc,hb,hv⟩;simp only at hi hN hc hb hv ⊢;have hprl:=mW (P:=P) (N:=N) (T:=T) zo;have hnp:=aD (iv P N T);have hgu:=fun(i:Nat) (h:N.length≤i) (h2:i<T.length)=>(bg (iv P N T) (P.length+i)).trans (by rw[mi h h2]);have hset:∀x:Nat,(nl (iv P N T)).set (P.length+N.length) (x:Int)=nl (iv P (N++[x]) T):=fun x=>by rw[fv,tH zo]
 have hxu:=cv zd hTw N.length;have htu:=cL (B:=18446744073709551616) T N.length
 by_cases h1:N.length<n
 · have hgd:=bg dl N.length
   have hxd:=cv zd hdl N.length;have htd:=cL (B:=18446744073709551616) dl N.length;have hgu:=hgu N.length (agt _) zo;generalize T.getD N.length 0=u at*
   generalize dl.getD N.length 0=y at*
   have hyt:y*t≤18446744073709551615*18446744073709551615:=agQ zo zo;have hm64:=p8 (x:=y) (y:=t) hxd ht
   have hpp:t*aA 18446744073709551616 (dl.take (N.length+1))=t*aA 18446744073709551616 (dl.take N.length)+18446744073709551616^N.length*(y*t):=by
    rw[htd,ag1,ahZ,agK t y]
   generalize y*t=p at*
   have e0:18446744073709551615*18446744073709551615=340282366920938463426481119284349108225:=by decide
   rw[e0] at hyt;have hlo:(p%18446744073709551616+c+0)%18446744073709551616<18446744073709551616:=agJ _ zd;have hcc:p/18446744073709551616+(p%18446744073709551616+c+0)/18446744073709551616<18446744073709551616:=by omega
   have hsum:(p/18446744073709551616+(p%18446744073709551616+c+0)/18446744073709551616)*18446744073709551616+(p%18446744073709551616+c+0)%18446744073709551616=p+c:=by omega
   generalize hlo1:(p%18446744073709551616+c+0)%18446744073709551616=lo at*
   generalize hc1:(p%18446744073709551616+c+0)/18446744073709551616=c1 at*
   obtain ⟨q1,q2,q3⟩:=nj hxu hlo hb;have hq1:((p/18446744073709551616:Nat):Int)+(c1:Int)=((p/18446744073709551616+c1:Nat):Int):=by omega
   generalize hnw:(u+18446744073709551616-lo-bo)%18446744073709551616=nw at*
   generalize hb':(if u<lo+bo then 1 else 0)=b' at*
   generalize hc':p/18446744073709551616+c1=c' at*
   have hinv:=sH (Bi:=18446744073709551616^N.length) (B:=18446744073709551616) (nw:=nw) (p:=p) (tt:=u) (bo':=b') (c':=c') zo hv hpp;rw[←agS,←htu,←dM] at hinv;have hls:(N++[nw]).length=N.length+1:=by simp
   refine bh hgd ?_;refine zC hm64 ?_;refine fo (c:=0) Tryz.func205 zk zk zk zk zo ?_;rw[hlo1,hc1];refine dK hq1 hgu ?_;refine jn Tryz.func197 zk zk zk zk zo ?_;rw[hnw,hb'];refine bh hset ?_;refine aG (N++[nw],c',b') [some 0] rfl (by rw[hls];exact zM) (by exact zM) ⟨by simp only;omega,jt hN q3,hcc,q2,by simp only[hls];rw[hinv,agS]⟩ (by simp only;omega)
 · obtain rfl:n=N.length:=by omega
   have hgu:=hgu N.length (agt _) zo;generalize T.getD N.length 0=u at*
   obtain ⟨q1,q2,q3⟩:=nj hxu hc hb;have hnd2:(nl dl).length=N.length:=by omega
   have hdf:dl.take N.length=dl:=agB zo;rw[hdf] at hv;generalize hnw:(u+18446744073709551616-c-bo)%18446744073709551616=nw at*
   have hb0:∀b',(if u<c+bo then 1 else 0)=b'→aA 18446744073709551616 (N++[nw])+t*aA 18446744073709551616 dl=U+18446744073709551616^(N.length+1)*b':=fun b' e=>by
    rw[e] at q1;have hinv:=sH (Bi:=18446744073709551616^N.length) (B:=18446744073709551616) (nw:=nw) (p:=0) (tt:=u) (bo':=b') (c':=0) (A2:=t*aA 18446744073709551616 dl) zo hv zo;rw[←agS,←htu,←dM,hTv,aiy,ahA] at hinv;exact hinv
   have hNv:=fx (B:=18446744073709551616) (l:=N++[nw]) (jt hN q3);rw[agn,aip] at hNv
   have hif:(if u<c+bo then 1 else 0)=(if U<t*aA 18446744073709551616 dl then 1 else 0:Nat):=by
    by_cases hc1:u<c+bo
    · have e:=hb0 1 (if_pos hc1)
      rw[if_pos hc1,if_pos zo]
    · have e:=hb0 0 (if_neg hc1)
      rw[if_neg hc1,if_neg zo]
   have e:=hb0 _ hif;have hval:aA 18446744073709551616 (N++[nw])=U+18446744073709551616^(N.length+1)*(if U<t*aA 18446744073709551616 dl then 1 else 0)-t*aA 18446744073709551616 dl:=by omega
   have hfw:=vK (B:=18446744073709551616) (l:=N++[nw]) (k:=N.length+1) (jt hN q3) (by simp) hval;have hend:=hfull (N++[nw]) (by simp);rw[hfw] at hQ;clear hb0 hval hfw e;generalize hbb:(if U<t*aA 18446744073709551616 dl then 1 else 0:Nat)=bb at*
   have hb1:bb≤1:=by rw[←hbb];split<;>omega
   refine dK hnd2 hgu ?_;refine jn Tryz.func197 zk zk zk zk zo ?_;rw[hnw,hif];refine dK hset hend ?_;exact ak [some 0] hQ
theorem BG {B v x y:Nat} (hy:0<y):(x+B*v)/y=(v%y*B+x)/y+B*(v/y)∧(x+B*v)%y=(v%y*B+x)%y:=by
 have h:=agT v y;generalize v%y=r at*
 generalize v/y=q at*
 have e:x+B*v=y*(B*q)+(r*B+x):=by
  rw[←h,ag1,ahZ,agK B r];omega
 rw[e,Nat.mul_add_div hy,Nat.mul_add_mod,ah1];exact⟨rfl,rfl⟩
set_option maxHeartbeats 1000000 in
theorem FN {W:List Nat} {y:Nat} (hW:∀d∈W,d<18446744073709551616) (hl:W.length≤2000000) (hy0:0<y) (hy:y<18446744073709551616):aC Tryz.prog 195 [.row 1 ((nl W).map (ie .u64)),.lit (.int .u64 (y:Int))] []
 (.tup [.sl 0 1 0 W.length,.lit (.int .u64 ((aA 18446744073709551616 W%y:Nat):Int))]) [some (.row 1 ((nl (fw 18446744073709551616 W.length (aA 18446744073709551616 W/y))).map (ie .u64)))]:=by
 refine zF pl Tryz.call195 Tryz.func195 [.tmp 4,.tmp 5] fun Q hQ=>?_;have hnW:=aD W;refine ae ?_
 refine aM (X:=Nat×List Nat) (st:=fun z=>([(0,.row 1 ((nl W).map (ie .u64))),(1,.lit (.int .u64 (y:Int))),(6,.sl 0 1 0 W.length),(7,.lit (.int .u64 ((aA 18446744073709551616 (W.drop z.1)%y:Nat):Int))),(8,.lit (.int .i64 ((z.1:Int)-1)))],[some (.row 1 ((nl z.2).map (ie .u64)))]))
  (inv:=fun z=>z.1≤W.length∧z.2.length=W.length∧(∀d∈z.2,d<18446744073709551616)∧aA 18446744073709551616 (z.2.drop z.1)=aA 18446744073709551616 (W.drop z.1)/y)
  (m:=fun z=>z.1) (W.length,List.replicate W.length 0) [some 0] rfl (by simp only[←lB];exact zM) (by simp only[aix,show aA 18446744073709551616 []%y=0 from Nat.zero_mod y];exact zM)
  ⟨agt _,by simp,fun d hd=>by rw[aib hd];decide,by simp[aA]⟩ ?_
 rintro ⟨k,O⟩ ⟨hk,hO,hOl,hv⟩;simp only at hk hO hOl hv ⊢;have hnO:=aD O
 by_cases h:0<k
 · obtain ⟨i,rfl⟩:∃i,k=i+1:=⟨k-1,by omega⟩
   have hg:=bg W i;have hx:=cv zd hW i;have hdv:=FA (l:=W) (i:=i) (B:=18446744073709551616) zo;have hki:(((i+1:Nat):Int)-1).toNat=i:=by omega
   generalize W.getD i 0=x at*
   obtain ⟨s1,s2⟩:=BG (B:=18446744073709551616) (v:=aA 18446744073709551616 (W.drop (i+1))) (x:=x) hy0;rw[←hdv] at s1 s2;have hr:=agJ (aA 18446744073709551616 (W.drop (i+1))) hy0;generalize aA 18446744073709551616 (W.drop (i+1))%y=r at*
   have hd:=uI (hi:=r) (lo:=x) (y:=y) hr hx hy
   have hq:(r*18446744073709551616+x)/y<18446744073709551616:=by
    rw[agY hy0];omega
   rw[←s2] at hd;generalize (r*18446744073709551616+x)/y=q at*
   have hset:=fv O i q;refine dK hki hg ?_;refine az (hd) rfl rfl ?_;refine dK hki hset ?_;refine aO (i,O.set i q) [some 0] ⟨by simp only;omega,by simpa using hO,dS hOl hq,?_⟩ (by simp only;omega);simp only;rw[set_drop zo];show q+18446744073709551616*aA 18446744073709551616 (O.drop (i+1))=_;rw[hv,s1]
 · obtain rfl:k=0:=by omega
   rw[agO,agO] at hv;rw[agO];have hf:=vK (B:=18446744073709551616) hOl hO hv;rw[hf] at hQ;exact zE [some 0] hQ
theorem GD {v s i:Nat} (hs:s≤63):v/2^s/18446744073709551616^i%18446744073709551616=v/18446744073709551616^i%18446744073709551616/2^s+v/18446744073709551616^(i+1)%18446744073709551616*2^(64-s)%18446744073709551616:=by
 have e:(18446744073709551616:Nat)=2^s*2^(64-s):=by rw[←ahq,show s+(64-s)=64 by omega]
 have hp:0<2^s:=agV zd;have hq:0<2^(64-s):=agV zd;rw[ahs,agK,←ahs,agS,←ahs];generalize v/18446744073709551616^i=x;have h1:x/2^s%18446744073709551616=x%(2^s*18446744073709551616)/2^s:=(Nat.mod_mul_right_div_self _ _ _).symm
 have h2:x/18446744073709551616%18446744073709551616*2^(64-s)%18446744073709551616=x/18446744073709551616%2^s*2^(64-s):=by
  have e3:∀z:Nat,z%18446744073709551616*2^(64-s)%18446744073709551616=z%2^s*2^(64-s):=fun z=>by
   rw[e,aiF,Nat.mod_mul_right_mod]
  exact e3 _
 have h3:x%(2^s*18446744073709551616)=x%18446744073709551616+18446744073709551616*(x/18446744073709551616%2^s):=by
  rw[agK,Nat.mod_mul]
 rw[h1,h2,h3]
 have h4:18446744073709551616*(x/18446744073709551616%2^s)=2^s*(x/18446744073709551616%2^s*2^(64-s)):=by
  generalize x/18446744073709551616%2^s=z
  conv=>lhs;rw[e]
  rw[agZ,agK (2^(64-s))]
 rw[h4,air _ _ hp]
end Go.Proofs.YtcnlmelpnflhnaaGreat
