import Derived.Test.YtcnlmelpnflhnaaGreatN1
import Derived.Test.YtcnlmelpnflhnaaGreatE7
import Derived.Test.YtcnlmelpnflhnaaGreatD2
import Derived.Test.YtcnlmelpnflhnaaGreatDh
import Derived.Test.YtcnlmelpnflhnaaGreatD1
namespace Go.Proofs.YtcnlmelpnflhnaaGreat
open Go.Eng
set_option linter.unusedSimpArgs false
set_option linter.unusedVariables false
set_option maxRecDepth 100000
theorem Ef {n k:Nat} (h1:2^(k-1)≤n) (h2:n<2^k) (hk:0<k):bl n=k:=by
 have h3:=ko n;have hn:n≠0:=by have:0<2^(k-1):=akN zd;omega
 have h4:=pC (n:=n) hn;have h5:k-1<bl n:=(amS (a:=2) zd).1 (ak4 h1 h3);have h6:bl n-1<k:=(amS (a:=2) zd).1 (ak4 h4 h2);omega
theorem AD {n:Nat} (hn:n≠0):0<(wg n).length∧(wg n).getD ((wg n).length-1) 0<18446744073709551616∧bl n=64*((wg n).length-1)+bl ((wg n).getD ((wg n).length-1) 0):=by
 have hne:wg n≠ []:=fun e=>hn (Ad.1 e);have hl:0<(wg n).length:=amT.2 hne;have hlast:=Ih (B:=18446744073709551616) zd n hne
 have hget:(wg n).getD ((wg n).length-1) 0=(wg n).getLast hne:=by
  rw[List.getLast_eq_getElem,akf,akh zo]
  rfl
 have ht:(wg n).getD ((wg n).length-1) 0≠0:=by rw[hget];exact hlast
 have htl:=cN zd (fe n) ((wg n).length-1);refine⟨hl,htl,?_⟩;generalize hm:(wg n).length-1=m at*
 have hlen:(wg n).length=m+1:=by omega
 have hv:n=aE 18446744073709551616 ((wg n).take m)+18446744073709551616^m*(wg n).getD m 0:=by
  have:=dj (B:=18446744073709551616) (wg n) m
  rw[aku (show(wg n).length≤m+1 by omega),eH] at this;exact this
 have hlow:aE 18446744073709551616 ((wg n).take m)<18446744073709551616^m:=by
  have:=gj (B:=18446744073709551616) (l:=(wg n).take m) (fun d hd=>fe n d (akt hd))
  rwa [akr,alh zo] at this
 generalize (wg n).getD m 0=t at*
 generalize aE 18446744073709551616 ((wg n).take m)=v at*
 have hp:18446744073709551616^m=2^(64*m):=by rw[Nat.pow_mul]
 rw[hp] at hv hlow;have hb1:=ko t;have hb2:=pC (n:=t) ht;have hb3:=jV (n:=t) ht;refine Ef ?_ ?_ zo
 · rw[show 64*m+bl t-1=64*m+(bl t-1) by omega,ale]
   have:=alg (2^(64*m)) hb2
   omega
 · rw[ale]
   have:2^(64*m)*(t+1)≤2^(64*m)*2^bl t:=alg _ hb1
   rw[akU,al9] at this;omega
open Go.Eng Go.Vx
theorem BC {B:List Nat} (hB:B.length≤4000000) (h:B≠ []):aA Tryz.prog 136 [.row 1 ((nl B).map (ie .u64))] [] (.sl 0 1 0 B.length) [some (.row 1 ((nl B).map (ie .u64)))]:=by
 refine zF pl Tryz.call136 Tryz.func136 [.tmp 2] fun Q hQ=>?_;have hnl:=av B;have he:((nl B).map (ie .u64)).isEmpty=false:=by simp[h,nl]
 refine bg he ?_;exact ai [some 1] hQ
theorem Lj {N T:List Nat} {i:Nat} (h:N.length≤i) (hi:i<T.length):(nl (jc [] N T)).getD i 0=((T.getD i 0:Nat):Int):=by
 rw[bt]
 have:=nN (P:=[]) h hi
 rw[akz,akP] at this;rw[this]
theorem QK {N T:List Nat} {x i:Nat} (hi:N.length=i) (h:i<T.length):(nl (jc [] N T)).set i (x:Int)=nl (jc [] (N++[x]) T):=by
 rw[fJ]
 have:=v9 (P:=[]) (N:=N) (T:=T) (x:=x) zo
 rw[akz,akP,hi] at this;rw[this]
theorem QX {N T:List Nat} {a i:Nat} (hi:N.length=i):(nl (jc [] (N++[a]) T)).getD i 0=(a:Int):=by
 rw[bt];unfold jc;rw[aln,akf,akp (by simp;omega),akq zo,hi,alw]
 rfl
theorem JR {N T:List Nat} {a x i:Nat} (hi:N.length=i):(nl (jc [] (N++[a]) T)).set i (x:Int)=nl (jc [] (N++[x]) T):=by
 rw[fJ];unfold jc;rw[aln,aln,List.set_append_left (h:=by simp;omega),ame (h:=by omega),hi,alw,amt,ake,ake]
 rfl
theorem Og {B i v:Nat}:fw B (i+1) v=fw B i v++[v/B^i%B]:=by
 rw[jW]
 rfl
theorem Lb (l:List Nat) (n:Nat):(nl l).drop n=nl (l.drop n):=by simp[nl,List.map_drop]
theorem W7 {A B k:Nat} (hB:B<2^k) (hA:A*2^k<18446744073709551616) (hB2:B<18446744073709551616):bS .or .u64 (B:Int) ((A*2^k:Nat):Int)=((B+A*2^k:Nat):Int):=by
 rw[iK hB2 hA,Nat.or_comm,alX,←Nat.shiftLeft_eq,←Nat.shiftLeft_add_eq_or_of_lt hB]
theorem QH {w z s:Nat} (hs:s≤63) (hw:w<18446744073709551616):bS .or .u64 ((w/2^s:Nat):Int) ((z*2^(64-s)%18446744073709551616:Nat):Int)=((w/2^s+z*2^(64-s)%18446744073709551616:Nat):Int):=by
 have e:(18446744073709551616:Nat)=2^s*2^(64-s):=by rw[←ale,show s+(64-s)=64 by omega]
 have hm:z*2^(64-s)%18446744073709551616=z%2^s*2^(64-s):=by rw[e,amG]
 have hl:w/2^s<2^(64-s):=by rw[akR (akN zd),akC,←e];exact hw
 have hlt:z*2^(64-s)%18446744073709551616<18446744073709551616:=akD _ zd;rw[hm] at hlt ⊢;exact W7 hl hlt (ak4 (alq _ _) hw)
theorem Cc {v N:Nat} {n:Int} (hn:max 0 n=(N:Int)) (hN:N<9223372036854775808) (hv:(wg v).length≤1000000):aA Tryz.prog 192 [NV v,.I n] [] (NV (v/2^N)) []:=by
 refine zF Pt Tryz.call192 Tryz.func192 [.cell 4 157] fun Q hQ=>?_;have hnl:=av (wg v);have hq:(N:Int)/64=((N/64:Nat):Int):=by omega
 have hs:(N:Int)%64=((N%64:Nat):Int):=by omega
 by_cases h:(wg v).length≤N/64
 · have h0:v/2^N=0:=by
    refine alx (akT (gh (B:=18446744073709551616) zd v) ?_);rw[show(18446744073709551616:Nat)=2^64 from rfl,←Nat.pow_mul];refine ako zd ?_;show 64*(wg v).length≤N;omega
   rw[h0,qj] at hQ;refine eo hn hq ?_;exact ai [] hQ
 · have hml:((wg v).drop (N/64)).length=(wg v).length-N/64:=akW
   have hmn:(nl ((wg v).drop (N/64))).length=(wg v).length-N/64:=by rw[av,hml]
   have hx:aE 18446744073709551616 ((wg v).drop (N/64))=v/18446744073709551616^(N/64):=by
    have h1:=jF 18446744073709551616 ((wg v).take (N/64)) ((wg v).drop (N/64));rw[alT,eH,akr,alh zo] at h1;have h2:=gj (B:=18446744073709551616) (l:=(wg v).take (N/64)) (fun d hd=>fe v d (akt hd));rw[akr,alh zo] at h2;have hP:0<18446744073709551616^(N/64):=akN zd
    conv=>rhs;rw[h1]
    rw[amu _ _ hP,alx h2,akP]
   have hxN:v/2^N=aE 18446744073709551616 ((wg v).drop (N/64))/2^(N%64):=by
    rw[hx,alm,show(18446744073709551616:Nat)=2^64 from rfl,←Nat.pow_mul,←ale,akO]
   have hWl:∀d∈(wg v).drop (N/64),d<18446744073709551616:=fun d hd=>fe v d (alP hd);have hs63:N%64≤63:=by omega
   rw[hxN] at hQ
   have hne:(wg v).drop (N/64)≠ []:=fun e=>by
    rw[e] at hml;simp at hml;omega
   have hcl:=BC (B:=(wg v).drop (N/64)) zo hne
   simp(maxSteps:=1000000) (disch:=(first | omega | (simp only[cS,aki,akj,true_and,and_true];(try omega);done) | fail)) only[go_sem,hn,hq,hs,←List.map_drop,Lb,akw,Int.reduceEq,Int.reduceToNat,Nat.reduceAdd,Nat.reduceMul,Nat.reduceEqDiff, ↓reduceIte]
   refine dk (hcl) ?_;clear hx hxN;generalize hW:(wg v).drop (N/64)=W at*
   generalize N%64=s at*
   refine qm hn hq hs ?_;have hWv:=JD hWl;have hxl:=gj hWl;generalize hx:aE 18446744073709551616 W=x at*
   refine aW (X:=Nat) (st:=fun i=>([(4,.ref 0 0 0 0),(5,.sl 1 1 0 W.length),(6,.I i),(7,.I s)],[some (.cells [.lit (.slice none 0 0)]),some (.row 1 ((nl (jc [] (fw 18446744073709551616 i (x/2^s)) W)).map (ie .u64)))]))
    (inv:=fun i=>i≤W.length) (m:=fun i=>W.length-i) 0 [some 1,some 2] rfl (by simp only[fw,nD,aln];exact zM) zM zo ?_
   intro i hi;have hF:=cJ (B:=18446744073709551616) i (x/2^s);have hpl:=ox (P:=[]) (N:=fw 18446744073709551616 i (x/2^s)) (T:=W) zo;have hnp:=av (jc [] (fw 18446744073709551616 i (x/2^s)) W);rw[akz,akP] at hpl
   by_cases h1:i<W.length
   · have hsn:=Og (B:=18446744073709551616) (i:=i) (v:=x/2^s)
     have hsw:=JW (v:=x) (s:=s) (i:=i) hs63;have hwi:=iZ (B:=18446744073709551616) (k:=W.length) (i:=i) x h1;rw[hWv] at hwi;have hwl:=cN zd hWl i;have hg1:=Lj (N:=fw 18446744073709551616 i (x/2^s)) (T:=W) (i:=i) zo h1
     have hwz:∀j,j<W.length→W.getD j 0=x/18446744073709551616^j%18446744073709551616:=fun j hj=>by
      have:=iZ (B:=18446744073709551616) (k:=W.length) (i:=j) x hj
      rwa [hWv] at this
     rw[hsw] at hsn;rw[←hwi] at hsn;obtain ⟨F,hFe⟩:∃F,fw 18446744073709551616 i (x/2^s)=F:=⟨_,rfl⟩;rw[hFe] at hsn hg1 hF hpl hnp;rw[hFe];obtain ⟨w,hw⟩:∃w,W.getD i 0=w:=⟨_,rfl⟩;rw[hw] at hsn hg1 hwl;have hset1:∀y:Nat,(nl (jc [] F W)).set i (y:Int)=nl (jc [] (F++[y]) W):=fun y=>QK hF h1;have hdv:(w:Int)/2^s=((w/2^s:Nat):Int):=hH w s;have hi1:((i:Int)+1).toNat=i+1:=by omega
     have hpl2:=fun a:Nat=>ox (P:=[]) (N:=F++[a]) (T:=W) (by simp;omega)
     by_cases h2:i+1<W.length
     · have hg2:=QX (T:=W) (N:=F) (a:=w/2^s) (i:=i) hF
       have hg3:=Lj (N:=F++[w/2^s]) (T:=W) (i:=i+1) (by simp;omega) h2;have hz:=hwz (i+1) h2;rw[←hz] at hsn;generalize W.getD (i+1) 0=z at*
       have k3:IntKind.u64.wrap ((z:Int)*2^(64-s))=((z*2^(64-s)%18446744073709551616:Nat):Int):=wrap_mul _ _;have k4:(64:Int)-(s:Int)=((64-s:Nat):Int):=by omega
       have hor:=QH (w:=w) (z:=z) hs63 hwl;have hset2:∀y:Nat,(nl (jc [] (F++[w/2^s]) W)).set i (y:Int)=nl (jc [] (F++[y]) W):=fun y=>JR hF;have hnp2:=av (jc [] (F++[w/2^s]) W);have hpl3:=hpl2 (w/2^s);rw[akz,akP] at hpl3;refine ae9 hg1 hdv hset1 hi1 hg2 hg3 k3 k4 hor hset2 ?_;refine aI (i+1) [some 0,some 1] rfl (by rw[hsn];exact zM) zM zo zo
     · have hz0:x/18446744073709551616^(i+1)=0:=alx (by rw[show i+1=W.length by omega];exact hxl)
       rw[hz0,Nat.zero_mod,alF,Nat.zero_mod,alv] at hsn;have hnp2:=av (jc [] (F++[w/2^s]) W);have hpl3:=hpl2 (w/2^s);rw[akz,akP] at hpl3;refine qm hg1 hdv hset1 ?_;refine aI (i+1) [some 0,some 1] rfl (by rw[hsn];exact zM) zM zo zo
   · obtain rfl:i=W.length:=by omega
     have hpe:jc [] (fw 18446744073709551616 W.length (x/2^s)) W=fw 18446744073709551616 W.length (x/2^s):=by
      unfold jc;rw[hF,amA,ak7,aln]
     have hval:aE 18446744073709551616 (fw 18446744073709551616 W.length (x/2^s))=x/2^s:=by
      rw[kL zd,akG (ak4 (alq _ _) hxl)]
     have hlt:=pG (B:=18446744073709551616) zd W.length (x/2^s);have hnf:=av (fw 18446744073709551616 W.length (x/2^s));rw[hpe];refine ae ?_;refine aF [] [1] (dD (l:=fw 18446744073709551616 W.length (x/2^s)) hlt zo) ?_;rw[hval];exact zE [] hQ
theorem Ba {B a b m n t:Nat} (hB:0<B) (hn:0<n) (ha:a<B^m) (hb:B^(n-1)≤b) (hnm:n≤m) (ht:0<t):a*t/B^(m+1-n)<b*t:=by
 rw[akR (akN hB)];have h1:B^m=B^(n-1)*B^(m+1-n):=by rw[←ale];congr 1;omega
 have h2:a<b*B^(m+1-n):=akT ha (by rw[h1];exact akI _ hb);have h3:=amE h2 ht;rw[Nat.mul_right_comm] at h3;exact h3
theorem Ct {b:Nat} (hb:b≠0):let s:=64-bl ((wg b).getD ((wg b).length-1) 0)
 s≤63∧b*2^s<18446744073709551616^(wg b).length∧18446744073709551616^((wg b).length-1)≤b∧9223372036854775808*18446744073709551616^((wg b).length-1)≤b*2^s:=by
 obtain ⟨h1,h2,h3⟩:=AD hb;have h4:=ko b;have h5:=pC (n:=b) hb;have h7:=bI (n:=(wg b).getD ((wg b).length-1) 0) (k:=64) h2
 have h8:18446744073709551616^((wg b).length-1)≤b:=by
  refine Classical.byContradiction fun hn=>?_
  have:=rS (n:=b) (k:=(wg b).length-1) zo
  omega
 have e:∀k,(18446744073709551616:Nat)^k=2^(64*k):=fun k=>by rw[Nat.pow_mul]
 have h9:64*((wg b).length-1)<bl b:=(amS (a:=2) zd).1 (by rw[←e];exact ak4 h8 h4);generalize bl ((wg b).getD ((wg b).length-1) 0)=k at*
 generalize hl:(wg b).length=l at*
 intro s;have hs:s=64-k:=rfl;have hp:0<2^s:=akN zd;refine⟨by omega,?_,h8,?_⟩
 · rw[e,show 64*l=bl b+s by omega,ale]
   exact amE h4 hp
 · have:=akI (2^s) h5
   rw[←ale,show bl b-1+s=63+64*(l-1) by omega,ale,←e] at this;exact this
set_option maxHeartbeats 2000000 in
theorem N1 {a b:Nat} (hn:2≤(wg b).length) (hba:b≤a) (ha:(wg a).length≤1000000):aA Tryz.prog 196 [NV a,NV b] [] (.tup [NV (a/b),NV (a%b),.I 0]) []:=by
 refine zF Qd Tryz.call196 Tryz.func196 [.cell 4 157,.cell 5 157,.tmp 6] fun Q hQ=>?_;have hnA:=av (wg a);have hnB:=av (wg b);have hle:(wg b).length≤(wg a).length:=df hba;have hg:=bt (wg b) ((wg b).length-1);have hix:(((nl (wg b)).length:Int)-1).toNat=(wg b).length-1:=by omega
 have hb0:b≠0:=fun e=>by rw[e,eU] at hn;simp at hn
 obtain ⟨w1,w2,w3⟩:=AD hb0;obtain ⟨e1,e2,e3,e4⟩:=Ct hb0;have hlz:=D1 (n:=(wg b).getD ((wg b).length-1) 0) w2;generalize 64-bl ((wg b).getD ((wg b).length-1) 0)=s at*
 have hmb:=sx (W:=wg b) (s:=s) (fe b) zo e1;have hma:=sx (W:=wg a) (s:=s) (fe a) zo e1;rw[eH] at hmb hma;refine eo hix hg ?_;refine zC hlz ?_;refine dk (hmb) ?_;refine ae ?_;refine dk (hma) ?_;have hkk:(((wg a).length+1:Nat):Int)-((nl (wg b)).length:Int)=(((wg a).length+1-(wg b).length:Nat):Int):=by omega
 have hfd:(fw 18446744073709551616 ((wg b).length+1) (b*2^s)).take (wg b).length=fw 18446744073709551616 (wg b).length (b*2^s):=by rw[jW _ 1,alo (cJ _ _)]
 have hlb:=Ba (B:=18446744073709551616) (a:=a) (b:=b) (m:=(wg a).length) (n:=(wg b).length) (t:=2^s) zd zo (gh zd a) e3 hle (akN zd);have hlf:=AG hlb;generalize hK:(wg a).length+1-(wg b).length=K at*
 have hfl:(nl (fw 18446744073709551616 ((wg b).length+1) (b*2^s))).length=(wg b).length+1:=by rw[av,cJ]
 refine bg hkk ?_
 refine aW (X:=Nat×List Nat) (st:=fun z=>([(4,.ref 0 0 0 0),(5,.ref 1 0 0 0),(7,.I ((wg b).length:Int)),(8,.I s),(9,.row 1 ((nl (fw 18446744073709551616 (wg b).length (b*2^s))).map (ie .u64))),(10,.sl 2 1 0 ((wg a).length+1)),(11,.sl 3 1 0 K),(12,.I ((z.1:Int)-1))],
  [some (.cells [.lit (.slice none 0 0)]),some (.cells [.lit (.slice none 0 0)]),some (.row 1 ((nl (fw 18446744073709551616 ((wg a).length+1) (dU 18446744073709551616 (a*2^s) (b*2^s) z.1))).map (ie .u64))),some (.row 1 ((nl z.2).map (ie .u64)))]))
  (inv:=fun z=>z.1≤K∧z.2.length=K∧(∀d∈z.2,d<18446744073709551616)∧aE 18446744073709551616 (z.2.drop z.1)=a*2^s/18446744073709551616^z.1/(b*2^s))
  (m:=fun z=>z.1) (K,List.replicate K 0) [some 2,some 3,some 5,some 6] rfl (by simp only[hlf.1,←mQ];exact zM) (by simp only[←hfd,hnB,Nat.sub_zero,←nB,amn];exact zM)
  ⟨akk _,by simp,fun d hd=>by rw[alR hd];decide,by simp only[hlf.2];simp[aE]⟩ ?_
 have hD0:0<b*2^s:=Nat.mul_pos zo (akN zd);generalize hAe:a*2^s=A at*
 generalize hDe:b*2^s=D at*
 generalize hne:(wg b).length=n at*
 generalize hme:(wg a).length=m at*
 rintro ⟨k,O⟩ ⟨hk,hO,hOl,hv⟩;simp only at hk hO hOl hv ⊢;have hnO:=av O
 by_cases h:0<k
 · obtain ⟨i,rfl⟩:∃i,k=i+1:=⟨k-1,by omega⟩
   have hki:(((i+1:Nat):Int)-1)=(i:Int):=by omega
   obtain ⟨e,he⟩:∃e,m+1=i+(n+1+e):=⟨m-n-i,by omega⟩;have hVl:=Mx (B:=18446744073709551616) (A:=A) (i:=i) zd hD0
   have hVw:dU 18446744073709551616 A D (i+1)/18446744073709551616^i<18446744073709551616^(n+1):=by
    rw[akM];exact akT hVl (akI _ (am4 e2))
   have hlw:=AR (B:=18446744073709551616) (V:=dU 18446744073709551616 A D (i+1)) (i:=i) (n:=n) (e:=e);have hlb2:=Ee (B:=18446744073709551616) (V:=dU 18446744073709551616 A D (i+1)) (W:=dU 18446744073709551616 A D (i+1)/18446744073709551616^i%D) (i:=i) (n:=n) (e:=e) zd hVw (akT (akD _ hD0) (akE (am4 e2) (ako zd zo)));rw[Jd zd,EV zd] at hlb2;have hquo:=JV (B:=18446744073709551616) (A:=A) (D:=D) (i:=i) zd hD0;have hDv:aE 18446744073709551616 (fw 18446744073709551616 n D)=D:=by rw[kL zd,akG e2]
   have hqlt:dU 18446744073709551616 A D (i+1)/18446744073709551616^i/D<18446744073709551616:=by
    rw[akR hD0,akC];exact hVl
   have hdg:=Kk (P:=fw 18446744073709551616 i (dU 18446744073709551616 A D (i+1))) (S:=fw 18446744073709551616 e (dU 18446744073709551616 A D (i+1)/18446744073709551616^i/18446744073709551616^(n+1))) (dl:=fw 18446744073709551616 n D) (U:=dU 18446744073709551616 A D (i+1)/18446744073709551616^i) (n:=n)
    (cJ _ _) zo (pG zd _ _) (pG zd _ _) (by
     rw[iZ D zo];have hP:0<18446744073709551616^(n-1):=akN zd;have h1:9223372036854775808≤D/18446744073709551616^(n-1):=(alL hP).2 e4
     have h2:D/18446744073709551616^(n-1)<18446744073709551616:=by
      rw[akR hP,akC,←akM,show(n-1).succ=n by omega];exact e2
     rw[akG h2];omega) (by rw[hDv];exact hVl) (by rw[cJ,cJ];omega)
   rw[hDv,cJ,←hlw,hlb2,←he] at hdg;generalize dU 18446744073709551616 A D (i+1)/18446744073709551616^i/D=q at*
   have hnu:=av (fw 18446744073709551616 (m+1) (dU 18446744073709551616 A D (i+1)));rw[cJ] at hnu;have hset:=fJ O i q;have hin:((i:Int)+(n:Int)+1).toNat-i=n+1:=by omega
   refine eo hki hin ?_;refine aF [some 2] [] (hdg) ?_
   have hms:((nl O).map (ie .u64)).set i [PV.lit (.int .u64 q)]=(nl (O.set i q)).map (ie .u64):=by
    rw[←hset,amD];rfl
   refine eo hki hms ?_;refine aR (i,O.set i q) [some 0,some 1,some 2,some 3] ⟨by simp only;omega,by simpa using hO,eE hOl hqlt,?_⟩ (by simp only;omega);simp only;rw[set_drop zo];show q+18446744073709551616*aE 18446744073709551616 (O.drop (i+1))=_;rw[hv,hquo]
 · obtain rfl:k=0:=by omega
   rw[akv,amO,Nat.div_one] at hv;have hdv:=vu (a:=a) (y:=b) (s:=s) zo;rw[hAe,hDe] at hdv;rw[hdv.1] at hv;have hll:=Fo (B:=18446744073709551616) (A:=A) (D:=D);rw[hdv.2] at hll;rw[hll];have hpp:0<2^s:=akN zd
   have hVlt:a%b*2^s<18446744073709551616^n:=by
    rw[←hdv.2];exact Nat.lt_trans (akD _ hD0) e2
   have hft:(fw 18446744073709551616 (m+1) (a%b*2^s)).take n=fw 18446744073709551616 n (a%b*2^s):=by
    rw[show m+1=n+(m+1-n) by omega,jW,alo (cJ _ _)]
   have hfv:aE 18446744073709551616 (fw 18446744073709551616 n (a%b*2^s))=a%b*2^s:=by rw[kL zd,akG hVlt]
   have hnu:=av (fw 18446744073709551616 (m+1) (a%b*2^s));rw[cJ] at hnu;have hml:m≤1000000:=by omega
   have ht:aA Tryz.prog 135 [.row 1 ((nl ((fw 18446744073709551616 (m+1) (a%b*2^s)).take n)).map (ie .u64))] [] (NV (a%b*2^s)) []:=by
    rw[hft]
    have:=dD (l:=fw 18446744073709551616 n (a%b*2^s)) (pG zd _ _) (by rw[cJ];omega)
    rwa [hfv] at this
   rw[←nB,amn] at ht;have hsh:=Cc (v:=a%b*2^s) (N:=s) (n:=(s:Int)) zo zo (akE (rS hVlt) zo);rw[Nat.mul_div_cancel _ hpp] at hsh;refine ae ?_;refine aF [] [3] (dD (l:=O) hOl zo) ?_;rw[hv];refine agX ?_;refine zW [] [2] ht ?_;refine zW [] [] hsh ?_;exact ai [] hQ
theorem vk {b:Nat} (h:(wg b).length=1):wg b=[b]:=by
 have hv:=eH b
 match hw:wg b,h with
 | [d],_=>
   rw[hw] at hv;simp[aE] at hv;rw[hv]
theorem vr {b:Nat} (h:b≠0):0<(wg b).length:=by
 rcases akQ (wg b).length with e | e
 · exact absurd (Ad.1 (akx.1 e)) h
 · exact e
theorem qB {a b:Nat} (hb:b≠0) (ha:(wg a).length≤1000000) (hbl:(wg b).length≤1000000):aA Tryz.prog 179 [NV a,NV b] [] (.tup [NV (a/b),NV (a%b),.I 0]) []:=by
 refine zF Qe Tryz.call179 Tryz.func179 [.cell 4 157,.cell 5 157,.tmp 6] fun Q hQ=>?_;have hnA:=av (wg a);have hnB:=av (wg b);have hb1:=vr hb;refine ae ?_;refine aC (dS (n:=b) zo) rfl rfl ?_;rw[akg hb];refine ae ?_;refine aC (fE (a:=a) (b:=b) zo zo) rfl rfl ?_
 by_cases h:a<b
 · have hc:=fA.2 h
   rw[alx h,akG h,qj] at hQ;have ho:=Hi (l:=wg a) (fe a) zo;rw[eH] at ho;refine bg (aks hc) ?_;refine zC ho ?_;exact ai [] hQ
 · have hc:¬iP a b<0:=fun e=>h (fA.1 e)
   by_cases h1:(wg b).length=1
   · have hw:=vk h1
     have hblt:b<18446744073709551616:=by
      have:=fe b b (by rw[hw];simp)
      exact this
     have hg:(nl (wg b)).getD 0 0=(b:Int):=by rw[hw];rfl
     have hsp:=I7 (W:=wg a) (y:=b) (fe a) zo zo hblt;rw[eH] at hsp
     have hqv:aE 18446744073709551616 (fw 18446744073709551616 (wg a).length (a/b))=a/b:=by
      have hlt:a<18446744073709551616^(wg a).length:=gh (B:=18446744073709551616) zd a;rw[kL zd,akG (ak4 (alq a b) hlt)]
     have hrl:a%b<18446744073709551616:=Nat.lt_trans (akD _ zo) hblt;have hn1:(nl (wg b)).length=1:=by omega
     have hF:=cJ (B:=18446744073709551616) (wg a).length (a/b);have hFl:=pG (B:=18446744073709551616) zd (wg a).length (a/b);generalize fw 18446744073709551616 (wg a).length (a/b)=F at*
     rw[←hF] at hsp;have hnF:=av F;refine qm (akg hc) hn1 hg ?_;refine dk (hsp) ?_;refine ae ?_;refine aF [] [4] (dD (l:=F) hFl zo) ?_;rw[hqv];refine ae ?_;refine zW [] [5] (eI (x:=a%b) hrl) ?_;exact ai [] hQ
   · have hl:=N1 (a:=a) (b:=b) zo zo ha
     have hn1:decide (((nl (wg b)).length:Int)=1)=false:=akg zo;refine eo (akg hc) hn1 ?_;refine zC hl ?_;exact ai [] hQ
theorem LY {a b:Nat} (ha:(wg a).length≤1000000) (hb:(wg b).length≤1000000):aA Tryz.prog 178 [NV a,NV b] [] (NV (Nat.gcd a b)) []:=by
 refine zF O8 Tryz.call178 Tryz.func178 [.cell 4 157] fun Q hQ=>?_;refine ae ?_
 refine aU (X:=Nat×Nat) (st:=fun z=>([(2,.ref 0 0 0 0),(3,.ref 1 0 0 0),(4,.ref 2 0 0 0)],[some (.cells [.row 1 ((nl (wg z.1)).map (ie .u64))]),some (.cells [.row 1 ((nl (wg z.2)).map (ie .u64))]),some (.cells [.lit (.slice none 0 0)])]))
  (inv:=fun z=>(wg z.1).length≤1000000∧(wg z.2).length≤1000000∧Nat.gcd z.1 z.2=Nat.gcd a b) (m:=fun z=>z.2) (a,b) [some 0,some 1,some 2] ⟨ha,hb,rfl⟩ ?_
 rintro ⟨x,y⟩ ⟨hx,hy,hv⟩;simp only at hx hy hv ⊢;rw[←hv] at hQ;refine ae ?_;refine aC (dS (n:=y) zo) rfl rfl ?_
 by_cases h:y=0
 · subst h
   rw[Nat.gcd_zero_right] at hQ;have ho:=Hi (l:=wg x) (fe x) zo;rw[eH] at ho;refine Fw ?_;refine zC ho ?_;exact ai [] hQ
 · rw[akg h]
   refine ae ?_;refine zC (qB (a:=x) (b:=y) h hx hy) ?_;refine aR (y,x%y) [some 0,some 1,some 2] ⟨hy,akE (df (Nat.mod_le _ _)) hx,?_⟩ (akD _ zo);simp only;rw[←hv,Nat.gcd_comm x y,Nat.gcd_rec y x,Nat.gcd_comm]
end Go.Proofs.YtcnlmelpnflhnaaGreat
