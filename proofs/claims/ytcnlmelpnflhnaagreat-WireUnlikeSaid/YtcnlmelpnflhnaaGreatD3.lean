import Derived.Test.YtcnlmelpnflhnaaGreatN1
import Derived.Test.YtcnlmelpnflhnaaGreatE7
import Derived.Test.YtcnlmelpnflhnaaGreatD2
import Derived.Test.YtcnlmelpnflhnaaGreatDh
import Derived.Test.YtcnlmelpnflhnaaGreatD1
namespace Go.Proofs.YtcnlmelpnflhnaaGreat
open Go.Eng
set_option linter.unusedSimpArgs false
set_option linter.unusedVariables false
set_option maxRecDepth 100000
theorem Bn {n k:Nat} (h1:2^(k-1)≤n) (h2:n<2^k) (hk:0<k):bl n=k:=by
 have h3:=jr n;have hn:n≠0:=by have:0<2^(k-1):=agV zd;omega
 have h4:=nT (n:=n) hn;have h5:k-1<bl n:=(aiS (a:=2) zd).1 (ahb h1 h3);have h6:bl n-1<k:=(aiS (a:=2) zd).1 (ahb h4 h2);omega
theorem xS {n:Nat} (hn:n≠0):0<(wg n).length∧(wg n).getD ((wg n).length-1) 0<18446744073709551616∧bl n=64*((wg n).length-1)+bl ((wg n).getD ((wg n).length-1) 0):=by
 have hne:wg n≠ []:=fun e=>hn (xA.1 e);have hl:0<(wg n).length:=aiT.2 hne;have hlast:=Fb (B:=18446744073709551616) zd n hne
 have hget:(wg n).getD ((wg n).length-1) 0=(wg n).getLast hne:=by
  rw[List.getLast_eq_getElem,ago,agp zo]
  rfl
 have ht:(wg n).getD ((wg n).length-1) 0≠0:=by rw[hget];exact hlast
 have htl:=cv zd (eB n) ((wg n).length-1);refine⟨hl,htl,?_⟩;generalize hm:(wg n).length-1=m at*
 have hlen:(wg n).length=m+1:=by omega
 have hv:n=aA 18446744073709551616 ((wg n).take m)+18446744073709551616^m*(wg n).getD m 0:=by
  have:=cL (B:=18446744073709551616) (wg n) m
  rw[agB (show(wg n).length≤m+1 by omega),dU] at this;exact this
 have hlow:aA 18446744073709551616 ((wg n).take m)<18446744073709551616^m:=by
  have:=fx (B:=18446744073709551616) (l:=(wg n).take m) (fun d hd=>eB n d (ag5 hd))
  rwa [agz,ahm zo] at this
 generalize (wg n).getD m 0=t at*
 generalize aA 18446744073709551616 ((wg n).take m)=v at*
 have hp:18446744073709551616^m=2^(64*m):=by rw[Nat.pow_mul]
 rw[hp] at hv hlow;have hb1:=jr t;have hb2:=nT (n:=t) ht;have hb3:=jc (n:=t) ht;refine Bn ?_ ?_ zo
 · rw[show 64*m+bl t-1=64*m+(bl t-1) by omega,ahq]
   have:=ahl (2^(64*m)) hb2
   omega
 · rw[ahq]
   have:2^(64*m)*(t+1)≤2^(64*m)*2^bl t:=ahl _ hb1
   rw[ag1,aid] at this;omega
open Go.Eng Go.Vx
theorem yO {B:List Nat} (hB:B.length≤4000000) (h:B≠ []):aC Tryz.prog 136 [.row 1 ((nl B).map (ie .u64))] [] (.sl 0 1 0 B.length) [some (.row 1 ((nl B).map (ie .u64)))]:=by
 refine zF pl Tryz.call136 Tryz.func136 [.tmp 2] fun Q hQ=>?_;have hnl:=aD B;have he:((nl B).map (ie .u64)).isEmpty=false:=by simp[h,nl]
 refine bh he ?_;exact ak [some 1] hQ
theorem HE {N T:List Nat} {i:Nat} (h:N.length≤i) (hi:i<T.length):(nl (iv [] N T)).getD i 0=((T.getD i 0:Nat):Int):=by
 rw[bg]
 have:=mi (P:=[]) h hi
 rw[agE,agU] at this;rw[this]
theorem ME {N T:List Nat} {x i:Nat} (hi:N.length=i) (h:i<T.length):(nl (iv [] N T)).set i (x:Int)=nl (iv [] (N++[x]) T):=by
 rw[fv]
 have:=tH (P:=[]) (N:=N) (T:=T) (x:=x) zo
 rw[agE,agU,hi] at this;rw[this]
theorem MR {N T:List Nat} {a i:Nat} (hi:N.length=i):(nl (iv [] (N++[a]) T)).getD i 0=(a:Int):=by
 rw[bg];unfold iv;rw[aht,ago,agx (by simp;omega),agy zo,hi,ahJ]
 rfl
theorem Gy {N T:List Nat} {a x i:Nat} (hi:N.length=i):(nl (iv [] (N++[a]) T)).set i (x:Int)=nl (iv [] (N++[x]) T):=by
 rw[fv];unfold iv;rw[aht,aht,List.set_append_left (h:=by simp;omega),aiG (h:=by omega),hi,ahJ,aiC,agn,agn]
 rfl
theorem Kf {B i v:Nat}:fw B (i+1) v=fw B i v++[v/B^i%B]:=by
 rw[jd]
 rfl
theorem Hy (l:List Nat) (n:Nat):(nl l).drop n=nl (l.drop n):=by simp[nl,List.map_drop]
theorem SM {A B k:Nat} (hB:B<2^k) (hA:A*2^k<18446744073709551616) (hB2:B<18446744073709551616):bY .or .u64 (B:Int) ((A*2^k:Nat):Int)=((B+A*2^k:Nat):Int):=by
 rw[jo hB2 hA,Nat.or_comm,ah1,←Nat.shiftLeft_eq,←Nat.shiftLeft_add_eq_or_of_lt hB]
theorem MC {w z s:Nat} (hs:s≤63) (hw:w<18446744073709551616):bY .or .u64 ((w/2^s:Nat):Int) ((z*2^(64-s)%18446744073709551616:Nat):Int)=((w/2^s+z*2^(64-s)%18446744073709551616:Nat):Int):=by
 have e:(18446744073709551616:Nat)=2^s*2^(64-s):=by rw[←ahq,show s+(64-s)=64 by omega]
 have hm:z*2^(64-s)%18446744073709551616=z%2^s*2^(64-s):=by rw[e,aiF]
 have hl:w/2^s<2^(64-s):=by rw[agY (agV zd),agK,←e];exact hw
 have hlt:z*2^(64-s)%18446744073709551616<18446744073709551616:=agJ _ zd;rw[hm] at hlt ⊢;exact SM hl hlt (ahb (ahv _ _) hw)
theorem zc {v N:Nat} {n:Int} (hn:max 0 n=(N:Int)) (hN:N<9223372036854775808) (hv:(wg v).length≤1000000):aC Tryz.prog 192 [NV v,.lit (.int .i64 n)] [] (NV (v/2^N)) []:=by
 refine zF Lw Tryz.call192 Tryz.func192 [.cell 4 157] fun Q hQ=>?_;have hnl:=aD (wg v);have hq:(N:Int)/64=((N/64:Nat):Int):=by omega
 have hs:(N:Int)%64=((N%64:Nat):Int):=by omega
 by_cases h:(wg v).length≤N/64
 · have h0:v/2^N=0:=by
    refine ahG (ag6 (fr (B:=18446744073709551616) zd v) ?_);rw[show(18446744073709551616:Nat)=2^64 from rfl,←Nat.pow_mul];refine agA zd ?_;show 64*(wg v).length≤N;omega
   rw[h0,oy] at hQ;refine dK hn hq ?_;exact ak [] hQ
 · have hml:((wg v).drop (N/64)).length=(wg v).length-N/64:=ag3
   have hmn:(nl ((wg v).drop (N/64))).length=(wg v).length-N/64:=by rw[aD,hml]
   have hx:aA 18446744073709551616 ((wg v).drop (N/64))=v/18446744073709551616^(N/64):=by
    have h1:=iR 18446744073709551616 ((wg v).take (N/64)) ((wg v).drop (N/64));rw[ail,dU,agz,ahm zo] at h1;have h2:=fx (B:=18446744073709551616) (l:=(wg v).take (N/64)) (fun d hd=>eB v d (ag5 hd));rw[agz,ahm zo] at h2;have hP:0<18446744073709551616^(N/64):=agV zd
    conv=>rhs;rw[h1]
    rw[air _ _ hP,ahG h2,agU]
   have hxN:v/2^N=aA 18446744073709551616 ((wg v).drop (N/64))/2^(N%64):=by
    rw[hx,ahs,show(18446744073709551616:Nat)=2^64 from rfl,←Nat.pow_mul,←ahq,agT]
   have hWl:∀d∈(wg v).drop (N/64),d<18446744073709551616:=fun d hd=>eB v d (ahW hd);have hs63:N%64≤63:=by omega
   rw[hxN] at hQ
   have hne:(wg v).drop (N/64)≠ []:=fun e=>by
    rw[e] at hml;simp at hml;omega
   have hcl:=yO (B:=(wg v).drop (N/64)) zo hne
   simp(maxSteps:=1000000) (disch:=(first | omega | (simp only[dm,agr,ags,true_and,and_true];(try omega);done) | fail)) only[go_sem,hn,hq,hs,←List.map_drop,Hy,agF,Int.reduceEq,Int.reduceToNat,Nat.reduceAdd,Nat.reduceMul,Nat.reduceEqDiff, ↓reduceIte]
   refine dB (hcl) ?_;clear hx hxN;generalize hW:(wg v).drop (N/64)=W at*
   generalize N%64=s at*
   refine rD hn hq hs ?_;have hWv:=Gj hWl;have hxl:=fx hWl;generalize hx:aA 18446744073709551616 W=x at*
   refine aM (X:=Nat) (st:=fun i=>([(4,.ref 0 0 0 0),(5,.sl 1 1 0 W.length),(6,.lit (.int .i64 (i:Int))),(7,.lit (.int .i64 (s:Int)))],[some (.cells [.lit (.slice none 0 0)]),some (.row 1 ((nl (iv [] (fw 18446744073709551616 i (x/2^s)) W)).map (ie .u64)))]))
    (inv:=fun i=>i≤W.length) (m:=fun i=>W.length-i) 0 [some 1,some 2] rfl (by simp only[fw,l7,aht];exact zM) zM zo ?_
   intro i hi;have hF:=cj (B:=18446744073709551616) i (x/2^s);have hpl:=mW (P:=[]) (N:=fw 18446744073709551616 i (x/2^s)) (T:=W) zo;have hnp:=aD (iv [] (fw 18446744073709551616 i (x/2^s)) W);rw[agE,agU] at hpl
   by_cases h1:i<W.length
   · have hsn:=Kf (B:=18446744073709551616) (i:=i) (v:=x/2^s)
     have hsw:=GD (v:=x) (s:=s) (i:=i) hs63;have hwi:=ic (B:=18446744073709551616) (k:=W.length) (i:=i) x h1;rw[hWv] at hwi;have hwl:=cv zd hWl i;have hg1:=HE (N:=fw 18446744073709551616 i (x/2^s)) (T:=W) (i:=i) zo h1
     have hwz:∀j,j<W.length→W.getD j 0=x/18446744073709551616^j%18446744073709551616:=fun j hj=>by
      have:=ic (B:=18446744073709551616) (k:=W.length) (i:=j) x hj
      rwa [hWv] at this
     rw[hsw] at hsn;rw[←hwi] at hsn;obtain ⟨F,hFe⟩:∃F,fw 18446744073709551616 i (x/2^s)=F:=⟨_,rfl⟩;rw[hFe] at hsn hg1 hF hpl hnp;rw[hFe];obtain ⟨w,hw⟩:∃w,W.getD i 0=w:=⟨_,rfl⟩;rw[hw] at hsn hg1 hwl;have hset1:∀y:Nat,(nl (iv [] F W)).set i (y:Int)=nl (iv [] (F++[y]) W):=fun y=>ME hF h1;have hdv:(w:Int)/2^s=((w/2^s:Nat):Int):=gb w s;have hi1:((i:Int)+1).toNat=i+1:=by omega
     have hpl2:=fun a:Nat=>mW (P:=[]) (N:=F++[a]) (T:=W) (by simp;omega)
     by_cases h2:i+1<W.length
     · have hg2:=MR (T:=W) (N:=F) (a:=w/2^s) (i:=i) hF
       have hg3:=HE (N:=F++[w/2^s]) (T:=W) (i:=i+1) (by simp;omega) h2;have hz:=hwz (i+1) h2;rw[←hz] at hsn;generalize W.getD (i+1) 0=z at*
       have k3:IntKind.u64.wrap ((z:Int)*2^(64-s))=((z*2^(64-s)%18446744073709551616:Nat):Int):=wrap_mul _ _;have k4:(64:Int)-(s:Int)=((64-s:Nat):Int):=by omega
       have hor:=MC (w:=w) (z:=z) hs63 hwl;have hset2:∀y:Nat,(nl (iv [] (F++[w/2^s]) W)).set i (y:Int)=nl (iv [] (F++[y]) W):=fun y=>Gy hF;have hnp2:=aD (iv [] (F++[w/2^s]) W);have hpl3:=hpl2 (w/2^s);rw[agE,agU] at hpl3;refine aaK hg1 hdv hset1 hi1 hg2 hg3 k3 k4 hor hset2 ?_;refine aG (i+1) [some 0,some 1] rfl (by rw[hsn];exact zM) zM zo zo
     · have hz0:x/18446744073709551616^(i+1)=0:=ahG (by rw[show i+1=W.length by omega];exact hxl)
       rw[hz0,Nat.zero_mod,ahK,Nat.zero_mod,ahA] at hsn;have hnp2:=aD (iv [] (F++[w/2^s]) W);have hpl3:=hpl2 (w/2^s);rw[agE,agU] at hpl3;refine rD hg1 hdv hset1 ?_;refine aG (i+1) [some 0,some 1] rfl (by rw[hsn];exact zM) zM zo zo
   · obtain rfl:i=W.length:=by omega
     have hpe:iv [] (fw 18446744073709551616 W.length (x/2^s)) W=fw 18446744073709551616 W.length (x/2^s):=by
      unfold iv;rw[hF,aix,ahj,aht]
     have hval:aA 18446744073709551616 (fw 18446744073709551616 W.length (x/2^s))=x/2^s:=by
      rw[jN zd,agL (ahb (ahv _ _) hxl)]
     have hlt:=nV (B:=18446744073709551616) zd W.length (x/2^s);have hnf:=aD (fw 18446744073709551616 W.length (x/2^s));rw[hpe];refine ae ?_;refine aV [] [1] (dc (l:=fw 18446744073709551616 W.length (x/2^s)) hlt zo) ?_;rw[hval];exact zE [] hQ
theorem ym {B a b m n t:Nat} (hB:0<B) (hn:0<n) (ha:a<B^m) (hb:B^(n-1)≤b) (hnm:n≤m) (ht:0<t):a*t/B^(m+1-n)<b*t:=by
 rw[agY (agV hB)];have h1:B^m=B^(n-1)*B^(m+1-n):=by rw[←ahq];congr 1;omega
 have h2:a<b*B^(m+1-n):=ag6 ha (by rw[h1];exact agP _ hb);have h3:=aiB h2 ht;rw[Nat.mul_right_comm] at h3;exact h3
theorem zz {b:Nat} (hb:b≠0):let s:=64-bl ((wg b).getD ((wg b).length-1) 0)
 s≤63∧b*2^s<18446744073709551616^(wg b).length∧18446744073709551616^((wg b).length-1)≤b∧9223372036854775808*18446744073709551616^((wg b).length-1)≤b*2^s:=by
 obtain ⟨h1,h2,h3⟩:=xS hb;have h4:=jr b;have h5:=nT (n:=b) hb;have h7:=bB (n:=(wg b).getD ((wg b).length-1) 0) (k:=64) h2
 have h8:18446744073709551616^((wg b).length-1)≤b:=by
  refine Classical.byContradiction fun hn=>?_
  have:=pZ (n:=b) (k:=(wg b).length-1) zo
  omega
 have e:∀k,(18446744073709551616:Nat)^k=2^(64*k):=fun k=>by rw[Nat.pow_mul]
 have h9:64*((wg b).length-1)<bl b:=(aiS (a:=2) zd).1 (by rw[←e];exact ahb h8 h4);generalize bl ((wg b).getD ((wg b).length-1) 0)=k at*
 generalize hl:(wg b).length=l at*
 intro s;have hs:s=64-k:=rfl;have hp:0<2^s:=agV zd;refine⟨by omega,?_,h8,?_⟩
 · rw[e,show 64*l=bl b+s by omega,ahq]
   exact aiB h4 hp
 · have:=agP (2^s) h5
   rw[←ahq,show bl b-1+s=63+64*(l-1) by omega,ahq,←e] at this;exact this
set_option maxHeartbeats 2000000 in
theorem JZ {a b:Nat} (hn:2≤(wg b).length) (hba:b≤a) (ha:(wg a).length≤1000000):aC Tryz.prog 196 [NV a,NV b] [] (.tup [NV (a/b),NV (a%b),.lit (.int .i64 0)]) []:=by
 refine zF Ma Tryz.call196 Tryz.func196 [.cell 4 157,.cell 5 157,.tmp 6] fun Q hQ=>?_;have hnA:=aD (wg a);have hnB:=aD (wg b);have hle:(wg b).length≤(wg a).length:=cI hba;have hg:=bg (wg b) ((wg b).length-1);have hix:(((nl (wg b)).length:Int)-1).toNat=(wg b).length-1:=by omega
 have hb0:b≠0:=fun e=>by rw[e,ej] at hn;simp at hn
 obtain ⟨w1,w2,w3⟩:=xS hb0;obtain ⟨e1,e2,e3,e4⟩:=zz hb0;have hlz:=Ba (n:=(wg b).getD ((wg b).length-1) 0) w2;generalize 64-bl ((wg b).getD ((wg b).length-1) 0)=s at*
 have hmb:=qm (W:=wg b) (s:=s) (eB b) zo e1;have hma:=qm (W:=wg a) (s:=s) (eB a) zo e1;rw[dU] at hmb hma;refine dK hix hg ?_;refine zC hlz ?_;refine dB (hmb) ?_;refine ae ?_;refine dB (hma) ?_;have hkk:(((wg a).length+1:Nat):Int)-((nl (wg b)).length:Int)=(((wg a).length+1-(wg b).length:Nat):Int):=by omega
 have hfd:(fw 18446744073709551616 ((wg b).length+1) (b*2^s)).take (wg b).length=fw 18446744073709551616 (wg b).length (b*2^s):=by rw[jd _ 1,ahy (cj _ _)]
 have hlb:=ym (B:=18446744073709551616) (a:=a) (b:=b) (m:=(wg a).length) (n:=(wg b).length) (t:=2^s) zd zo (fr zd a) e3 hle (agV zd);have hlf:=xV hlb;generalize hK:(wg a).length+1-(wg b).length=K at*
 have hfl:(nl (fw 18446744073709551616 ((wg b).length+1) (b*2^s))).length=(wg b).length+1:=by rw[aD,cj]
 refine bh hkk ?_
 refine aM (X:=Nat×List Nat) (st:=fun z=>([(4,.ref 0 0 0 0),(5,.ref 1 0 0 0),(7,.lit (.int .i64 ((wg b).length:Int))),(8,.lit (.int .i64 (s:Int))),(9,.row 1 ((nl (fw 18446744073709551616 (wg b).length (b*2^s))).map (ie .u64))),(10,.sl 2 1 0 ((wg a).length+1)),(11,.sl 3 1 0 K),(12,.lit (.int .i64 ((z.1:Int)-1)))],
  [some (.cells [.lit (.slice none 0 0)]),some (.cells [.lit (.slice none 0 0)]),some (.row 1 ((nl (fw 18446744073709551616 ((wg a).length+1) (dw 18446744073709551616 (a*2^s) (b*2^s) z.1))).map (ie .u64))),some (.row 1 ((nl z.2).map (ie .u64)))]))
  (inv:=fun z=>z.1≤K∧z.2.length=K∧(∀d∈z.2,d<18446744073709551616)∧aA 18446744073709551616 (z.2.drop z.1)=a*2^s/18446744073709551616^z.1/(b*2^s))
  (m:=fun z=>z.1) (K,List.replicate K 0) [some 2,some 3,some 5,some 6] rfl (by simp only[hlf.1,←lB];exact zM) (by simp only[←hfd,hnB,Nat.sub_zero,←lZ,aiI];exact zM)
  ⟨agt _,by simp,fun d hd=>by rw[aib hd];decide,by simp only[hlf.2];simp[aA]⟩ ?_
 have hD0:0<b*2^s:=Nat.mul_pos zo (agV zd);generalize hAe:a*2^s=A at*
 generalize hDe:b*2^s=D at*
 generalize hne:(wg b).length=n at*
 generalize hme:(wg a).length=m at*
 rintro ⟨k,O⟩ ⟨hk,hO,hOl,hv⟩;simp only at hk hO hOl hv ⊢;have hnO:=aD O
 by_cases h:0<k
 · obtain ⟨i,rfl⟩:∃i,k=i+1:=⟨k-1,by omega⟩
   have hki:(((i+1:Nat):Int)-1)=(i:Int):=by omega
   obtain ⟨e,he⟩:∃e,m+1=i+(n+1+e):=⟨m-n-i,by omega⟩;have hVl:=IF (B:=18446744073709551616) (A:=A) (i:=i) zd hD0
   have hVw:dw 18446744073709551616 A D (i+1)/18446744073709551616^i<18446744073709551616^(n+1):=by
    rw[agS];exact ag6 hVl (agP _ (ai4 e2))
   have hlw:=yc (B:=18446744073709551616) (V:=dw 18446744073709551616 A D (i+1)) (i:=i) (n:=n) (e:=e);have hlb2:=Bm (B:=18446744073709551616) (V:=dw 18446744073709551616 A D (i+1)) (W:=dw 18446744073709551616 A D (i+1)/18446744073709551616^i%D) (i:=i) (n:=n) (e:=e) zd hVw (ag6 (agJ _ hD0) (agI (ai4 e2) (agA zd zo)));rw[FW zd,B4 zd] at hlb2;have hquo:=GC (B:=18446744073709551616) (A:=A) (D:=D) (i:=i) zd hD0;have hDv:aA 18446744073709551616 (fw 18446744073709551616 n D)=D:=by rw[jN zd,agL e2]
   have hqlt:dw 18446744073709551616 A D (i+1)/18446744073709551616^i/D<18446744073709551616:=by
    rw[agY hD0,agK];exact hVl
   have hdg:=GZ (P:=fw 18446744073709551616 i (dw 18446744073709551616 A D (i+1))) (S:=fw 18446744073709551616 e (dw 18446744073709551616 A D (i+1)/18446744073709551616^i/18446744073709551616^(n+1))) (dl:=fw 18446744073709551616 n D) (U:=dw 18446744073709551616 A D (i+1)/18446744073709551616^i) (n:=n)
    (cj _ _) zo (nV zd _ _) (nV zd _ _) (by
     rw[ic D zo];have hP:0<18446744073709551616^(n-1):=agV zd;have h1:9223372036854775808≤D/18446744073709551616^(n-1):=(ahL hP).2 e4
     have h2:D/18446744073709551616^(n-1)<18446744073709551616:=by
      rw[agY hP,agK,←agS,show(n-1).succ=n by omega];exact e2
     rw[agL h2];omega) (by rw[hDv];exact hVl) (by rw[cj,cj];omega)
   rw[hDv,cj,←hlw,hlb2,←he] at hdg;generalize dw 18446744073709551616 A D (i+1)/18446744073709551616^i/D=q at*
   have hnu:=aD (fw 18446744073709551616 (m+1) (dw 18446744073709551616 A D (i+1)));rw[cj] at hnu;have hset:=fv O i q;have hin:((i:Int)+(n:Int)+1).toNat-i=n+1:=by omega
   refine dK hki hin ?_;refine aV [some 2] [] (hdg) ?_
   have hms:((nl O).map (ie .u64)).set i [PV.lit (.int .u64 (q:Int))]=(nl (O.set i q)).map (ie .u64):=by
    rw[←hset,List.map_set];rfl
   refine dK hki hms ?_;refine aO (i,O.set i q) [some 0,some 1,some 2,some 3] ⟨by simp only;omega,by simpa using hO,dS hOl hqlt,?_⟩ (by simp only;omega);simp only;rw[set_drop zo];show q+18446744073709551616*aA 18446744073709551616 (O.drop (i+1))=_;rw[hv,hquo]
 · obtain rfl:k=0:=by omega
   rw[agO,aiP,Nat.div_one] at hv;have hdv:=s6 (a:=a) (y:=b) (s:=s) zo;rw[hAe,hDe] at hdv;rw[hdv.1] at hv;have hll:=Cr (B:=18446744073709551616) (A:=A) (D:=D);rw[hdv.2] at hll;rw[hll];have hpp:0<2^s:=agV zd
   have hVlt:a%b*2^s<18446744073709551616^n:=by
    rw[←hdv.2];exact Nat.lt_trans (agJ _ hD0) e2
   have hft:(fw 18446744073709551616 (m+1) (a%b*2^s)).take n=fw 18446744073709551616 n (a%b*2^s):=by
    rw[show m+1=n+(m+1-n) by omega,jd,ahy (cj _ _)]
   have hfv:aA 18446744073709551616 (fw 18446744073709551616 n (a%b*2^s))=a%b*2^s:=by rw[jN zd,agL hVlt]
   have hnu:=aD (fw 18446744073709551616 (m+1) (a%b*2^s));rw[cj] at hnu;have hml:m≤1000000:=by omega
   have ht:aC Tryz.prog 135 [.row 1 ((nl ((fw 18446744073709551616 (m+1) (a%b*2^s)).take n)).map (ie .u64))] [] (NV (a%b*2^s)) []:=by
    rw[hft]
    have:=dc (l:=fw 18446744073709551616 n (a%b*2^s)) (nV zd _ _) (by rw[cj];omega)
    rwa [hfv] at this
   rw[←lZ,aiI] at ht;have hsh:=zc (v:=a%b*2^s) (N:=s) (n:=(s:Int)) zo zo (agI (pZ hVlt) zo);rw[Nat.mul_div_cancel _ hpp] at hsh;refine ae ?_;refine aV [] [3] (dc (l:=O) hOl zo) ?_;rw[hv];refine acv ?_;refine zW [] [2] ht ?_;refine zW [] [] hsh ?_;exact ak [] hQ
theorem sX {b:Nat} (h:(wg b).length=1):wg b=[b]:=by
 have hv:=dU b
 match hw:wg b,h with
 | [d],_=>
   rw[hw] at hv;simp[aA] at hv;rw[hv]
theorem s5 {b:Nat} (h:b≠0):0<(wg b).length:=by
 rcases agX (wg b).length with e | e
 · exact absurd (xA.1 (agD.1 e)) h
 · exact e
theorem oQ {a b:Nat} (hb:b≠0) (ha:(wg a).length≤1000000) (hbl:(wg b).length≤1000000):aC Tryz.prog 179 [NV a,NV b] [] (.tup [NV (a/b),NV (a%b),.lit (.int .i64 0)]) []:=by
 refine zF Mb Tryz.call179 Tryz.func179 [.cell 4 157,.cell 5 157,.tmp 6] fun Q hQ=>?_;have hnA:=aD (wg a);have hnB:=aD (wg b);have hb1:=s5 hb;refine ae ?_;refine az (du (n:=b) zo) rfl rfl ?_;rw[agq hb];refine ae ?_;refine az (eR (a:=a) (b:=b) zo zo) rfl rfl ?_
 by_cases h:a<b
 · have hc:=eN.2 h
   rw[ahG h,agL h,oy] at hQ;have ho:=Ek (l:=wg a) (eB a) zo;rw[dU] at ho;refine bh (agC hc) ?_;refine zC ho ?_;exact ak [] hQ
 · have hc:¬gU a b<0:=fun e=>h (eN.1 e)
   by_cases h1:(wg b).length=1
   · have hw:=sX h1
     have hblt:b<18446744073709551616:=by
      have:=eB b b (by rw[hw];simp)
      exact this
     have hg:(nl (wg b)).getD 0 0=(b:Int):=by rw[hw];rfl
     have hsp:=FN (W:=wg a) (y:=b) (eB a) zo zo hblt;rw[dU] at hsp
     have hqv:aA 18446744073709551616 (fw 18446744073709551616 (wg a).length (a/b))=a/b:=by
      have hlt:a<18446744073709551616^(wg a).length:=fr (B:=18446744073709551616) zd a;rw[jN zd,agL (ahb (ahv a b) hlt)]
     have hrl:a%b<18446744073709551616:=Nat.lt_trans (agJ _ zo) hblt;have hn1:(nl (wg b)).length=1:=by omega
     have hF:=cj (B:=18446744073709551616) (wg a).length (a/b);have hFl:=nV (B:=18446744073709551616) zd (wg a).length (a/b);generalize fw 18446744073709551616 (wg a).length (a/b)=F at*
     rw[←hF] at hsp;have hnF:=aD F;refine rD (agq hc) hn1 hg ?_;refine dB (hsp) ?_;refine ae ?_;refine aV [] [4] (dc (l:=F) hFl zo) ?_;rw[hqv];refine ae ?_;refine zW [] [5] (dV (x:=a%b) hrl) ?_;exact ak [] hQ
   · have hl:=JZ (a:=a) (b:=b) zo zo ha
     have hn1:decide (((nl (wg b)).length:Int)=1)=false:=agq zo;refine dK (agq hc) hn1 ?_;refine zC hl ?_;exact ak [] hQ
theorem H7 {a b:Nat} (ha:(wg a).length≤1000000) (hb:(wg b).length≤1000000):aC Tryz.prog 178 [NV a,NV b] [] (NV (Nat.gcd a b)) []:=by
 refine zF Lf Tryz.call178 Tryz.func178 [.cell 4 157] fun Q hQ=>?_;refine ae ?_
 refine aU (X:=Nat×Nat) (st:=fun z=>([(2,.ref 0 0 0 0),(3,.ref 1 0 0 0),(4,.ref 2 0 0 0)],[some (.cells [.row 1 ((nl (wg z.1)).map (ie .u64))]),some (.cells [.row 1 ((nl (wg z.2)).map (ie .u64))]),some (.cells [.lit (.slice none 0 0)])]))
  (inv:=fun z=>(wg z.1).length≤1000000∧(wg z.2).length≤1000000∧Nat.gcd z.1 z.2=Nat.gcd a b) (m:=fun z=>z.2) (a,b) [some 0,some 1,some 2] ⟨ha,hb,rfl⟩ ?_
 rintro ⟨x,y⟩ ⟨hx,hy,hv⟩;simp only at hx hy hv ⊢;rw[←hv] at hQ;refine ae ?_;refine az (du (n:=y) zo) rfl rfl ?_
 by_cases h:y=0
 · subst h
   rw[Nat.gcd_zero_right] at hQ;have ho:=Ek (l:=wg x) (eB x) zo;rw[dU] at ho;refine Cx ?_;refine zC ho ?_;exact ak [] hQ
 · rw[agq h]
   refine ae ?_;refine zC (oQ (a:=x) (b:=y) h hx hy) ?_;refine aO (y,x%y) [some 0,some 1,some 2] ⟨hy,agI (cI (Nat.mod_le _ _)) hx,?_⟩ (agJ _ zo);simp only;rw[←hv,Nat.gcd_comm x y,Nat.gcd_rec y x,Nat.gcd_comm]
end Go.Proofs.YtcnlmelpnflhnaaGreat
