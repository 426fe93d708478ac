import Derived.Test.YtcnlmelpnflhnaaGreatN1
import Derived.Test.YtcnlmelpnflhnaaGreatE7
import Derived.Test.YtcnlmelpnflhnaaGreatD2
import Derived.Test.YtcnlmelpnflhnaaGreatDh
import Derived.Test.YtcnlmelpnflhnaaGreatD1
namespace Go.Proofs.YtcnlmelpnflhnaaGreat
open Go.Eng
set_option linter.unusedSimpArgs false
set_option linter.unusedVariables false
set_option maxRecDepth 100000
theorem Dy {n k:Nat} (h1:2^(k-1)≤n) (h2:n<2^k) (hk:0<k):bl n=k:=by
 have h3:=jY n;have hn:n≠0:=by have:0<2^(k-1):=ajV zd;omega
 have h4:=pd (n:=n) hn;have h5:k-1<bl n:=(alT (a:=2) zd).1 (aj9 h1 h3);have h6:bl n-1<k:=(alT (a:=2) zd).1 (aj9 h4 h2);omega
theorem Ac {n:Nat} (hn:n≠0):0<(wg n).length∧(wg n).getD ((wg n).length-1) 0<18446744073709551616∧bl n=64*((wg n).length-1)+bl ((wg n).getD ((wg n).length-1) 0):=by
 have hne:wg n≠ []:=fun e=>hn (zK.1 e);have hl:0<(wg n).length:=alU.2 hne;have hlast:=Hj (B:=18446744073709551616) zd n hne
 have hget:(wg n).getD ((wg n).length-1) 0=(wg n).getLast hne:=by
  rw[List.getLast_eq_getElem,ajk,ajm zo]
  rfl
 have ht:(wg n).getD ((wg n).length-1) 0≠0:=by rw[hget];exact hlast
 have htl:=cL zd (eW n) ((wg n).length-1);refine⟨hl,htl,?_⟩;generalize hm:(wg n).length-1=m at*
 have hlen:(wg n).length=m+1:=by omega
 have hv:n=aD 18446744073709551616 ((wg n).take m)+18446744073709551616^m*(wg n).getD m 0:=by
  have:=dj (B:=18446744073709551616) (wg n) m
  rw[ajy (show(wg n).length≤m+1 by omega),eF] at this;exact this
 have hlow:aD 18446744073709551616 ((wg n).take m)<18446744073709551616^m:=by
  have:=fU (B:=18446744073709551616) (l:=(wg n).take m) (fun d hd=>eW n d (ajM hd))
  rwa [ajt,akl zo] at this
 generalize (wg n).getD m 0=t at*
 generalize aD 18446744073709551616 ((wg n).take m)=v at*
 have hp:18446744073709551616^m=2^(64*m):=by rw[Nat.pow_mul]
 rw[hp] at hv hlow;have hb1:=jY t;have hb2:=pd (n:=t) ht;have hb3:=jH (n:=t) ht;refine Dy ?_ ?_ zo
 · rw[show 64*m+bl t-1=64*m+(bl t-1) by omega,ako]
   have:=akk (2^(64*m)) hb2
   omega
 · rw[ako]
   have:2^(64*m)*(t+1)≤2^(64*m)*2^bl t:=akk _ hb1
   rw[aj0,ak6] at this;omega
open Go.Eng Go.Vx
theorem Be {B:List Nat} (hB:B.length≤4000000) (h:B≠ []):aA Tryz.prog 136 [.row 1 ((nl B).map (ie .u64))] [] (.sl 0 1 0 B.length) [some (.row 1 ((nl B).map (ie .u64)))]:=by
 refine zF pl Tryz.call136 Tryz.func136 [.tmp 2] fun Q hQ=>?_;have hnl:=ay B;have he:((nl B).map (ie .u64)).isEmpty=false:=by simp[h,nl]
 refine br he ?_;exact ak [some 1] hQ
theorem JM {N T:List Nat} {i:Nat} (h:N.length≤i) (hi:i<T.length):(nl (iY [] N T)).getD i 0=((T.getD i 0:Nat):Int):=by
 rw[bD]
 have:=nA (P:=[]) h hi
 rw[ajA,ajU] at this;rw[this]
theorem Po {N T:List Nat} {x i:Nat} (hi:N.length=i) (h:i<T.length):(nl (iY [] N T)).set i (x:Int)=nl (iY [] (N++[x]) T):=by
 rw[fT]
 have:=vE (P:=[]) (N:=N) (T:=T) (x:=x) zo
 rw[ajA,ajU,hi] at this;rw[this]
theorem PD {N T:List Nat} {a i:Nat} (hi:N.length=i):(nl (iY [] (N++[a]) T)).getD i 0=(a:Int):=by
 rw[bD];unfold iY;rw[akq,ajk,ajw (by simp;omega),ajx zo,hi,akz]
 rfl
theorem IC {N T:List Nat} {a x i:Nat} (hi:N.length=i):(nl (iY [] (N++[a]) T)).set i (x:Int)=nl (iY [] (N++[x]) T):=by
 rw[fT];unfold iY;rw[akq,akq,List.set_append_left (h:=by simp;omega),alI (h:=by omega),hi,akz,alp,ajj,ajj]
 rfl
theorem MM {B i v:Nat}:fw B (i+1) v=fw B i v++[v/B^i%B]:=by
 rw[jI]
 rfl
theorem JH (l:List Nat) (n:Nat):(nl l).drop n=nl (l.drop n):=by simp[nl,List.map_drop]
theorem VJ {A B k:Nat} (hB:B<2^k) (hA:A*2^k<18446744073709551616) (hB2:B<18446744073709551616):cv .or .u64 (B:Int) ((A*2^k:Nat):Int)=((B+A*2^k:Nat):Int):=by
 rw[iE hB2 hA,Nat.or_comm,akS,←Nat.shiftLeft_eq,←Nat.shiftLeft_add_eq_or_of_lt hB]
theorem Pm {w z s:Nat} (hs:s≤63) (hw:w<18446744073709551616):cv .or .u64 ((w/2^s:Nat):Int) ((z*2^(64-s)%18446744073709551616:Nat):Int)=((w/2^s+z*2^(64-s)%18446744073709551616:Nat):Int):=by
 have e:(18446744073709551616:Nat)=2^s*2^(64-s):=by rw[←ako,show s+(64-s)=64 by omega]
 have hm:z*2^(64-s)%18446744073709551616=z%2^s*2^(64-s):=by rw[e,alH]
 have hl:w/2^s<2^(64-s):=by rw[ajX (ajV zd),ajJ,←e];exact hw
 have hlt:z*2^(64-s)%18446744073709551616<18446744073709551616:=ajI _ zd;rw[hm] at hlt ⊢;exact VJ hl hlt (aj9 (aks _ _) hw)
theorem BD {v N:Nat} {n:Int} (hn:max 0 n=(N:Int)) (hN:N<9223372036854775808) (hv:(wg v).length≤1000000):aA Tryz.prog 192 [NV v,.lit (.int .i64 n)] [] (NV (v/2^N)) []:=by
 refine zF N4 Tryz.call192 Tryz.func192 [.cell 4 157] fun Q hQ=>?_;have hnl:=ay (wg v);have hq:(N:Int)/64=((N/64:Nat):Int):=by omega
 have hs:(N:Int)%64=((N%64:Nat):Int):=by omega
 by_cases h:(wg v).length≤N/64
 · have h0:v/2^N=0:=by
    refine akG (aj2 (fQ (B:=18446744073709551616) zd v) ?_);rw[show(18446744073709551616:Nat)=2^64 from rfl,←Nat.pow_mul];refine ajv zd ?_;show 64*(wg v).length≤N;omega
   rw[h0,pP] at hQ;refine ej hn hq ?_;exact ak [] hQ
 · have hml:((wg v).drop (N/64)).length=(wg v).length-N/64:=ajY
   have hmn:(nl ((wg v).drop (N/64))).length=(wg v).length-N/64:=by rw[ay,hml]
   have hx:aD 18446744073709551616 ((wg v).drop (N/64))=v/18446744073709551616^(N/64):=by
    have h1:=jq 18446744073709551616 ((wg v).take (N/64)) ((wg v).drop (N/64));rw[alj,eF,ajt,akl zo] at h1;have h2:=fU (B:=18446744073709551616) (l:=(wg v).take (N/64)) (fun d hd=>eW v d (ajM hd));rw[ajt,akl zo] at h2;have hP:0<18446744073709551616^(N/64):=ajV zd
    conv=>rhs;rw[h1]
    rw[alr _ _ hP,akG h2,ajU]
   have hxN:v/2^N=aD 18446744073709551616 ((wg v).drop (N/64))/2^(N%64):=by
    rw[hx,akp,show(18446744073709551616:Nat)=2^64 from rfl,←Nat.pow_mul,←ako,ajT]
   have hWl:∀d∈(wg v).drop (N/64),d<18446744073709551616:=fun d hd=>eW v d (akV hd);have hs63:N%64≤63:=by omega
   rw[hxN] at hQ
   have hne:(wg v).drop (N/64)≠ []:=fun e=>by
    rw[e] at hml;simp at hml;omega
   have hcl:=Be (B:=(wg v).drop (N/64)) zo hne
   simp(maxSteps:=1000000) (disch:=(first | omega | (simp only[cQ,ajl,ajo,true_and,and_true];(try omega);done) | fail)) only[go_sem,hn,hq,hs,←List.map_drop,JH,ajz,Int.reduceEq,Int.reduceToNat,Nat.reduceAdd,Nat.reduceMul,Nat.reduceEqDiff, ↓reduceIte]
   refine bI (hcl) ?_;clear hx hxN;generalize hW:(wg v).drop (N/64)=W at*
   generalize N%64=s at*
   refine qZ hn hq hs ?_;have hWv:=Il hWl;have hxl:=fU hWl;generalize hx:aD 18446744073709551616 W=x at*
   refine aT (X:=Nat) (st:=fun i=>([(4,.ref 0 0 0 0),(5,.sl 1 1 0 W.length),(6,.lit (.int .i64 (i:Int))),(7,.lit (.int .i64 (s:Int)))],[some (.cells [.lit (.slice none 0 0)]),some (.row 1 ((nl (iY [] (fw 18446744073709551616 i (x/2^s)) W)).map (ie .u64)))]))
    (inv:=fun i=>i≤W.length) (m:=fun i=>W.length-i) 0 [some 1,some 2] rfl (by simp only[fw,ni,akq];exact zM) zM zo ?_
   intro i hi;have hF:=cI (B:=18446744073709551616) i (x/2^s);have hpl:=n7 (P:=[]) (N:=fw 18446744073709551616 i (x/2^s)) (T:=W) zo;have hnp:=ay (iY [] (fw 18446744073709551616 i (x/2^s)) W);rw[ajA,ajU] at hpl
   by_cases h1:i<W.length
   · have hsn:=MM (B:=18446744073709551616) (i:=i) (v:=x/2^s)
     have hsw:=IH (v:=x) (s:=s) (i:=i) hs63;have hwi:=iS (B:=18446744073709551616) (k:=W.length) (i:=i) x h1;rw[hWv] at hwi;have hwl:=cL zd hWl i;have hg1:=JM (N:=fw 18446744073709551616 i (x/2^s)) (T:=W) (i:=i) zo h1
     have hwz:∀j,j<W.length→W.getD j 0=x/18446744073709551616^j%18446744073709551616:=fun j hj=>by
      have:=iS (B:=18446744073709551616) (k:=W.length) (i:=j) x hj
      rwa [hWv] at this
     rw[hsw] at hsn;rw[←hwi] at hsn;obtain ⟨F,hFe⟩:∃F,fw 18446744073709551616 i (x/2^s)=F:=⟨_,rfl⟩;rw[hFe] at hsn hg1 hF hpl hnp;rw[hFe];obtain ⟨w,hw⟩:∃w,W.getD i 0=w:=⟨_,rfl⟩;rw[hw] at hsn hg1 hwl;have hset1:∀y:Nat,(nl (iY [] F W)).set i (y:Int)=nl (iY [] (F++[y]) W):=fun y=>Po hF h1;have hdv:(w:Int)/2^s=((w/2^s:Nat):Int):=gQ w s;have hi1:((i:Int)+1).toNat=i+1:=by omega
     have hpl2:=fun a:Nat=>n7 (P:=[]) (N:=F++[a]) (T:=W) (by simp;omega)
     by_cases h2:i+1<W.length
     · have hg2:=PD (T:=W) (N:=F) (a:=w/2^s) (i:=i) hF
       have hg3:=JM (N:=F++[w/2^s]) (T:=W) (i:=i+1) (by simp;omega) h2;have hz:=hwz (i+1) h2;rw[←hz] at hsn;generalize W.getD (i+1) 0=z at*
       have k3:IntKind.u64.wrap ((z:Int)*2^(64-s))=((z*2^(64-s)%18446744073709551616:Nat):Int):=wrap_mul _ _;have k4:(64:Int)-(s:Int)=((64-s:Nat):Int):=by omega
       have hor:=Pm (w:=w) (z:=z) hs63 hwl;have hset2:∀y:Nat,(nl (iY [] (F++[w/2^s]) W)).set i (y:Int)=nl (iY [] (F++[y]) W):=fun y=>IC hF;have hnp2:=ay (iY [] (F++[w/2^s]) W);have hpl3:=hpl2 (w/2^s);rw[ajA,ajU] at hpl3;refine afY hg1 hdv hset1 hi1 hg2 hg3 k3 k4 hor hset2 ?_;refine aH (i+1) [some 0,some 1] rfl (by rw[hsn];exact zM) zM zo zo
     · have hz0:x/18446744073709551616^(i+1)=0:=akG (by rw[show i+1=W.length by omega];exact hxl)
       rw[hz0,Nat.zero_mod,akK,Nat.zero_mod,aky] at hsn;have hnp2:=ay (iY [] (F++[w/2^s]) W);have hpl3:=hpl2 (w/2^s);rw[ajA,ajU] at hpl3;refine qZ hg1 hdv hset1 ?_;refine aH (i+1) [some 0,some 1] rfl (by rw[hsn];exact zM) zM zo zo
   · obtain rfl:i=W.length:=by omega
     have hpe:iY [] (fw 18446744073709551616 W.length (x/2^s)) W=fw 18446744073709551616 W.length (x/2^s):=by
      unfold iY;rw[hF,alA,ake,akq]
     have hval:aD 18446744073709551616 (fw 18446744073709551616 W.length (x/2^s))=x/2^s:=by
      rw[ku zd,ajL (aj9 (aks _ _) hxl)]
     have hlt:=pg (B:=18446744073709551616) zd W.length (x/2^s);have hnf:=ay (fw 18446744073709551616 W.length (x/2^s));rw[hpe];refine ae ?_;refine aF [] [1] (dy (l:=fw 18446744073709551616 W.length (x/2^s)) hlt zo) ?_;rw[hval];exact zE [] hQ
theorem AB {B a b m n t:Nat} (hB:0<B) (hn:0<n) (ha:a<B^m) (hb:B^(n-1)≤b) (hnm:n≤m) (ht:0<t):a*t/B^(m+1-n)<b*t:=by
 rw[ajX (ajV hB)];have h1:B^m=B^(n-1)*B^(m+1-n):=by rw[←ako];congr 1;omega
 have h2:a<b*B^(m+1-n):=aj2 ha (by rw[h1];exact ajP _ hb);have h3:=alE h2 ht;rw[Nat.mul_right_comm] at h3;exact h3
theorem BQ {b:Nat} (hb:b≠0):let s:=64-bl ((wg b).getD ((wg b).length-1) 0)
 s≤63∧b*2^s<18446744073709551616^(wg b).length∧18446744073709551616^((wg b).length-1)≤b∧9223372036854775808*18446744073709551616^((wg b).length-1)≤b*2^s:=by
 obtain ⟨h1,h2,h3⟩:=Ac hb;have h4:=jY b;have h5:=pd (n:=b) hb;have h7:=bP (n:=(wg b).getD ((wg b).length-1) 0) (k:=64) h2
 have h8:18446744073709551616^((wg b).length-1)≤b:=by
  refine Classical.byContradiction fun hn=>?_
  have:=rp (n:=b) (k:=(wg b).length-1) zo
  omega
 have e:∀k,(18446744073709551616:Nat)^k=2^(64*k):=fun k=>by rw[Nat.pow_mul]
 have h9:64*((wg b).length-1)<bl b:=(alT (a:=2) zd).1 (by rw[←e];exact aj9 h8 h4);generalize bl ((wg b).getD ((wg b).length-1) 0)=k at*
 generalize hl:(wg b).length=l at*
 intro s;have hs:s=64-k:=rfl;have hp:0<2^s:=ajV zd;refine⟨by omega,?_,h8,?_⟩
 · rw[e,show 64*l=bl b+s by omega,ako]
   exact alE h4 hp
 · have:=ajP (2^s) h5
   rw[←ako,show bl b-1+s=63+64*(l-1) by omega,ako,←e] at this;exact this
set_option maxHeartbeats 2000000 in
theorem Mx {a b:Nat} (hn:2≤(wg b).length) (hba:b≤a) (ha:(wg a).length≤1000000):aA Tryz.prog 196 [NV a,NV b] [] (.tup [NV (a/b),NV (a%b),.lit (.int .i64 0)]) []:=by
 refine zF OO Tryz.call196 Tryz.func196 [.cell 4 157,.cell 5 157,.tmp 6] fun Q hQ=>?_;have hnA:=ay (wg a);have hnB:=ay (wg b);have hle:(wg b).length≤(wg a).length:=df hba;have hg:=bD (wg b) ((wg b).length-1);have hix:(((nl (wg b)).length:Int)-1).toNat=(wg b).length-1:=by omega
 have hb0:b≠0:=fun e=>by rw[e,eO] at hn;simp at hn
 obtain ⟨w1,w2,w3⟩:=Ac hb0;obtain ⟨e1,e2,e3,e4⟩:=BQ hb0;have hlz:=Dl (n:=(wg b).getD ((wg b).length-1) 0) w2;generalize 64-bl ((wg b).getD ((wg b).length-1) 0)=s at*
 have hmb:=rR (W:=wg b) (s:=s) (eW b) zo e1;have hma:=rR (W:=wg a) (s:=s) (eW a) zo e1;rw[eF] at hmb hma;refine ej hix hg ?_;refine zC hlz ?_;refine bI (hmb) ?_;refine ae ?_;refine bI (hma) ?_;have hkk:(((wg a).length+1:Nat):Int)-((nl (wg b)).length:Int)=(((wg a).length+1-(wg b).length:Nat):Int):=by omega
 have hfd:(fw 18446744073709551616 ((wg b).length+1) (b*2^s)).take (wg b).length=fw 18446744073709551616 (wg b).length (b*2^s):=by rw[jI _ 1,akv (cI _ _)]
 have hlb:=AB (B:=18446744073709551616) (a:=a) (b:=b) (m:=(wg a).length) (n:=(wg b).length) (t:=2^s) zd zo (fQ zd a) e3 hle (ajV zd);have hlf:=Af hlb;generalize hK:(wg a).length+1-(wg b).length=K at*
 have hfl:(nl (fw 18446744073709551616 ((wg b).length+1) (b*2^s))).length=(wg b).length+1:=by rw[ay,cI]
 refine br hkk ?_
 refine aT (X:=Nat×List Nat) (st:=fun z=>([(4,.ref 0 0 0 0),(5,.ref 1 0 0 0),(7,.lit (.int .i64 ((wg b).length:Int))),(8,.lit (.int .i64 (s:Int))),(9,.row 1 ((nl (fw 18446744073709551616 (wg b).length (b*2^s))).map (ie .u64))),(10,.sl 2 1 0 ((wg a).length+1)),(11,.sl 3 1 0 K),(12,.lit (.int .i64 ((z.1:Int)-1)))],
  [some (.cells [.lit (.slice none 0 0)]),some (.cells [.lit (.slice none 0 0)]),some (.row 1 ((nl (fw 18446744073709551616 ((wg a).length+1) (dO 18446744073709551616 (a*2^s) (b*2^s) z.1))).map (ie .u64))),some (.row 1 ((nl z.2).map (ie .u64)))]))
  (inv:=fun z=>z.1≤K∧z.2.length=K∧(∀d∈z.2,d<18446744073709551616)∧aD 18446744073709551616 (z.2.drop z.1)=a*2^s/18446744073709551616^z.1/(b*2^s))
  (m:=fun z=>z.1) (K,List.replicate K 0) [some 2,some 3,some 5,some 6] rfl (by simp only[hlf.1,←mI];exact zM) (by simp only[←hfd,hnB,Nat.sub_zero,←ng,als];exact zM)
  ⟨ajp _,by simp,fun d hd=>by rw[ala hd];decide,by simp only[hlf.2];simp[aD]⟩ ?_
 have hD0:0<b*2^s:=Nat.mul_pos zo (ajV zd);generalize hAe:a*2^s=A at*
 generalize hDe:b*2^s=D at*
 generalize hne:(wg b).length=n at*
 generalize hme:(wg a).length=m at*
 rintro ⟨k,O⟩ ⟨hk,hO,hOl,hv⟩;simp only at hk hO hOl hv ⊢;have hnO:=ay O
 by_cases h:0<k
 · obtain ⟨i,rfl⟩:∃i,k=i+1:=⟨k-1,by omega⟩
   have hki:(((i+1:Nat):Int)-1)=(i:Int):=by omega
   obtain ⟨e,he⟩:∃e,m+1=i+(n+1+e):=⟨m-n-i,by omega⟩;have hVl:=Lb (B:=18446744073709551616) (A:=A) (i:=i) zd hD0
   have hVw:dO 18446744073709551616 A D (i+1)/18446744073709551616^i<18446744073709551616^(n+1):=by
    rw[ajS];exact aj2 hVl (ajP _ (al6 e2))
   have hlw:=Aq (B:=18446744073709551616) (V:=dO 18446744073709551616 A D (i+1)) (i:=i) (n:=n) (e:=e);have hlb2:=Dx (B:=18446744073709551616) (V:=dO 18446744073709551616 A D (i+1)) (W:=dO 18446744073709551616 A D (i+1)/18446744073709551616^i%D) (i:=i) (n:=n) (e:=e) zd hVw (aj2 (ajI _ hD0) (ajD (al6 e2) (ajv zd zo)));rw[H0 zd,Eh zd] at hlb2;have hquo:=IG (B:=18446744073709551616) (A:=A) (D:=D) (i:=i) zd hD0;have hDv:aD 18446744073709551616 (fw 18446744073709551616 n D)=D:=by rw[ku zd,ajL e2]
   have hqlt:dO 18446744073709551616 A D (i+1)/18446744073709551616^i/D<18446744073709551616:=by
    rw[ajX hD0,ajJ];exact hVl
   have hdg:=I4 (P:=fw 18446744073709551616 i (dO 18446744073709551616 A D (i+1))) (S:=fw 18446744073709551616 e (dO 18446744073709551616 A D (i+1)/18446744073709551616^i/18446744073709551616^(n+1))) (dl:=fw 18446744073709551616 n D) (U:=dO 18446744073709551616 A D (i+1)/18446744073709551616^i) (n:=n)
    (cI _ _) zo (pg zd _ _) (pg zd _ _) (by
     rw[iS D zo];have hP:0<18446744073709551616^(n-1):=ajV zd;have h1:9223372036854775808≤D/18446744073709551616^(n-1):=(akL hP).2 e4
     have h2:D/18446744073709551616^(n-1)<18446744073709551616:=by
      rw[ajX hP,ajJ,←ajS,show(n-1).succ=n by omega];exact e2
     rw[ajL h2];omega) (by rw[hDv];exact hVl) (by rw[cI,cI];omega)
   rw[hDv,cI,←hlw,hlb2,←he] at hdg;generalize dO 18446744073709551616 A D (i+1)/18446744073709551616^i/D=q at*
   have hnu:=ay (fw 18446744073709551616 (m+1) (dO 18446744073709551616 A D (i+1)));rw[cI] at hnu;have hset:=fT O i q;have hin:((i:Int)+(n:Int)+1).toNat-i=n+1:=by omega
   refine ej hki hin ?_;refine aF [some 2] [] (hdg) ?_
   have hms:((nl O).map (ie .u64)).set i [PV.lit (.int .u64 (q:Int))]=(nl (O.set i q)).map (ie .u64):=by
    rw[←hset,alC];rfl
   refine ej hki hms ?_;refine aM (i,O.set i q) [some 0,some 1,some 2,some 3] ⟨by simp only;omega,by simpa using hO,eB hOl hqlt,?_⟩ (by simp only;omega);simp only;rw[set_drop zo];show q+18446744073709551616*aD 18446744073709551616 (O.drop (i+1))=_;rw[hv,hquo]
 · obtain rfl:k=0:=by omega
   rw[ajE,alQ,Nat.div_one] at hv;have hdv:=uN (a:=a) (y:=b) (s:=s) zo;rw[hAe,hDe] at hdv;rw[hdv.1] at hv;have hll:=EE (B:=18446744073709551616) (A:=A) (D:=D);rw[hdv.2] at hll;rw[hll];have hpp:0<2^s:=ajV zd
   have hVlt:a%b*2^s<18446744073709551616^n:=by
    rw[←hdv.2];exact Nat.lt_trans (ajI _ hD0) e2
   have hft:(fw 18446744073709551616 (m+1) (a%b*2^s)).take n=fw 18446744073709551616 n (a%b*2^s):=by
    rw[show m+1=n+(m+1-n) by omega,jI,akv (cI _ _)]
   have hfv:aD 18446744073709551616 (fw 18446744073709551616 n (a%b*2^s))=a%b*2^s:=by rw[ku zd,ajL hVlt]
   have hnu:=ay (fw 18446744073709551616 (m+1) (a%b*2^s));rw[cI] at hnu;have hml:m≤1000000:=by omega
   have ht:aA Tryz.prog 135 [.row 1 ((nl ((fw 18446744073709551616 (m+1) (a%b*2^s)).take n)).map (ie .u64))] [] (NV (a%b*2^s)) []:=by
    rw[hft]
    have:=dy (l:=fw 18446744073709551616 n (a%b*2^s)) (pg zd _ _) (by rw[cI];omega)
    rwa [hfv] at this
   rw[←ng,als] at ht;have hsh:=BD (v:=a%b*2^s) (N:=s) (n:=(s:Int)) zo zo (ajD (rp hVlt) zo);rw[Nat.mul_div_cancel _ hpp] at hsh;refine ae ?_;refine aF [] [3] (dy (l:=O) hOl zo) ?_;rw[hv];refine agc ?_;refine zW [] [2] ht ?_;refine zW [] [] hsh ?_;exact ak [] hQ
theorem uH {b:Nat} (h:(wg b).length=1):wg b=[b]:=by
 have hv:=eF b
 match hw:wg b,h with
 | [d],_=>
   rw[hw] at hv;simp[aD] at hv;rw[hv]
theorem uL {b:Nat} (h:b≠0):0<(wg b).length:=by
 rcases ajW (wg b).length with e | e
 · exact absurd (zK.1 (ajB.1 e)) h
 · exact e
theorem qc {a b:Nat} (hb:b≠0) (ha:(wg a).length≤1000000) (hbl:(wg b).length≤1000000):aA Tryz.prog 179 [NV a,NV b] [] (.tup [NV (a/b),NV (a%b),.lit (.int .i64 0)]) []:=by
 refine zF OQ Tryz.call179 Tryz.func179 [.cell 4 157,.cell 5 157,.tmp 6] fun Q hQ=>?_;have hnA:=ay (wg a);have hnB:=ay (wg b);have hb1:=uL hb;refine ae ?_;refine aB (dM (n:=b) zo) rfl rfl ?_;rw[ajn hb];refine ae ?_;refine aB (fq (a:=a) (b:=b) zo zo) rfl rfl ?_
 by_cases h:a<b
 · have hc:=fi.2 h
   rw[akG h,ajL h,pP] at hQ;have ho:=Gt (l:=wg a) (eW a) zo;rw[eF] at ho;refine br (aju hc) ?_;refine zC ho ?_;exact ak [] hQ
 · have hc:¬iI a b<0:=fun e=>h (fi.1 e)
   by_cases h1:(wg b).length=1
   · have hw:=uH h1
     have hblt:b<18446744073709551616:=by
      have:=eW b b (by rw[hw];simp)
      exact this
     have hg:(nl (wg b)).getD 0 0=(b:Int):=by rw[hw];rfl
     have hsp:=HU (W:=wg a) (y:=b) (eW a) zo zo hblt;rw[eF] at hsp
     have hqv:aD 18446744073709551616 (fw 18446744073709551616 (wg a).length (a/b))=a/b:=by
      have hlt:a<18446744073709551616^(wg a).length:=fQ (B:=18446744073709551616) zd a;rw[ku zd,ajL (aj9 (aks a b) hlt)]
     have hrl:a%b<18446744073709551616:=Nat.lt_trans (ajI _ zo) hblt;have hn1:(nl (wg b)).length=1:=by omega
     have hF:=cI (B:=18446744073709551616) (wg a).length (a/b);have hFl:=pg (B:=18446744073709551616) zd (wg a).length (a/b);generalize fw 18446744073709551616 (wg a).length (a/b)=F at*
     rw[←hF] at hsp;have hnF:=ay F;refine qZ (ajn hc) hn1 hg ?_;refine bI (hsp) ?_;refine ae ?_;refine aF [] [4] (dy (l:=F) hFl zo) ?_;rw[hqv];refine ae ?_;refine zW [] [5] (eG (x:=a%b) hrl) ?_;exact ak [] hQ
   · have hl:=Mx (a:=a) (b:=b) zo zo ha
     have hn1:decide (((nl (wg b)).length:Int)=1)=false:=ajn zo;refine ej (ajn hc) hn1 ?_;refine zC hl ?_;exact ak [] hQ
theorem Ku {a b:Nat} (ha:(wg a).length≤1000000) (hb:(wg b).length≤1000000):aA Tryz.prog 178 [NV a,NV b] [] (NV (Nat.gcd a b)) []:=by
 refine zF NK Tryz.call178 Tryz.func178 [.cell 4 157] fun Q hQ=>?_;refine ae ?_
 refine aR (X:=Nat×Nat) (st:=fun z=>([(2,.ref 0 0 0 0),(3,.ref 1 0 0 0),(4,.ref 2 0 0 0)],[some (.cells [.row 1 ((nl (wg z.1)).map (ie .u64))]),some (.cells [.row 1 ((nl (wg z.2)).map (ie .u64))]),some (.cells [.lit (.slice none 0 0)])]))
  (inv:=fun z=>(wg z.1).length≤1000000∧(wg z.2).length≤1000000∧Nat.gcd z.1 z.2=Nat.gcd a b) (m:=fun z=>z.2) (a,b) [some 0,some 1,some 2] ⟨ha,hb,rfl⟩ ?_
 rintro ⟨x,y⟩ ⟨hx,hy,hv⟩;simp only at hx hy hv ⊢;rw[←hv] at hQ;refine ae ?_;refine aB (dM (n:=y) zo) rfl rfl ?_
 by_cases h:y=0
 · subst h
   rw[Nat.gcd_zero_right] at hQ;have ho:=Gt (l:=wg x) (eW x) zo;rw[eF] at ho;refine E6 ?_;refine zC ho ?_;exact ak [] hQ
 · rw[ajn h]
   refine ae ?_;refine zC (qc (a:=x) (b:=y) h hx hy) ?_;refine aM (y,x%y) [some 0,some 1,some 2] ⟨hy,ajD (df (Nat.mod_le _ _)) hx,?_⟩ (ajI _ zo);simp only;rw[←hv,Nat.gcd_comm x y,Nat.gcd_rec y x,Nat.gcd_comm]
end Go.Proofs.YtcnlmelpnflhnaaGreat
