import Derived.Test.YtcnlmelpnflhnaaGreatRa
import Derived.Test.YtcnlmelpnflhnaaGreatE8
import Derived.Test.YtcnlmelpnflhnaaGreatE6
import Derived.Test.YtcnlmelpnflhnaaGreatN1
import Derived.Test.YtcnlmelpnflhnaaGreatE7
namespace Go.Proofs.YtcnlmelpnflhnaaGreat
open Go.Eng
set_option linter.unusedSimpArgs false
set_option linter.unusedVariables false
theorem F9 (x1 x0 y1 y0 K:Nat):(K*x1+x0)*(K*y1+y0)=K*K*(x1*y1)+K*(x1*y0+x0*y1)+x0*y0:=by
 rw[akA,akU,akU,akU];have e1:K*x1*(K*y1)=K*K*(x1*y1):=by simp only[akS,al0]
 have e2:K*x1*y0=K*(x1*y0):=by rw[akS]
 have e3:x0*(K*y1)=K*(x0*y1):=by rw[al0]
 rw[e1,e2,e3];omega
theorem Sg {x y:Nat} (hx:x<18446744073709551616) (hy:y<18446744073709551616):
 x/4294967296*(y/4294967296)+(x/4294967296*(y%4294967296)+x%4294967296*(y%4294967296)/4294967296)/4294967296+((x/4294967296*(y%4294967296)+x%4294967296*(y%4294967296)/4294967296)%4294967296+x%4294967296*(y/4294967296))/4294967296=x*y/18446744073709551616:=by
 have h:=F9 (x/4294967296) (x%4294967296) (y/4294967296) (y%4294967296) 4294967296;rw[akO,akO] at h;rw[h];generalize x/4294967296*(y/4294967296)=p;generalize x/4294967296*(y%4294967296)=q;generalize x%4294967296*(y/4294967296)=r;generalize x%4294967296*(y%4294967296)=s;omega
def pr:Nat:=2305843009213693951
theorem agb (x:Nat):(x%2305843009213693952+x/2305843009213693952)%2305843009213693951=x%2305843009213693951:=by
 omega
def Xi (p:Nat):Prop:=2≤p∧∀d,d∣p→d=1∨d=p
theorem Xi.dvd_mul {p a b:Nat} (hp:Xi p) (h:p∣a*b):p∣a∨p∣b:=by
 rcases hp.2 (Nat.gcd p a) (amN p a) with h1 | h1
 · exact .inr (Nat.Coprime.dvd_of_dvd_mul_left h1 h)
 · exact .inl (h1▸Nat.gcd_dvd_right p a)
def iV:Nat→Nat→Nat
 | _,0=>1
 | 0,_+1=>0
 | n+1,k+1=>iV n k+iV n (k+1)
theorem wz:∀n k,n<k→iV n k=0
 | 0,0,h=>by omega
 | 0,_+1,_=>rfl
 | n+1,0,h=>by omega
 | n+1,k+1,h=>by
   show iV n k+iV n (k+1)=0;rw[wz n k zo,wz n (k+1) zo]
theorem KH:∀n,iV n n=1
 | 0=>rfl
 | n+1=>by
   show iV n n+iV n (n+1)=1;rw[KH n,wz n (n+1) zo]
theorem wD:∀n k,(k+1)*iV (n+1) (k+1)=(n+1)*iV n k
 | 0,0=>rfl
 | 0,k+1=>by
   show(k+2)*(iV 0 (k+1)+iV 0 (k+2))=1*iV 0 (k+1)
   simp[iV]
 | n+1,0=>by
   have:=wD n 0
   show 1*(iV (n+1) 0+iV (n+1) 1)=(n+2)*iV (n+1) 0
   have e:iV (n+1) 1=n+1:=by
    have h:1*iV (n+1) 1=(n+1)*iV n 0:=this
    cases n<;>simp[iV] at h ⊢<;>omega
   have e0:iV (n+1) 0=1:=rfl;rw[e,e0];omega
 | n+1,k+1=>by
   have h1:=wD n k;have h2:=wD n (k+1)
   show(k+2)*(iV (n+1) (k+1)+iV (n+1) (k+2))=(n+2)*(iV n k+iV n (k+1))
   have e:iV (n+1) (k+1)=iV n k+iV n (k+1):=rfl;rw[akU,h2,show k+2=(k+1)+1 from rfl,akA,h1,e,akU,alG,show n+2=(n+1)+1 from rfl,akA (n+1),alG,akU];omega
def fx (f:Nat→Nat):Nat→Nat
 | 0=>0
 | n+1=>fx f n+f n
theorem rT {f g:Nat→Nat}:∀n,(∀i,i<n→f i=g i)→fx f n=fx g n
 | 0,_=>rfl
 | n+1,h=>by
   show fx f n+f n=fx g n+g n;rw[rT n (fun i hi=>h i zo),h n zo]
theorem mS (f:Nat→Nat):∀n,fx f (n+1)=f 0+fx (fun i=>f (i+1)) n
 | 0=>by simp[fx]
 | n+1=>by
   show fx f (n+1)+f (n+1)=f 0+(fx (fun i=>f (i+1)) n+f (n+1));rw[mS f n];omega
theorem yz (f g:Nat→Nat):∀n,fx (fun i=>f i+g i) n=fx f n+fx g n
 | 0=>rfl
 | n+1=>by
   show fx (fun i=>f i+g i) n+(f n+g n)=fx f n+f n+(fx g n+g n);rw[yz f g n];omega
theorem zu (a:Nat) (f:Nat→Nat):∀n,fx (fun i=>a*f i) n=a*fx f n
 | 0=>rfl
 | n+1=>by
   show fx (fun i=>a*f i) n+a*f n=a*(fx f n+f n);rw[zu a f n,akU]
theorem WH (a:Nat):∀n,(a+1)^n=fx (fun k=>iV n k*a^k) (n+1)
 | 0=>by simp[fx,iV]
 | n+1=>by
   rw[akM,WH a n,akU,al9,mS (fun k=>iV (n+1) k*a^k) (n+1)]
   have e1:fx (fun i=>iV (n+1) (i+1)*a^(i+1)) (n+1)=fx (fun i=>a*(iV n i*a^i)+iV n (i+1)*a^(i+1)) (n+1):=rT _ fun i _=>by
    show(iV n i+iV n (i+1))*a^(i+1)=_
    rw[akA,akM,akC a,akS]
   have e2:fx (fun k=>iV n k*a^k) (n+1)=1+fx (fun i=>iV n (i+1)*a^(i+1)) n:=by
    rw[mS]
    cases n<;>simp[iV]
   have e3:fx (fun i=>iV n (i+1)*a^(i+1)) (n+1)=fx (fun i=>iV n (i+1)*a^(i+1)) n:=by
    show _+iV n (n+1)*_=_;rw[wz n (n+1) zo];simp
   rw[e1,yz,zu,e3];have e4:iV (n+1) 0*a^0=1:=by simp[iV]
   rw[e4,akC _ a];omega
theorem Li {p:Nat} {f:Nat→Nat}:∀n,(∀i,i<n→p∣f i)→p∣fx f n
 | 0,_=>Nat.dvd_zero _
 | n+1,h=>Nat.dvd_add (Li n fun i hi=>h i zo) (h n zo)
def pwm (a m:Nat):Nat→Nat→Nat
 | 0,_=>1%m
 | f+1,e=>if e=0 then 1%m else let h:=pwm a m f (e/2);if e%2=1 then h*h%m*a%m else h*h%m
def Z6 (q:Nat):Nat→Bool
 | 0=>true
 | 1=>true
 | 2=>true
 | d+1=>(q%d !=0)&&Z6 q d
open Go.Eng Go.Vx
set_option maxRecDepth 100000
theorem rZ {x y:Nat} (hx:x<18446744073709551616) (hy:y<18446744073709551616):aA Tryz.prog 193 [.lit (.int .u64 x),.lit (.int .u64 y)] [] (.tup [.lit (.int .u64 ((x*y/18446744073709551616:Nat):Int)),.lit (.int .u64 ((x*y%18446744073709551616:Nat):Int))]) []:=by
 refine zF pl Tryz.call193 Tryz.func193 [.tmp 4,.tmp 5] fun Q hQ=>?_;have hhi:=Sg hx hy;have hlo:=zD (x*y);rw[show(2:Nat)^64=18446744073709551616 from rfl] at hlo;have hxy:(x:Int)*(y:Int)=((x*y:Nat):Int):=by simp
 have e1:(x:Int)%4294967296=((x%4294967296:Nat):Int):=by omega
 have e2:(x:Int)/4294967296=((x/4294967296:Nat):Int):=by omega
 have e3:(y:Int)%4294967296=((y%4294967296:Nat):Int):=by omega
 have e4:(y:Int)/4294967296=((y/4294967296:Nat):Int):=by omega
 have l1:x%4294967296≤4294967295:=by omega
 have l2:x/4294967296≤4294967295:=by omega
 have l3:y%4294967296≤4294967295:=by omega
 have l4:y/4294967296≤4294967295:=by omega
 have p1:=akH l1 l3;have p2:=akH l1 l4;have p3:=akH l2 l3;have p4:=akH l2 l4;generalize x%4294967296=x0 at*
 generalize x/4294967296=x1 at*
 generalize y%4294967296=y0 at*
 generalize y/4294967296=y1 at*
 have m1:(x0:Int)*(y0:Int)=((x0*y0:Nat):Int):=by simp
 have m2:(x1:Int)*(y0:Int)=((x1*y0:Nat):Int):=by simp
 have m3:(x0:Int)*(y1:Int)=((x0*y1:Nat):Int):=by simp
 have m4:(x1:Int)*(y1:Int)=((x1*y1:Nat):Int):=by simp
 generalize x0*y0=s at*
 generalize x1*y0=q at*
 generalize x0*y1=r at*
 generalize x1*y1=p at*
 generalize x*y=z at*
 have d1:(s:Int)/4294967296=((s/4294967296:Nat):Int):=by omega
 have d2:((q:Int)+((s/4294967296:Nat):Int))%4294967296=(((q+s/4294967296)%4294967296:Nat):Int):=by omega
 have d3:((q:Int)+((s/4294967296:Nat):Int))/4294967296=(((q+s/4294967296)/4294967296:Nat):Int):=by omega
 have d4:((((q+s/4294967296)%4294967296:Nat):Int)+(r:Int))/4294967296=((((q+s/4294967296)%4294967296+r)/4294967296:Nat):Int):=by omega
 have d5:(p:Int)+(((q+s/4294967296)/4294967296:Nat):Int)+((((q+s/4294967296)%4294967296+r)/4294967296:Nat):Int)=((z/18446744073709551616:Nat):Int):=by omega
 have hz:z/18446744073709551616<18446744073709551616:=by omega
 simp(maxSteps:=1000000) (disch:=(first | omega | (simp only[cS,aki,akj,true_and,and_true];(try omega);done) | fail)) only[go_sem,hxy,hlo,e1,e2,e3,e4,m1,m2,m3,m4,d1,d2,d3,d4,d5,Int.reduceEq,Int.reduceToNat,Nat.reduceAdd,Nat.reduceMul,Nat.reduceEqDiff, ↓reduceIte]
 exact ai [] hQ
theorem F0 {p u c:Nat} (hp:p≤18446744073709551615*18446744073709551615) (hu:u<18446744073709551616) (hc:c<18446744073709551616):
 ((p%18446744073709551616+u+0)%18446744073709551616+c+0)%18446744073709551616=(u+c+p)%18446744073709551616∧
 p/18446744073709551616+(p%18446744073709551616+u+0)/18446744073709551616+((p%18446744073709551616+u+0)%18446744073709551616+c+0)/18446744073709551616=(u+c+p)/18446744073709551616∧
 (u+c+p)/18446744073709551616<18446744073709551616:=by
 have e:18446744073709551615*18446744073709551615=340282366920938463426481119284349108225:=by decide
 rw[e] at hp;refine⟨?_,?_,?_⟩<;>omega
set_option maxHeartbeats 4000000 in
theorem CU {a b:Nat} (ha:(wg a).length≤1000000) (hb:(wg b).length≤1000000):aA Tryz.prog 198 [NV a,NV b] [] (NV (a*b)) []:=by
 refine zF pl Tryz.call198 Tryz.func198 [.cell 4 157] fun Q hQ=>?_;have hal:=fe a;have hbl:=fe b;have hav:=eH a;have hbv:=eH b;have hnA:=av (wg a);have hnB:=av (wg b);refine ae ?_
 refine aW (X:=Nat×List Nat) (st:=fun z=>([(2,.ref 0 0 0 0),(3,.ref 1 0 0 0),(4,.ref 2 0 0 0),(5,.sl 3 1 0 ((wg a).length+(wg b).length)),(23,.row 1 ((nl (wg a)).map (ie .u64))),(24,.I ((wg a).length:Int)),(25,.I z.1)],
  [some (.cells [.row 1 ((nl (wg a)).map (ie .u64))]),some (.cells [.row 1 ((nl (wg b)).map (ie .u64))]),some (.cells [.lit (.slice none 0 0)]),some (.row 1 ((nl z.2).map (ie .u64)))]))
  (inv:=fun z=>z.1≤(wg a).length∧z.2.length=(wg a).length+(wg b).length∧(∀d∈z.2,d<18446744073709551616)∧aE 18446744073709551616 z.2=aE 18446744073709551616 ((wg a).take z.1)*b∧∀j,z.1+(wg b).length≤j→z.2.getD j 0=0)
  (m:=fun z=>(wg a).length-z.1) (0,List.replicate ((wg a).length+(wg b).length) 0) [some 0,some 1,some 2,some 3] rfl (by simp only[←mQ];exact zM) zM
  ⟨by simp,by simp,fun d hd=>by rw[alR hd];decide,by simp[sZ,aE],fun j _=>by rw[akf,amV];split<;>rfl⟩ ?_
 rintro ⟨i,O⟩ ⟨hi,hO,hOl,hv,hz0⟩;simp only at hi hO hOl hv hz0 ⊢;have hnO:=av O
 by_cases h1:i<(wg a).length
 · have hxa:=cN zd hal i
   have hga:=bt (wg a) i;have hti:=dj (B:=18446744073709551616) (wg a) i;obtain ⟨x,hx⟩:∃x,(wg a).getD i 0=x:=⟨_,rfl⟩;rw[hx] at hxa hga hti;refine bg hga ?_
   refine aU (X:=Nat×Nat×List Nat) (st:=fun z=>([(2,.ref 0 0 0 0),(3,.ref 1 0 0 0),(4,.ref 2 0 0 0),(5,.sl 3 1 0 ((wg a).length+(wg b).length)),(23,.row 1 ((nl (wg a)).map (ie .u64))),(24,.I ((wg a).length:Int)),(25,.I i),
    (6,.I i),(7,.lit (.int .u64 x)),(8,.lit (.int .u64 z.2.1)),(31,.row 1 ((nl (wg b)).map (ie .u64))),(32,.I ((wg b).length:Int)),(33,.I z.1)],
    [some (.cells [.row 1 ((nl (wg a)).map (ie .u64))]),some (.cells [.row 1 ((nl (wg b)).map (ie .u64))]),some (.cells [.lit (.slice none 0 0)]),some (.row 1 ((nl z.2.2).map (ie .u64)))]))
    (inv:=fun z=>z.1≤(wg b).length∧z.2.1<18446744073709551616∧z.2.2.length=(wg a).length+(wg b).length∧(∀d∈z.2.2,d<18446744073709551616)∧aE 18446744073709551616 z.2.2+18446744073709551616^(i+z.1)*z.2.1=aE 18446744073709551616 O+18446744073709551616^i*(x*aE 18446744073709551616 ((wg b).take z.1))∧∀j,i+(wg b).length≤j→z.2.2.getD j 0=0)
    (m:=fun z=>(wg b).length-z.1) (0,0,O) [some 0,some 1,some 2,some 3] ⟨by simp,by simp,hO,hOl,by simp[aE],hz0⟩ ?_
   rintro ⟨k,c,U⟩ ⟨hk,hc,hU,hUl,hw,hzU⟩;simp only at hk hc hU hUl hw hzU ⊢;have hnU:=av U
   by_cases hkb:k<(wg b).length
   · have hxb:=cN zd hbl k
     have hxu:=cN zd hUl (i+k);have hgb:=bt (wg b) k;have hgu:=bt U (i+k);have htb:=dj (B:=18446744073709551616) (wg b) k;have hik:((i:Int)+(k:Int)).toNat=i+k:=by omega
     obtain ⟨y,hy⟩:∃y,(wg b).getD k 0=y:=⟨_,rfl⟩;rw[hy] at hxb hgb htb;obtain ⟨u,hu⟩:∃u,U.getD (i+k) 0=u:=⟨_,rfl⟩;have hxy:x*y≤18446744073709551615*18446744073709551615:=akH zo zo;have hst:=FJ (B:=18446744073709551616) (j:=i+k) (c:=c) (y:=x*y) (O:=U) zo;rw[hu] at hst hxu hgu;obtain ⟨hd1,hd2,hd3⟩:=F0 hxy hxu hc
     have hinv:aE 18446744073709551616 (U.set (i+k) ((u+c+x*y)%18446744073709551616))+18446744073709551616^(i+(k+1))*((u+c+x*y)/18446744073709551616)=aE 18446744073709551616 O+18446744073709551616^i*(x*aE 18446744073709551616 ((wg b).take (k+1))):=by
      rw[htb,show i+(k+1)=i+k+1 by omega,hst]
      have e:18446744073709551616^i*(x*(aE 18446744073709551616 ((wg b).take k)+18446744073709551616^k*y))=18446744073709551616^i*(x*aE 18446744073709551616 ((wg b).take k))+18446744073709551616^(i+k)*(x*y):=by
       rw[akU,akU,ale]
       congr 1
       rw[al0 x,←akS]
      rw[e];generalize 18446744073709551616^(i+k)*c=A1 at*
      generalize 18446744073709551616^(i+k)*(x*y)=A2 at*
      generalize 18446744073709551616^i*(x*aE 18446744073709551616 ((wg b).take k))=A3 at*
      omega
     have hset:=fJ U (i+k) ((u+c+x*y)%18446744073709551616);have hlen2:(U.set (i+k) ((u+c+x*y)%18446744073709551616)).length=(wg a).length+(wg b).length:=by rw[akJ,hU]
     have hall:=eE (B:=18446744073709551616) (x:=(u+c+x*y)%18446744073709551616) (i:=i+k) hUl (akD _ zd)
     have hz2:∀j,i+(wg b).length≤j→(U.set (i+k) ((u+c+x*y)%18446744073709551616)).getD j 0=0:=fun j hj=>by
      rw[akf,alr zo,←akf];exact hzU j hj
     have hm64:=rZ (x:=x) (y:=y) hxa hxb;generalize x*y=p at*
     generalize hsd:(u+c+p)%18446744073709551616=s at*
     generalize hcd:(u+c+p)/18446744073709551616=c' at*
     refine bg hgb ?_;refine aC (hm64) rfl rfl ?_;refine eo hgu hik ?_;refine fZ (c:=0) Tryz.func205 zk zk zk zk zo ?_;have hs1:(p%18446744073709551616+u+0)/18446744073709551616≤1:=by omega
     generalize (p%18446744073709551616+u+0)/18446744073709551616=c1 at*
     generalize (p%18446744073709551616+u+0)%18446744073709551616=l1 at*
     have hq1:((p/18446744073709551616:Nat):Int)+(c1:Int)=((p/18446744073709551616+c1:Nat):Int):=by omega
     refine bg hq1 ?_;refine fZ (c:=0) Tryz.func205 zk zk zk zk zo ?_;rw[hd1];generalize (l1+c+0)/18446744073709551616=c2 at*
     have hq2:((p/18446744073709551616+c1:Nat):Int)+(c2:Int)=(c':Int):=by omega
     refine LM hik hq1 hq2 hset ?_;refine aR (k+1,c',U.set (i+k) s) [some 0,some 1,some 2,some 3] ⟨by simp only;omega,hd3,hlen2,hall,hinv,hz2⟩ (by simp only;omega)
   · obtain rfl:k=(wg b).length:=by omega
     have hfull:(wg b).take (wg b).length=wg b:=aku (akk _);rw[hfull,hbv] at hw;have hset:=fJ U (i+(wg b).length) c;have hlen2:(U.set (i+(wg b).length) c).length=(wg a).length+(wg b).length:=by rw[akJ,hU]
     have hall:=eE (B:=18446744073709551616) (x:=c) (i:=i+(wg b).length) hUl hc
     have hz2:∀j,i+1+(wg b).length≤j→(U.set (i+(wg b).length) c).getD j 0=0:=fun j hj=>by
      rw[akf,alr zo,←akf];exact hzU j zo
     have hvs:=sd (B:=18446744073709551616) (l:=U) (i:=i+(wg b).length) (x:=c) zo;rw[hzU _ (akk _),amB,alv,hw,hv] at hvs;have hik:((i:Int)+((wg b).length:Int)).toNat=i+(wg b).length:=by omega
     have hik2:((i:Int)+((nl (wg b)).length:Int)).toNat=i+(wg b).length:=by omega
     refine qm hik hik2 hset ?_;refine aR (i+1,U.set (i+(wg b).length) c) [some 0,some 1,some 2,some 3] ⟨by simp only;omega,hlen2,hall,by simp only;rw[hvs,hti,akA,akS],hz2⟩ (by simp only;omega)
 · have hfull:(wg a).take i=wg a:=aku zo
   rw[hfull,hav] at hv;refine ae ?_;refine aF [] [3] (dD (l:=O) hOl zo) ?_;rw[hv];exact zE [] hQ
theorem JT {u d y1 y0:Nat} (hd:d<4294967296) (hy:0<y1):(u*4294967296+d)/(y1*4294967296+y0)≤u/y1:=by
 rw[alL hy];have h:=amU (u*4294967296+d) (y1*4294967296+y0);generalize (u*4294967296+d)/(y1*4294967296+y0)=Q at*
 rw[akU,←akS] at h;generalize Q*y1=a at*
 generalize Q*y0=b at*
 omega
theorem Be {u y1 y0:Nat} (hy1:2147483648≤y1) (hy0:y0<4294967296) (hu:u<y1*4294967296+y0):u/y1≤4294967297:=by
 have h:=amU u y1;refine Classical.byContradiction fun hn=>?_;have h2:=akI y1 (show 4294967298≤u/y1 by omega);omega
theorem G1 {u d y1 y0 q r:Nat} (hd:d<4294967296) (hu:u<y1*4294967296+y0) (hi:q*y1+r=u) (hq:(u*4294967296+d)/(y1*4294967296+y0)≤q) (hc:4294967296≤q∨4294967296*r+d<q*y0):
 0<q∧(u*4294967296+d)/(y1*4294967296+y0)≤q-1∧(q-1)*y1+(r+y1)=u:=by
 have hy:0<y1*4294967296+y0:=by omega
 have hlt:(u*4294967296+d)/(y1*4294967296+y0)<q:=by
  rw[akR hy];rcases hc with hc | hc
  · have h1:4294967296*(y1*4294967296+y0)≤q*(y1*4294967296+y0):=akI _ hc
    omega
  · rw[akU,←akS]
    generalize q*y1=a at*
    generalize q*y0=b at*
    omega
 have hq0:0<q:=ak4 (akF _) hlt;obtain ⟨k,rfl⟩:∃k,q=k+1:=⟨q-1,by omega⟩;rw[alJ];rw[akA,alG] at hi;exact⟨hq0,am3 hlt,by omega⟩
theorem ug {u d y1 y0 q r:Nat} (hy:0<y1*4294967296+y0) (hi:q*y1+r=u) (hq:(u*4294967296+d)/(y1*4294967296+y0)≤q) (hc:q*y0≤4294967296*r+d):
 q=(u*4294967296+d)/(y1*4294967296+y0):=by
 refine Nat.le_antisymm ?_ hq;rw[alL hy,akU,←akS];generalize q*y1=a at*
 generalize q*y0=b at*
 omega
theorem Ar {u d y1 y0 q r:Nat} (hy:0<y1*4294967296+y0) (hy0:y0<4294967296) (hi:q*y1+r=u) (hq:(u*4294967296+d)/(y1*4294967296+y0)≤q) (hq2:q≤4294967296) (hr:4294967296≤r):
 q=(u*4294967296+d)/(y1*4294967296+y0):=by
 refine ug hy hi hq ?_
 have:=akH hq2 (show y0≤4294967295 by omega)
 omega
theorem Sq {b N2 un1 un0 Y:Nat} (hY:0<Y) (hu:N2<Y) (h1:un1<b) (h0:un0<b):
 (N2*b+un1)/Y*b+((N2*b+un1)%Y*b+un0)/Y=((N2*b+un1)*b+un0)/Y∧
 ((N2*b+un1)%Y*b+un0)%Y=((N2*b+un1)*b+un0)%Y∧
 (N2*b+un1)/Y<b∧((N2*b+un1)%Y*b+un0)/Y<b:=by
 have key:∀x z:Nat,x<Y→z<b→(x*b+z)/Y<b:=fun x z hx hz=>by
  rw[akR hY]
  have:=akI b (show x+1≤Y from hx)
  rw[akA,alG] at this;rw[akC b Y];omega
 have e1:=akO (N2*b+un1) Y;have l1:=akD (N2*b+un1) hY;have q1:=key N2 un1 hu h1;generalize hA:N2*b+un1=A at*
 generalize A/Y=Q1 at*
 generalize A%Y=R1 at*
 have e2:=akO (R1*b+un0) Y;have l2:=akD (R1*b+un0) hY;have q2:=key R1 un0 l1 h0;generalize hC:R1*b+un0=C at*
 generalize C/Y=Q0 at*
 generalize C%Y=R0 at*
 have hs:R0+Y*(Q1*b+Q0)=A*b+un0:=by
  rw[akU,←akS,←e1,akA];omega
 have hdm:=(Nat.div_mod_unique hY (a:=A*b+un0) (c:=R0) (d:=Q1*b+Q0)).2 ⟨hs,l2⟩;exact⟨hdm.1.symm,hdm.2.symm,q1,q2⟩
theorem vu {a y s:Nat} (hy:0<y):a*2^s/(y*2^s)=a/y∧a*2^s%(y*2^s)=a%y*2^s:=by
 have hp:0<2^s:=akN zd;exact⟨Nat.mul_div_mul_right _ _ hp,amG _ _ _⟩
theorem yM {hi lo y s:Nat} (hs:s≤63) (hlo:lo<18446744073709551616) (hhi:hi<y) (hy:y*2^s<18446744073709551616):
 (hi*2^s+lo/2^(64-s))*18446744073709551616+lo*2^s%18446744073709551616=(hi*18446744073709551616+lo)*2^s∧
 hi*2^s+lo/2^(64-s)<y*2^s∧lo/2^(64-s)<2^s:=by
 have e:(18446744073709551616:Nat)=2^(64-s)*2^s:=by rw[←ale,show 64-s+s=64 by omega]
 have hp:0<2^s:=akN zd;have hq:0<2^(64-s):=akN zd;have hmm:lo*2^s%18446744073709551616=lo%2^(64-s)*2^s:=by rw[e,amG]
 have hl:lo/2^(64-s)<2^s:=by rw[akR hq,akC,←e];exact hlo
 refine⟨?_,?_,hl⟩
 · rw[hmm]
   have h:=akO lo (2^(64-s));generalize lo/2^(64-s)=a at*
   generalize lo%2^(64-s)=b at*
   rw[←h,akA,e];generalize 2^s=S at*
   generalize 2^(64-s)=T at*
   simp only[akA,akU,akS,akC,al0,alN,alX,Nat.add_left_comm]
 · have:=akI (2^s) (show hi+1≤y from hhi)
   rw[akA,alG] at this;omega
theorem M7 {y:Nat} (h0:0<y) (h:y<18446744073709551616):64-bl y≤63∧bl y≤64∧9223372036854775808≤y*2^(64-bl y)∧y*2^(64-bl y)<18446744073709551616:=by
 have h1:=bI (n:=y) (k:=64) zo;have h2:=jV (n:=y) zo;have h3:=pC (n:=y) zo;have h4:=ko y;refine⟨by omega,h1,?_,?_⟩
 · have:=akI (2^(64-bl y)) h3
   rw[←ale,show bl y-1+(64-bl y)=63 by omega] at this;exact this
 · have:=amE h4 (show 0<2^(64-bl y) from akN zd)
   rw[←ale,show bl y+(64-bl y)=64 by omega] at this;exact this
def fw (B:Nat):Nat→Nat→List Nat
 | 0,_=> []
 | k+1,v=>v%B::fw B k (v/B)
theorem cJ {B:Nat}:∀k v,(fw B k v).length=k
 | 0,_=>rfl
 | k+1,v=>by show(fw B k (v/B)).length+1=_;rw[cJ k]
theorem pG {B:Nat} (hB:0<B):∀k v,∀d∈fw B k v,d<B
 | 0,_,d,hd=>by simp[fw] at hd
 | k+1,v,d,hd=>by
   rcases aky.1 hd with rfl | hd
   · exact akD _ hB
   · exact pG hB k _ d hd
theorem kL {B:Nat} (hB:0<B):∀k v,aE B (fw B k v)=v%B^k
 | 0,v=>by rw[amO,Nat.mod_one];rfl
 | k+1,v=>by
   show v%B+B*aE B (fw B k (v/B))=_;rw[kL hB k,akM,akC (B^k),Nat.mod_mul]
theorem JD {B:Nat}:∀{l:List Nat},(∀d∈l,d<B)→fw B l.length (aE B l)=l
 | [],_=>rfl
 | d::l,h=>by
   have hd:=h d (by simp);have ih:=JD (l:=l) (fun x hx=>h x (by simp[hx]))
   show(d+B*aE B l)%B::fw B l.length ((d+B*aE B l)/B)=_
   rw[Nat.add_mul_mod_self_left,akG hd,amu _ _ zo,alx hd,akP,ih]
theorem ym {B k v:Nat} {l:List Nat} (h:∀d∈l,d<B) (hk:l.length=k) (hv:aE B l=v):fw B k v=l:=by rw[←hk,←hv];exact JD h
theorem jW {B:Nat}:∀a b v,fw B (a+b) v=fw B a v++fw B b (v/B^a)
 | 0,b,v=>by rw[akP,amO,Nat.div_one];rfl
 | a+1,b,v=>by
   rw[show a+1+b=(a+b)+1 by omega];show v%B::fw B (a+b) (v/B)=v%B::(fw B a (v/B)++fw B b (v/B^(a+1)));rw[jW a b,akM,akC,alm]
theorem BU {B:Nat} (hB:0<B):∀k v,fw B k (v%B^k)=fw B k v
 | 0,_=>rfl
 | k+1,v=>by
   show v%B^(k+1)%B::fw B k (v%B^(k+1)/B)=v%B::fw B k (v/B);rw[akM,Nat.mod_mul_left_mod,akC,Nat.mod_mul_right_div_self,BU hB k]
theorem iZ {B:Nat}:∀{k i} (v:Nat),i<k→(fw B k v).getD i 0=v/B^i%B
 | 0,_,_,h=>absurd h (Nat.not_lt_zero _)
 | k+1,0,v,_=>by simp[fw]
 | k+1,i+1,v,h=>by
   show(fw B k (v/B)).getD i 0=_
   rw[iZ (v/B) zo,akM,akC (B^i),alm]
def jc (P N T:List Nat):List Nat:=P++(N++T.drop N.length)
theorem nD (P T:List Nat):jc P [] T=P++T:=rfl
theorem ox {P N T:List Nat} (h:N.length≤T.length):(jc P N T).length=P.length+T.length:=by unfold jc;simp;omega
theorem nN {P N T:List Nat} {i:Nat} (h:N.length≤i) (hi:i<T.length):(jc P N T).getD (P.length+i) 0=T.getD i 0:=by
 unfold jc;rw[akf,akq zo,akq zo,ak8,akf]
 congr 2
 omega
theorem v9 {P N T:List Nat} {x:Nat} (h:N.length<T.length):(jc P N T).set (P.length+N.length) x=jc P (N++[x]) T:=by
 unfold jc;rw[ame (h:=by omega),Nat.add_sub_cancel_left,ame (h:=akk _),alw,ak3 h,amt,ake,alj,akl]
 rfl
theorem Ic {U D P:Nat} (hP:0<P) (h:0<D/P):U/D≤U/P/(D/P):=by
 rw[alL h,alL hP];have h1:=amU D P;have h2:=amU U D;have h3:=alg (U/D) h1;rw[←akS] at h3;exact akE h3 h2
theorem ahr {B n U D:Nat} (hB:0<B) (hn:0<n) (hU:U<B^(n+1)) (hD:D<B^n):
 U/B^n%B=U/B^n∧D/B^(n-1)%B=D/B^(n-1)∧U/B^n*B+U/B^(n-1)%B=U/B^(n-1):=by
 obtain ⟨m,rfl⟩:∃m,n=m+1:=⟨n-1,by omega⟩;rw[alJ];refine⟨?_,?_,?_⟩
 · refine akG ?_
   rw[akR (akN hB),akC,←akM];exact hU
 · refine akG ?_
   rw[akR (akN hB),akC,←akM];exact hD
 · rw[show U/B^(m+1)=U/B^m/B by rw[akM,alm],akC,akO]
theorem Ej {U D Q X V g:Nat} (hQ:Q=U/D) (h:V+g*D=U+X) (hg:g=Q+1):V+D=U%D+X:=by
 have:=akO U D
 subst hg;rw[akA,alG] at h;rw[←hQ,akC] at this;omega
theorem El {U D X V g:Nat} (hD:0<D) (hQ:U/D+1<g) (h:V+g*D=U+X):V+D<X∧(V+D)+(g-1)*D=U+X:=by
 obtain ⟨k,rfl⟩:∃k,g=k+1:=⟨g-1,by have:=akF (U/D);omega⟩;rw[alJ];rw[akA,alG] at h
 have h1:U<k*D:=by
  rw[←akR hD];omega
 exact⟨by omega,by omega⟩
theorem Ht {B n U D V g:Nat} (hB:0<B) (hD:D<B^n) (hg:g<B) (h:V+g*D=U+B^(n+1)):B^n≤V:=by
 have h1:g*D≤(B-1)*B^n:=akH zo (am4 hD)
 have h2:B^(n+1)=(B-1)*B^n+B^n:=by
  obtain ⟨k,rfl⟩:∃k,B=k+1:=⟨B-1,by omega⟩;rw[alJ,akM,akC,akA,alG]
 omega
def dU (B A D k:Nat):Nat:=A/B^k%D*B^k+A%B^k
theorem qY {B A D i:Nat} (hB:0<B):dU B A D (i+1)/B^i=A/B^(i+1)%D*B+A/B^i%B:=by
 unfold dU;have hP:0<B^i:=akN hB;have e:A%B^(i+1)=A%B^i+B^i*(A/B^i%B):=Nat.mod_pow_succ;rw[e,akM];generalize A/(B^i*B)%D=r;have hm:=akD A hP;generalize A%B^i=x at*
 generalize A/B^i%B=y at*
 have e2:r*(B^i*B)+(x+B^i*y)=x+B^i*(r*B+y):=by
  rw[al0 r,akU,Nat.add_left_comm]
 rw[e2,amu _ _ hP,alx hm,akP]
theorem Jd {B A D i:Nat} (hB:0<B):dU B A D (i+1)%B^i=A%B^i:=by
 unfold dU;have e:A%B^(i+1)=A%B^i+B^i*(A/B^i%B):=Nat.mod_pow_succ;rw[e,akM];generalize A/(B^i*B)%D=r;generalize hy:A/B^i%B=y;have hx:=Nat.mod_mod A (B^i);generalize A%B^i=x at*
 have e2:r*(B^i*B)+(x+B^i*y)=x+B^i*(r*B+y):=by
  rw[al0 r,akU,Nat.add_left_comm]
 rw[e2,Nat.add_mul_mod_self_left,hx]
theorem Mx {B A D i:Nat} (hB:0<B) (hD:0<D):dU B A D (i+1)/B^i<D*B:=by
 rw[qY hB];have h1:=akD (A/B^(i+1)) hD;have h2:=akD (A/B^i) hB;generalize A/B^(i+1)%D=r at*
 generalize A/B^i%B=y at*
 have:=akI B (show r+1≤D from h1)
 rw[akA,alG] at this;omega
theorem tk {B A i:Nat} (hB:0<B):A/B^i=A/B^(i+1)*B+A/B^i%B:=by
 rw[akM,←alm,Nat.div_add_mod']
theorem EV {B A D i:Nat} (hB:0<B):dU B A D (i+1)/B^i%D*B^i+A%B^i=dU B A D i:=by
 rw[qY hB];unfold dU
 congr 2
 conv=>rhs;rw[tk (i:=i) (A:=A) hB]
 have h:=akO (A/B^(i+1)) D;generalize A/B^i%B=y;generalize A/B^(i+1)%D=r at*
 generalize A/B^(i+1)/D=q at*
 rw[←h,akA,alN,akS,Nat.mul_add_mod]
theorem JV {B A D i:Nat} (hB:0<B) (hD:0<D):dU B A D (i+1)/B^i/D+B*(A/B^(i+1)/D)=A/B^i/D:=by
 rw[qY hB]
 conv=>rhs;rw[tk (i:=i) (A:=A) hB]
 have h:=akO (A/B^(i+1)) D;generalize A/B^i%B=y;generalize A/B^(i+1)%D=r at*
 generalize A/B^(i+1)/D=q at*
 rw[←h,akA,alN,akS,Nat.mul_add_div hD,akC q B,alX]
theorem AG {B A D k:Nat} (h:A/B^k<D):dU B A D k=A∧A/B^k/D=0:=by
 unfold dU;rw[akG h,alx h,akC,akO];exact⟨rfl,rfl⟩
theorem Fo {B A D:Nat}:dU B A D 0=A%D:=by
 unfold dU;rw[amO,Nat.div_one,Nat.mod_one,al9,alv]
theorem AR {B V i n e:Nat}:fw B (i+(n+1+e)) V=fw B i V++(fw B (n+1) (V/B^i)++fw B e (V/B^i/B^(n+1))):=by
 rw[jW,jW]
theorem Ee {B V W i n e:Nat} (hB:0<B) (hV:V/B^i<B^(n+1)) (hW:W<B^(n+1)):
 fw B i V++(fw B (n+1) W++fw B e (V/B^i/B^(n+1)))=fw B (i+(n+1+e)) (W*B^i+V%B^i):=by
 have hP:0<B^i:=akN hB;rw[jW i,jW (n+1)]
 have e1:fw B i (W*B^i+V%B^i)=fw B i V:=by
  rw[←BU hB i (W*B^i+V%B^i),akC,Nat.mul_add_mod,Nat.mod_mod,BU hB]
 have e2:(W*B^i+V%B^i)/B^i=W:=by
  rw[akC,Nat.mul_add_div hP,alx (akD _ hP),alv]
 rw[e1,e2,alx hV,alx hW]
theorem IS {l:List Nat} {i B:Nat} (h:i<l.length):aE B (l.drop i)=l.getD i 0+B*aE B (l.drop (i+1)):=by
 rw[ak3 h];have e:l.getD i 0=l[i]:=by simp[akf,h]
 rw[e]
 rfl
theorem set_drop {l:List Nat} {i x:Nat} (h:i<l.length):(l.set i x).drop i=x::l.drop (i+1):=by
 rw[ak3 (by simpa using h),List.getElem_set_self,amx zo]
end Go.Proofs.YtcnlmelpnflhnaaGreat
