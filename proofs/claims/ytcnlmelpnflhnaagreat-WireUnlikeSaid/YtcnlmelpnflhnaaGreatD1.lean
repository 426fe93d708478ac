import Derived.Test.YtcnlmelpnflhnaaGreatPk
import Derived.Test.YtcnlmelpnflhnaaGreatE8
import Derived.Test.YtcnlmelpnflhnaaGreatE6
import Derived.Test.YtcnlmelpnflhnaaGreatN1
import Derived.Test.YtcnlmelpnflhnaaGreatE7
namespace Go.Proofs.YtcnlmelpnflhnaaGreat
open Go.Eng
set_option linter.unusedSimpArgs false
set_option linter.unusedVariables false
theorem Fl (x1 x0 y1 y0 K:Nat):(K*x1+x0)*(K*y1+y0)=K*K*(x1*y1)+K*(x1*y0+x0*y1)+x0*y0:=by
 rw[ajG,aj0,aj0,aj0];have e1:K*x1*(K*y1)=K*K*(x1*y1):=by simp only[ajZ,akZ]
 have e2:K*x1*y0=K*(x1*y0):=by rw[ajZ]
 have e3:x0*(K*y1)=K*(x0*y1):=by rw[akZ]
 rw[e1,e2,e3];omega
theorem QS {x y:Nat} (hx:x<18446744073709551616) (hy:y<18446744073709551616):
 x/4294967296*(y/4294967296)+(x/4294967296*(y%4294967296)+x%4294967296*(y%4294967296)/4294967296)/4294967296+((x/4294967296*(y%4294967296)+x%4294967296*(y%4294967296)/4294967296)%4294967296+x%4294967296*(y/4294967296))/4294967296=x*y/18446744073709551616:=by
 have h:=Fl (x/4294967296) (x%4294967296) (y/4294967296) (y%4294967296) 4294967296;rw[ajT,ajT] at h;rw[h];generalize x/4294967296*(y/4294967296)=p;generalize x/4294967296*(y%4294967296)=q;generalize x%4294967296*(y/4294967296)=r;generalize x%4294967296*(y%4294967296)=s;omega
def pr:Nat:=2305843009213693951
theorem ae8 (x:Nat):(x%2305843009213693952+x/2305843009213693952)%2305843009213693951=x%2305843009213693951:=by
 omega
def VT (p:Nat):Prop:=2≤p∧∀d,d∣p→d=1∨d=p
theorem VT.dvd_mul {p a b:Nat} (hp:VT p) (h:p∣a*b):p∣a∨p∣b:=by
 rcases hp.2 (Nat.gcd p a) (alP p a) with h1 | h1
 · exact .inr (Nat.Coprime.dvd_of_dvd_mul_left h1 h)
 · exact .inl (h1▸Nat.gcd_dvd_right p a)
def iO:Nat→Nat→Nat
 | _,0=>1
 | 0,_+1=>0
 | n+1,k+1=>iO n k+iO n (k+1)
theorem vT:∀n k,n<k→iO n k=0
 | 0,0,h=>by omega
 | 0,_+1,_=>rfl
 | n+1,0,h=>by omega
 | n+1,k+1,h=>by
   show iO n k+iO n (k+1)=0;rw[vT n k zo,vT n (k+1) zo]
theorem Jl:∀n,iO n n=1
 | 0=>rfl
 | n+1=>by
   show iO n n+iO n (n+1)=1;rw[Jl n,vT n (n+1) zo]
theorem vV:∀n k,(k+1)*iO (n+1) (k+1)=(n+1)*iO n k
 | 0,0=>rfl
 | 0,k+1=>by
   show(k+2)*(iO 0 (k+1)+iO 0 (k+2))=1*iO 0 (k+1)
   simp[iO]
 | n+1,0=>by
   have:=vV n 0
   show 1*(iO (n+1) 0+iO (n+1) 1)=(n+2)*iO (n+1) 0
   have e:iO (n+1) 1=n+1:=by
    have h:1*iO (n+1) 1=(n+1)*iO n 0:=this
    cases n<;>simp[iO] at h ⊢<;>omega
   have e0:iO (n+1) 0=1:=rfl;rw[e,e0];omega
 | n+1,k+1=>by
   have h1:=vV n k;have h2:=vV n (k+1)
   show(k+2)*(iO (n+1) (k+1)+iO (n+1) (k+2))=(n+2)*(iO n k+iO n (k+1))
   have e:iO (n+1) (k+1)=iO n k+iO n (k+1):=rfl;rw[aj0,h2,show k+2=(k+1)+1 from rfl,ajG,h1,e,aj0,akH,show n+2=(n+1)+1 from rfl,ajG (n+1),akH,aj0];omega
def fh (f:Nat→Nat):Nat→Nat
 | 0=>0
 | n+1=>fh f n+f n
theorem ru {f g:Nat→Nat}:∀n,(∀i,i<n→f i=g i)→fh f n=fh g n
 | 0,_=>rfl
 | n+1,h=>by
   show fh f n+f n=fh g n+g n;rw[ru n (fun i hi=>h i zo),h n zo]
theorem mK (f:Nat→Nat):∀n,fh f (n+1)=f 0+fh (fun i=>f (i+1)) n
 | 0=>by simp[fh]
 | n+1=>by
   show fh f (n+1)+f (n+1)=f 0+(fh (fun i=>f (i+1)) n+f (n+1));rw[mK f n];omega
theorem x9 (f g:Nat→Nat):∀n,fh (fun i=>f i+g i) n=fh f n+fh g n
 | 0=>rfl
 | n+1=>by
   show fh (fun i=>f i+g i) n+(f n+g n)=fh f n+f n+(fh g n+g n);rw[x9 f g n];omega
theorem yZ (a:Nat) (f:Nat→Nat):∀n,fh (fun i=>a*f i) n=a*fh f n
 | 0=>rfl
 | n+1=>by
   show fh (fun i=>a*f i) n+a*f n=a*(fh f n+f n);rw[yZ a f n,aj0]
theorem Vp (a:Nat):∀n,(a+1)^n=fh (fun k=>iO n k*a^k) (n+1)
 | 0=>by simp[fh,iO]
 | n+1=>by
   rw[ajS,Vp a n,aj0,ak6,mK (fun k=>iO (n+1) k*a^k) (n+1)]
   have e1:fh (fun i=>iO (n+1) (i+1)*a^(i+1)) (n+1)=fh (fun i=>a*(iO n i*a^i)+iO n (i+1)*a^(i+1)) (n+1):=ru _ fun i _=>by
    show(iO n i+iO n (i+1))*a^(i+1)=_
    rw[ajG,ajS,ajJ a,ajZ]
   have e2:fh (fun k=>iO n k*a^k) (n+1)=1+fh (fun i=>iO n (i+1)*a^(i+1)) n:=by
    rw[mK]
    cases n<;>simp[iO]
   have e3:fh (fun i=>iO n (i+1)*a^(i+1)) (n+1)=fh (fun i=>iO n (i+1)*a^(i+1)) n:=by
    show _+iO n (n+1)*_=_;rw[vT n (n+1) zo];simp
   rw[e1,x9,yZ,e3];have e4:iO (n+1) 0*a^0=1:=by simp[iO]
   rw[e4,ajJ _ a];omega
theorem JL {p:Nat} {f:Nat→Nat}:∀n,(∀i,i<n→p∣f i)→p∣fh f n
 | 0,_=>Nat.dvd_zero _
 | n+1,h=>Nat.dvd_add (JL n fun i hi=>h i zo) (h n zo)
def pwm (a m:Nat):Nat→Nat→Nat
 | 0,_=>1%m
 | f+1,e=>if e=0 then 1%m else let h:=pwm a m f (e/2);if e%2=1 then h*h%m*a%m else h*h%m
def YU (q:Nat):Nat→Bool
 | 0=>true
 | 1=>true
 | 2=>true
 | d+1=>(q%d !=0)&&YU q d
open Go.Eng Go.Vx
set_option maxRecDepth 100000
theorem rB {x y:Nat} (hx:x<18446744073709551616) (hy:y<18446744073709551616):aA Tryz.prog 193 [.lit (.int .u64 x),.lit (.int .u64 y)] [] (.tup [.lit (.int .u64 ((x*y/18446744073709551616:Nat):Int)),.lit (.int .u64 ((x*y%18446744073709551616:Nat):Int))]) []:=by
 refine zF pl Tryz.call193 Tryz.func193 [.tmp 4,.tmp 5] fun Q hQ=>?_;have hhi:=QS hx hy;have hlo:=za (x*y);rw[show(2:Nat)^64=18446744073709551616 from rfl] at hlo;have hxy:(x:Int)*(y:Int)=((x*y:Nat):Int):=by simp
 have e1:(x:Int)%4294967296=((x%4294967296:Nat):Int):=by omega
 have e2:(x:Int)/4294967296=((x/4294967296:Nat):Int):=by omega
 have e3:(y:Int)%4294967296=((y%4294967296:Nat):Int):=by omega
 have e4:(y:Int)/4294967296=((y/4294967296:Nat):Int):=by omega
 have l1:x%4294967296≤4294967295:=by omega
 have l2:x/4294967296≤4294967295:=by omega
 have l3:y%4294967296≤4294967295:=by omega
 have l4:y/4294967296≤4294967295:=by omega
 have p1:=ajO l1 l3;have p2:=ajO l1 l4;have p3:=ajO l2 l3;have p4:=ajO l2 l4;generalize x%4294967296=x0 at*
 generalize x/4294967296=x1 at*
 generalize y%4294967296=y0 at*
 generalize y/4294967296=y1 at*
 have m1:(x0:Int)*(y0:Int)=((x0*y0:Nat):Int):=by simp
 have m2:(x1:Int)*(y0:Int)=((x1*y0:Nat):Int):=by simp
 have m3:(x0:Int)*(y1:Int)=((x0*y1:Nat):Int):=by simp
 have m4:(x1:Int)*(y1:Int)=((x1*y1:Nat):Int):=by simp
 generalize x0*y0=s at*
 generalize x1*y0=q at*
 generalize x0*y1=r at*
 generalize x1*y1=p at*
 generalize x*y=z at*
 have d1:(s:Int)/4294967296=((s/4294967296:Nat):Int):=by omega
 have d2:((q:Int)+((s/4294967296:Nat):Int))%4294967296=(((q+s/4294967296)%4294967296:Nat):Int):=by omega
 have d3:((q:Int)+((s/4294967296:Nat):Int))/4294967296=(((q+s/4294967296)/4294967296:Nat):Int):=by omega
 have d4:((((q+s/4294967296)%4294967296:Nat):Int)+(r:Int))/4294967296=((((q+s/4294967296)%4294967296+r)/4294967296:Nat):Int):=by omega
 have d5:(p:Int)+(((q+s/4294967296)/4294967296:Nat):Int)+((((q+s/4294967296)%4294967296+r)/4294967296:Nat):Int)=((z/18446744073709551616:Nat):Int):=by omega
 have hz:z/18446744073709551616<18446744073709551616:=by omega
 simp(maxSteps:=1000000) (disch:=(first | omega | (simp only[cQ,ajl,ajo,true_and,and_true];(try omega);done) | fail)) only[go_sem,hxy,hlo,e1,e2,e3,e4,m1,m2,m3,m4,d1,d2,d3,d4,d5,Int.reduceEq,Int.reduceToNat,Nat.reduceAdd,Nat.reduceMul,Nat.reduceEqDiff, ↓reduceIte]
 exact ak [] hQ
theorem Fe {p u c:Nat} (hp:p≤18446744073709551615*18446744073709551615) (hu:u<18446744073709551616) (hc:c<18446744073709551616):
 ((p%18446744073709551616+u+0)%18446744073709551616+c+0)%18446744073709551616=(u+c+p)%18446744073709551616∧
 p/18446744073709551616+(p%18446744073709551616+u+0)/18446744073709551616+((p%18446744073709551616+u+0)%18446744073709551616+c+0)/18446744073709551616=(u+c+p)/18446744073709551616∧
 (u+c+p)/18446744073709551616<18446744073709551616:=by
 have e:18446744073709551615*18446744073709551615=340282366920938463426481119284349108225:=by decide
 rw[e] at hp;refine⟨?_,?_,?_⟩<;>omega
set_option maxHeartbeats 4000000 in
theorem Ch {a b:Nat} (ha:(wg a).length≤1000000) (hb:(wg b).length≤1000000):aA Tryz.prog 198 [NV a,NV b] [] (NV (a*b)) []:=by
 refine zF pl Tryz.call198 Tryz.func198 [.cell 4 157] fun Q hQ=>?_;have hal:=eW a;have hbl:=eW b;have hav:=eF a;have hbv:=eF b;have hnA:=ay (wg a);have hnB:=ay (wg b);refine ae ?_
 refine aT (X:=Nat×List Nat) (st:=fun z=>([(2,.ref 0 0 0 0),(3,.ref 1 0 0 0),(4,.ref 2 0 0 0),(5,.sl 3 1 0 ((wg a).length+(wg b).length)),(23,.row 1 ((nl (wg a)).map (ie .u64))),(24,.lit (.int .i64 ((wg a).length:Int))),(25,.lit (.int .i64 (z.1:Int)))],
  [some (.cells [.row 1 ((nl (wg a)).map (ie .u64))]),some (.cells [.row 1 ((nl (wg b)).map (ie .u64))]),some (.cells [.lit (.slice none 0 0)]),some (.row 1 ((nl z.2).map (ie .u64)))]))
  (inv:=fun z=>z.1≤(wg a).length∧z.2.length=(wg a).length+(wg b).length∧(∀d∈z.2,d<18446744073709551616)∧aD 18446744073709551616 z.2=aD 18446744073709551616 ((wg a).take z.1)*b∧∀j,z.1+(wg b).length≤j→z.2.getD j 0=0)
  (m:=fun z=>(wg a).length-z.1) (0,List.replicate ((wg a).length+(wg b).length) 0) [some 0,some 1,some 2,some 3] rfl (by simp only[←mI];exact zM) zM
  ⟨by simp,by simp,fun d hd=>by rw[ala hd];decide,by simp[sw,aD],fun j _=>by rw[ajk,alW];split<;>rfl⟩ ?_
 rintro ⟨i,O⟩ ⟨hi,hO,hOl,hv,hz0⟩;simp only at hi hO hOl hv hz0 ⊢;have hnO:=ay O
 by_cases h1:i<(wg a).length
 · have hxa:=cL zd hal i
   have hga:=bD (wg a) i;have hti:=dj (B:=18446744073709551616) (wg a) i;obtain ⟨x,hx⟩:∃x,(wg a).getD i 0=x:=⟨_,rfl⟩;rw[hx] at hxa hga hti;refine br hga ?_
   refine aR (X:=Nat×Nat×List Nat) (st:=fun z=>([(2,.ref 0 0 0 0),(3,.ref 1 0 0 0),(4,.ref 2 0 0 0),(5,.sl 3 1 0 ((wg a).length+(wg b).length)),(23,.row 1 ((nl (wg a)).map (ie .u64))),(24,.lit (.int .i64 ((wg a).length:Int))),(25,.lit (.int .i64 (i:Int))),
    (6,.lit (.int .i64 (i:Int))),(7,.lit (.int .u64 (x:Int))),(8,.lit (.int .u64 (z.2.1:Int))),(31,.row 1 ((nl (wg b)).map (ie .u64))),(32,.lit (.int .i64 ((wg b).length:Int))),(33,.lit (.int .i64 (z.1:Int)))],
    [some (.cells [.row 1 ((nl (wg a)).map (ie .u64))]),some (.cells [.row 1 ((nl (wg b)).map (ie .u64))]),some (.cells [.lit (.slice none 0 0)]),some (.row 1 ((nl z.2.2).map (ie .u64)))]))
    (inv:=fun z=>z.1≤(wg b).length∧z.2.1<18446744073709551616∧z.2.2.length=(wg a).length+(wg b).length∧(∀d∈z.2.2,d<18446744073709551616)∧aD 18446744073709551616 z.2.2+18446744073709551616^(i+z.1)*z.2.1=aD 18446744073709551616 O+18446744073709551616^i*(x*aD 18446744073709551616 ((wg b).take z.1))∧∀j,i+(wg b).length≤j→z.2.2.getD j 0=0)
    (m:=fun z=>(wg b).length-z.1) (0,0,O) [some 0,some 1,some 2,some 3] ⟨by simp,by simp,hO,hOl,by simp[aD],hz0⟩ ?_
   rintro ⟨k,c,U⟩ ⟨hk,hc,hU,hUl,hw,hzU⟩;simp only at hk hc hU hUl hw hzU ⊢;have hnU:=ay U
   by_cases hkb:k<(wg b).length
   · have hxb:=cL zd hbl k
     have hxu:=cL zd hUl (i+k);have hgb:=bD (wg b) k;have hgu:=bD U (i+k);have htb:=dj (B:=18446744073709551616) (wg b) k;have hik:((i:Int)+(k:Int)).toNat=i+k:=by omega
     obtain ⟨y,hy⟩:∃y,(wg b).getD k 0=y:=⟨_,rfl⟩;rw[hy] at hxb hgb htb;obtain ⟨u,hu⟩:∃u,U.getD (i+k) 0=u:=⟨_,rfl⟩;have hxy:x*y≤18446744073709551615*18446744073709551615:=ajO zo zo;have hst:=EW (B:=18446744073709551616) (j:=i+k) (c:=c) (y:=x*y) (O:=U) zo;rw[hu] at hst hxu hgu;obtain ⟨hd1,hd2,hd3⟩:=Fe hxy hxu hc
     have hinv:aD 18446744073709551616 (U.set (i+k) ((u+c+x*y)%18446744073709551616))+18446744073709551616^(i+(k+1))*((u+c+x*y)/18446744073709551616)=aD 18446744073709551616 O+18446744073709551616^i*(x*aD 18446744073709551616 ((wg b).take (k+1))):=by
      rw[htb,show i+(k+1)=i+k+1 by omega,hst]
      have e:18446744073709551616^i*(x*(aD 18446744073709551616 ((wg b).take k)+18446744073709551616^k*y))=18446744073709551616^i*(x*aD 18446744073709551616 ((wg b).take k))+18446744073709551616^(i+k)*(x*y):=by
       rw[aj0,aj0,ako]
       congr 1
       rw[akZ x,←ajZ]
      rw[e];generalize 18446744073709551616^(i+k)*c=A1 at*
      generalize 18446744073709551616^(i+k)*(x*y)=A2 at*
      generalize 18446744073709551616^i*(x*aD 18446744073709551616 ((wg b).take k))=A3 at*
      omega
     have hset:=fT U (i+k) ((u+c+x*y)%18446744073709551616);have hlen2:(U.set (i+k) ((u+c+x*y)%18446744073709551616)).length=(wg a).length+(wg b).length:=by rw[ajR,hU]
     have hall:=eB (B:=18446744073709551616) (x:=(u+c+x*y)%18446744073709551616) (i:=i+k) hUl (ajI _ zd)
     have hz2:∀j,i+(wg b).length≤j→(U.set (i+k) ((u+c+x*y)%18446744073709551616)).getD j 0=0:=fun j hj=>by
      rw[ajk,akt zo,←ajk];exact hzU j hj
     have hm64:=rB (x:=x) (y:=y) hxa hxb;generalize x*y=p at*
     generalize hsd:(u+c+p)%18446744073709551616=s at*
     generalize hcd:(u+c+p)/18446744073709551616=c' at*
     refine br hgb ?_;refine aB (hm64) rfl rfl ?_;refine ej hgu hik ?_;refine fN (c:=0) Tryz.func205 zk zk zk zk zo ?_;have hs1:(p%18446744073709551616+u+0)/18446744073709551616≤1:=by omega
     generalize (p%18446744073709551616+u+0)/18446744073709551616=c1 at*
     generalize (p%18446744073709551616+u+0)%18446744073709551616=l1 at*
     have hq1:((p/18446744073709551616:Nat):Int)+(c1:Int)=((p/18446744073709551616+c1:Nat):Int):=by omega
     refine br hq1 ?_;refine fN (c:=0) Tryz.func205 zk zk zk zk zo ?_;rw[hd1];generalize (l1+c+0)/18446744073709551616=c2 at*
     have hq2:((p/18446744073709551616+c1:Nat):Int)+(c2:Int)=(c':Int):=by omega
     refine Kh hik hq1 hq2 hset ?_;refine aM (k+1,c',U.set (i+k) s) [some 0,some 1,some 2,some 3] ⟨by simp only;omega,hd3,hlen2,hall,hinv,hz2⟩ (by simp only;omega)
   · obtain rfl:k=(wg b).length:=by omega
     have hfull:(wg b).take (wg b).length=wg b:=ajy (ajp _);rw[hfull,hbv] at hw;have hset:=fT U (i+(wg b).length) c;have hlen2:(U.set (i+(wg b).length) c).length=(wg a).length+(wg b).length:=by rw[ajR,hU]
     have hall:=eB (B:=18446744073709551616) (x:=c) (i:=i+(wg b).length) hUl hc
     have hz2:∀j,i+1+(wg b).length≤j→(U.set (i+(wg b).length) c).getD j 0=0:=fun j hj=>by
      rw[ajk,akt zo,←ajk];exact hzU j zo
     have hvs:=rK (B:=18446744073709551616) (l:=U) (i:=i+(wg b).length) (x:=c) zo;rw[hzU _ (ajp _),alB,aky,hw,hv] at hvs;have hik:((i:Int)+((wg b).length:Int)).toNat=i+(wg b).length:=by omega
     have hik2:((i:Int)+((nl (wg b)).length:Int)).toNat=i+(wg b).length:=by omega
     refine qZ hik hik2 hset ?_;refine aM (i+1,U.set (i+(wg b).length) c) [some 0,some 1,some 2,some 3] ⟨by simp only;omega,hlen2,hall,by simp only;rw[hvs,hti,ajG,ajZ],hz2⟩ (by simp only;omega)
 · have hfull:(wg a).take i=wg a:=ajy zo
   rw[hfull,hav] at hv;refine ae ?_;refine aF [] [3] (dy (l:=O) hOl zo) ?_;rw[hv];exact zE [] hQ
theorem IE {u d y1 y0:Nat} (hd:d<4294967296) (hy:0<y1):(u*4294967296+d)/(y1*4294967296+y0)≤u/y1:=by
 rw[akL hy];have h:=alV (u*4294967296+d) (y1*4294967296+y0);generalize (u*4294967296+d)/(y1*4294967296+y0)=Q at*
 rw[aj0,←ajZ] at h;generalize Q*y1=a at*
 generalize Q*y0=b at*
 omega
theorem AF {u y1 y0:Nat} (hy1:2147483648≤y1) (hy0:y0<4294967296) (hu:u<y1*4294967296+y0):u/y1≤4294967297:=by
 have h:=alV u y1;refine Classical.byContradiction fun hn=>?_;have h2:=ajP y1 (show 4294967298≤u/y1 by omega);omega
theorem Gd {u d y1 y0 q r:Nat} (hd:d<4294967296) (hu:u<y1*4294967296+y0) (hi:q*y1+r=u) (hq:(u*4294967296+d)/(y1*4294967296+y0)≤q) (hc:4294967296≤q∨4294967296*r+d<q*y0):
 0<q∧(u*4294967296+d)/(y1*4294967296+y0)≤q-1∧(q-1)*y1+(r+y1)=u:=by
 have hy:0<y1*4294967296+y0:=by omega
 have hlt:(u*4294967296+d)/(y1*4294967296+y0)<q:=by
  rw[ajX hy];rcases hc with hc | hc
  · have h1:4294967296*(y1*4294967296+y0)≤q*(y1*4294967296+y0):=ajP _ hc
    omega
  · rw[aj0,←ajZ]
    generalize q*y1=a at*
    generalize q*y0=b at*
    omega
 have hq0:0<q:=aj9 (ajH _) hlt;obtain ⟨k,rfl⟩:∃k,q=k+1:=⟨q-1,by omega⟩;rw[akW];rw[ajG,akH] at hi;exact⟨hq0,al5 hlt,by omega⟩
theorem tI {u d y1 y0 q r:Nat} (hy:0<y1*4294967296+y0) (hi:q*y1+r=u) (hq:(u*4294967296+d)/(y1*4294967296+y0)≤q) (hc:q*y0≤4294967296*r+d):
 q=(u*4294967296+d)/(y1*4294967296+y0):=by
 refine Nat.le_antisymm ?_ hq;rw[akL hy,aj0,←ajZ];generalize q*y1=a at*
 generalize q*y0=b at*
 omega
theorem zY {u d y1 y0 q r:Nat} (hy:0<y1*4294967296+y0) (hy0:y0<4294967296) (hi:q*y1+r=u) (hq:(u*4294967296+d)/(y1*4294967296+y0)≤q) (hq2:q≤4294967296) (hr:4294967296≤r):
 q=(u*4294967296+d)/(y1*4294967296+y0):=by
 refine tI hy hi hq ?_
 have:=ajO hq2 (show y0≤4294967295 by omega)
 omega
theorem Q3 {b N2 un1 un0 Y:Nat} (hY:0<Y) (hu:N2<Y) (h1:un1<b) (h0:un0<b):
 (N2*b+un1)/Y*b+((N2*b+un1)%Y*b+un0)/Y=((N2*b+un1)*b+un0)/Y∧
 ((N2*b+un1)%Y*b+un0)%Y=((N2*b+un1)*b+un0)%Y∧
 (N2*b+un1)/Y<b∧((N2*b+un1)%Y*b+un0)/Y<b:=by
 have key:∀x z:Nat,x<Y→z<b→(x*b+z)/Y<b:=fun x z hx hz=>by
  rw[ajX hY]
  have:=ajP b (show x+1≤Y from hx)
  rw[ajG,akH] at this;rw[ajJ b Y];omega
 have e1:=ajT (N2*b+un1) Y;have l1:=ajI (N2*b+un1) hY;have q1:=key N2 un1 hu h1;generalize hA:N2*b+un1=A at*
 generalize A/Y=Q1 at*
 generalize A%Y=R1 at*
 have e2:=ajT (R1*b+un0) Y;have l2:=ajI (R1*b+un0) hY;have q2:=key R1 un0 l1 h0;generalize hC:R1*b+un0=C at*
 generalize C/Y=Q0 at*
 generalize C%Y=R0 at*
 have hs:R0+Y*(Q1*b+Q0)=A*b+un0:=by
  rw[aj0,←ajZ,←e1,ajG];omega
 have hdm:=(Nat.div_mod_unique hY (a:=A*b+un0) (c:=R0) (d:=Q1*b+Q0)).2 ⟨hs,l2⟩;exact⟨hdm.1.symm,hdm.2.symm,q1,q2⟩
theorem uN {a y s:Nat} (hy:0<y):a*2^s/(y*2^s)=a/y∧a*2^s%(y*2^s)=a%y*2^s:=by
 have hp:0<2^s:=ajV zd;exact⟨Nat.mul_div_mul_right _ _ hp,alH _ _ _⟩
theorem yo {hi lo y s:Nat} (hs:s≤63) (hlo:lo<18446744073709551616) (hhi:hi<y) (hy:y*2^s<18446744073709551616):
 (hi*2^s+lo/2^(64-s))*18446744073709551616+lo*2^s%18446744073709551616=(hi*18446744073709551616+lo)*2^s∧
 hi*2^s+lo/2^(64-s)<y*2^s∧lo/2^(64-s)<2^s:=by
 have e:(18446744073709551616:Nat)=2^(64-s)*2^s:=by rw[←ako,show 64-s+s=64 by omega]
 have hp:0<2^s:=ajV zd;have hq:0<2^(64-s):=ajV zd;have hmm:lo*2^s%18446744073709551616=lo%2^(64-s)*2^s:=by rw[e,alH]
 have hl:lo/2^(64-s)<2^s:=by rw[ajX hq,ajJ,←e];exact hlo
 refine⟨?_,?_,hl⟩
 · rw[hmm]
   have h:=ajT lo (2^(64-s));generalize lo/2^(64-s)=a at*
   generalize lo%2^(64-s)=b at*
   rw[←h,ajG,e];generalize 2^s=S at*
   generalize 2^(64-s)=T at*
   simp only[ajG,aj0,ajZ,ajJ,akZ,aj8,akS,Nat.add_left_comm]
 · have:=ajP (2^s) (show hi+1≤y from hhi)
   rw[ajG,akH] at this;omega
theorem LI {y:Nat} (h0:0<y) (h:y<18446744073709551616):64-bl y≤63∧bl y≤64∧9223372036854775808≤y*2^(64-bl y)∧y*2^(64-bl y)<18446744073709551616:=by
 have h1:=bP (n:=y) (k:=64) zo;have h2:=jH (n:=y) zo;have h3:=pd (n:=y) zo;have h4:=jY y;refine⟨by omega,h1,?_,?_⟩
 · have:=ajP (2^(64-bl y)) h3
   rw[←ako,show bl y-1+(64-bl y)=63 by omega] at this;exact this
 · have:=alE h4 (show 0<2^(64-bl y) from ajV zd)
   rw[←ako,show bl y+(64-bl y)=64 by omega] at this;exact this
def fw (B:Nat):Nat→Nat→List Nat
 | 0,_=> []
 | k+1,v=>v%B::fw B k (v/B)
theorem cI {B:Nat}:∀k v,(fw B k v).length=k
 | 0,_=>rfl
 | k+1,v=>by show(fw B k (v/B)).length+1=_;rw[cI k]
theorem pg {B:Nat} (hB:0<B):∀k v,∀d∈fw B k v,d<B
 | 0,_,d,hd=>by simp[fw] at hd
 | k+1,v,d,hd=>by
   rcases ajC.1 hd with rfl | hd
   · exact ajI _ hB
   · exact pg hB k _ d hd
theorem ku {B:Nat} (hB:0<B):∀k v,aD B (fw B k v)=v%B^k
 | 0,v=>by rw[alQ,Nat.mod_one];rfl
 | k+1,v=>by
   show v%B+B*aD B (fw B k (v/B))=_;rw[ku hB k,ajS,ajJ (B^k),Nat.mod_mul]
theorem Il {B:Nat}:∀{l:List Nat},(∀d∈l,d<B)→fw B l.length (aD B l)=l
 | [],_=>rfl
 | d::l,h=>by
   have hd:=h d (by simp);have ih:=Il (l:=l) (fun x hx=>h x (by simp[hx]))
   show(d+B*aD B l)%B::fw B l.length ((d+B*aD B l)/B)=_
   rw[Nat.add_mul_mod_self_left,ajL hd,alr _ _ zo,akG hd,ajU,ih]
theorem xR {B k v:Nat} {l:List Nat} (h:∀d∈l,d<B) (hk:l.length=k) (hv:aD B l=v):fw B k v=l:=by rw[←hk,←hv];exact Il h
theorem jI {B:Nat}:∀a b v,fw B (a+b) v=fw B a v++fw B b (v/B^a)
 | 0,b,v=>by rw[ajU,alQ,Nat.div_one];rfl
 | a+1,b,v=>by
   rw[show a+1+b=(a+b)+1 by omega];show v%B::fw B (a+b) (v/B)=v%B::(fw B a (v/B)++fw B b (v/B^(a+1)));rw[jI a b,ajS,ajJ,akp]
theorem Bu {B:Nat} (hB:0<B):∀k v,fw B k (v%B^k)=fw B k v
 | 0,_=>rfl
 | k+1,v=>by
   show v%B^(k+1)%B::fw B k (v%B^(k+1)/B)=v%B::fw B k (v/B);rw[ajS,Nat.mod_mul_left_mod,ajJ,Nat.mod_mul_right_div_self,Bu hB k]
theorem iS {B:Nat}:∀{k i} (v:Nat),i<k→(fw B k v).getD i 0=v/B^i%B
 | 0,_,_,h=>absurd h (Nat.not_lt_zero _)
 | k+1,0,v,_=>by simp[fw]
 | k+1,i+1,v,h=>by
   show(fw B k (v/B)).getD i 0=_
   rw[iS (v/B) zo,ajS,ajJ (B^i),akp]
def iY (P N T:List Nat):List Nat:=P++(N++T.drop N.length)
theorem ni (P T:List Nat):iY P [] T=P++T:=rfl
theorem n7 {P N T:List Nat} (h:N.length≤T.length):(iY P N T).length=P.length+T.length:=by unfold iY;simp;omega
theorem nA {P N T:List Nat} {i:Nat} (h:N.length≤i) (hi:i<T.length):(iY P N T).getD (P.length+i) 0=T.getD i 0:=by
 unfold iY;rw[ajk,ajx zo,ajx zo,akc,ajk]
 congr 2
 omega
theorem vE {P N T:List Nat} {x:Nat} (h:N.length<T.length):(iY P N T).set (P.length+N.length) x=iY P (N++[x]) T:=by
 unfold iY;rw[alI (h:=by omega),Nat.add_sub_cancel_left,alI (h:=ajp _),akz,akm h,alp,ajj,akw,ajq]
 rfl
theorem Hg {U D P:Nat} (hP:0<P) (h:0<D/P):U/D≤U/P/(D/P):=by
 rw[akL h,akL hP];have h1:=alV D P;have h2:=alV U D;have h3:=akk (U/D) h1;rw[←ajZ] at h3;exact ajD h3 h2
theorem agt {B n U D:Nat} (hB:0<B) (hn:0<n) (hU:U<B^(n+1)) (hD:D<B^n):
 U/B^n%B=U/B^n∧D/B^(n-1)%B=D/B^(n-1)∧U/B^n*B+U/B^(n-1)%B=U/B^(n-1):=by
 obtain ⟨m,rfl⟩:∃m,n=m+1:=⟨n-1,by omega⟩;rw[akW];refine⟨?_,?_,?_⟩
 · refine ajL ?_
   rw[ajX (ajV hB),ajJ,←ajS];exact hU
 · refine ajL ?_
   rw[ajX (ajV hB),ajJ,←ajS];exact hD
 · rw[show U/B^(m+1)=U/B^m/B by rw[ajS,akp],ajJ,ajT]
theorem DD {U D Q X V g:Nat} (hQ:Q=U/D) (h:V+g*D=U+X) (hg:g=Q+1):V+D=U%D+X:=by
 have:=ajT U D
 subst hg;rw[ajG,akH] at h;rw[←hQ,ajJ] at this;omega
theorem DF {U D X V g:Nat} (hD:0<D) (hQ:U/D+1<g) (h:V+g*D=U+X):V+D<X∧(V+D)+(g-1)*D=U+X:=by
 obtain ⟨k,rfl⟩:∃k,g=k+1:=⟨g-1,by have:=ajH (U/D);omega⟩;rw[akW];rw[ajG,akH] at h
 have h1:U<k*D:=by
  rw[←ajX hD];omega
 exact⟨by omega,by omega⟩
theorem GD {B n U D V g:Nat} (hB:0<B) (hD:D<B^n) (hg:g<B) (h:V+g*D=U+B^(n+1)):B^n≤V:=by
 have h1:g*D≤(B-1)*B^n:=ajO zo (al6 hD)
 have h2:B^(n+1)=(B-1)*B^n+B^n:=by
  obtain ⟨k,rfl⟩:∃k,B=k+1:=⟨B-1,by omega⟩;rw[akW,ajS,ajJ,ajG,akH]
 omega
def dO (B A D k:Nat):Nat:=A/B^k%D*B^k+A%B^k
theorem qB {B A D i:Nat} (hB:0<B):dO B A D (i+1)/B^i=A/B^(i+1)%D*B+A/B^i%B:=by
 unfold dO;have hP:0<B^i:=ajV hB;have e:A%B^(i+1)=A%B^i+B^i*(A/B^i%B):=Nat.mod_pow_succ;rw[e,ajS];generalize A/(B^i*B)%D=r;have hm:=ajI A hP;generalize A%B^i=x at*
 generalize A/B^i%B=y at*
 have e2:r*(B^i*B)+(x+B^i*y)=x+B^i*(r*B+y):=by
  rw[akZ r,aj0,Nat.add_left_comm]
 rw[e2,alr _ _ hP,akG hm,ajU]
theorem H0 {B A D i:Nat} (hB:0<B):dO B A D (i+1)%B^i=A%B^i:=by
 unfold dO;have e:A%B^(i+1)=A%B^i+B^i*(A/B^i%B):=Nat.mod_pow_succ;rw[e,ajS];generalize A/(B^i*B)%D=r;generalize hy:A/B^i%B=y;have hx:=Nat.mod_mod A (B^i);generalize A%B^i=x at*
 have e2:r*(B^i*B)+(x+B^i*y)=x+B^i*(r*B+y):=by
  rw[akZ r,aj0,Nat.add_left_comm]
 rw[e2,Nat.add_mul_mod_self_left,hx]
theorem Lb {B A D i:Nat} (hB:0<B) (hD:0<D):dO B A D (i+1)/B^i<D*B:=by
 rw[qB hB];have h1:=ajI (A/B^(i+1)) hD;have h2:=ajI (A/B^i) hB;generalize A/B^(i+1)%D=r at*
 generalize A/B^i%B=y at*
 have:=ajP B (show r+1≤D from h1)
 rw[ajG,akH] at this;omega
theorem sJ {B A i:Nat} (hB:0<B):A/B^i=A/B^(i+1)*B+A/B^i%B:=by
 rw[ajS,←akp,Nat.div_add_mod']
theorem Eh {B A D i:Nat} (hB:0<B):dO B A D (i+1)/B^i%D*B^i+A%B^i=dO B A D i:=by
 rw[qB hB];unfold dO
 congr 2
 conv=>rhs;rw[sJ (i:=i) (A:=A) hB]
 have h:=ajT (A/B^(i+1)) D;generalize A/B^i%B=y;generalize A/B^(i+1)%D=r at*
 generalize A/B^(i+1)/D=q at*
 rw[←h,ajG,aj8,ajZ,Nat.mul_add_mod]
theorem IG {B A D i:Nat} (hB:0<B) (hD:0<D):dO B A D (i+1)/B^i/D+B*(A/B^(i+1)/D)=A/B^i/D:=by
 rw[qB hB]
 conv=>rhs;rw[sJ (i:=i) (A:=A) hB]
 have h:=ajT (A/B^(i+1)) D;generalize A/B^i%B=y;generalize A/B^(i+1)%D=r at*
 generalize A/B^(i+1)/D=q at*
 rw[←h,ajG,aj8,ajZ,Nat.mul_add_div hD,ajJ q B,akS]
theorem Af {B A D k:Nat} (h:A/B^k<D):dO B A D k=A∧A/B^k/D=0:=by
 unfold dO;rw[ajL h,akG h,ajJ,ajT];exact⟨rfl,rfl⟩
theorem EE {B A D:Nat}:dO B A D 0=A%D:=by
 unfold dO;rw[alQ,Nat.div_one,Nat.mod_one,ak6,aky]
theorem Aq {B V i n e:Nat}:fw B (i+(n+1+e)) V=fw B i V++(fw B (n+1) (V/B^i)++fw B e (V/B^i/B^(n+1))):=by
 rw[jI,jI]
theorem Dx {B V W i n e:Nat} (hB:0<B) (hV:V/B^i<B^(n+1)) (hW:W<B^(n+1)):
 fw B i V++(fw B (n+1) W++fw B e (V/B^i/B^(n+1)))=fw B (i+(n+1+e)) (W*B^i+V%B^i):=by
 have hP:0<B^i:=ajV hB;rw[jI i,jI (n+1)]
 have e1:fw B i (W*B^i+V%B^i)=fw B i V:=by
  rw[←Bu hB i (W*B^i+V%B^i),ajJ,Nat.mul_add_mod,Nat.mod_mod,Bu hB]
 have e2:(W*B^i+V%B^i)/B^i=W:=by
  rw[ajJ,Nat.mul_add_div hP,akG (ajI _ hP),aky]
 rw[e1,e2,akG hV,akG hW]
theorem HH {l:List Nat} {i B:Nat} (h:i<l.length):aD B (l.drop i)=l.getD i 0+B*aD B (l.drop (i+1)):=by
 rw[akm h];have e:l.getD i 0=l[i]:=by simp[ajk,h]
 rw[e]
 rfl
theorem set_drop {l:List Nat} {i x:Nat} (h:i<l.length):(l.set i x).drop i=x::l.drop (i+1):=by
 rw[akm (by simpa using h),List.getElem_set_self,alw zo]
end Go.Proofs.YtcnlmelpnflhnaaGreat
