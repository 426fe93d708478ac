import Derived.Test.YtcnlmelpnflhnaaGreatRa
import Derived.Test.YtcnlmelpnflhnaaGreatE8
import Derived.Test.YtcnlmelpnflhnaaGreatE6
import Derived.Test.YtcnlmelpnflhnaaGreatN1
namespace Go.Proofs.YtcnlmelpnflhnaaGreat
open Go.Eng
set_option linter.unusedSimpArgs false
set_option linter.unusedVariables false
theorem Dd (x1 x0 y1 y0 K:Nat):(K*x1+x0)*(K*y1+y0)=K*K*(x1*y1)+K*(x1*y0+x0*y1)+x0*y0:=by
 rw[agH,ag1,ag1,ag1];have e1:K*x1*(K*y1)=K*K*(x1*y1):=by simp only[agZ,ahZ]
 have e2:K*x1*y0=K*(x1*y0):=by rw[agZ]
 have e3:x0*(K*y1)=K*(x0*y1):=by rw[ahZ]
 rw[e1,e2,e3];omega
theorem NY {x y:Nat} (hx:x<18446744073709551616) (hy:y<18446744073709551616):
 x/4294967296*(y/4294967296)+(x/4294967296*(y%4294967296)+x%4294967296*(y%4294967296)/4294967296)/4294967296+((x/4294967296*(y%4294967296)+x%4294967296*(y%4294967296)/4294967296)%4294967296+x%4294967296*(y/4294967296))/4294967296=x*y/18446744073709551616:=by
 have h:=Dd (x/4294967296) (x%4294967296) (y/4294967296) (y%4294967296) 4294967296;rw[agT,agT] at h;rw[h];generalize x/4294967296*(y/4294967296)=p;generalize x/4294967296*(y%4294967296)=q;generalize x%4294967296*(y/4294967296)=r;generalize x%4294967296*(y%4294967296)=s;omega
def pr:Nat:=2305843009213693951
theorem abJ (x:Nat):(x%2305843009213693952+x/2305843009213693952)%2305843009213693951=x%2305843009213693951:=by
 omega
def S4 (p:Nat):Prop:=2≤p∧∀d,d∣p→d=1∨d=p
theorem S4.dvd_mul {p a b:Nat} (hp:S4 p) (h:p∣a*b):p∣a∨p∣b:=by
 rcases hp.2 (Nat.gcd p a) (aiO p a) with h1 | h1
 · exact .inr (Nat.Coprime.dvd_of_dvd_mul_left h1 h)
 · exact .inl (h1▸Nat.gcd_dvd_right p a)
def g9:Nat→Nat→Nat
 | _,0=>1
 | 0,_+1=>0
 | n+1,k+1=>g9 n k+g9 n (k+1)
theorem tU:∀n k,n<k→g9 n k=0
 | 0,0,h=>by omega
 | 0,_+1,_=>rfl
 | n+1,0,h=>by omega
 | n+1,k+1,h=>by
   show g9 n k+g9 n (k+1)=0;rw[tU n k zo,tU n (k+1) zo]
theorem He:∀n,g9 n n=1
 | 0=>rfl
 | n+1=>by
   show g9 n n+g9 n (n+1)=1;rw[He n,tU n (n+1) zo]
theorem tW:∀n k,(k+1)*g9 (n+1) (k+1)=(n+1)*g9 n k
 | 0,0=>rfl
 | 0,k+1=>by
   show(k+2)*(g9 0 (k+1)+g9 0 (k+2))=1*g9 0 (k+1)
   simp[g9]
 | n+1,0=>by
   have:=tW n 0
   show 1*(g9 (n+1) 0+g9 (n+1) 1)=(n+2)*g9 (n+1) 0
   have e:g9 (n+1) 1=n+1:=by
    have h:1*g9 (n+1) 1=(n+1)*g9 n 0:=this
    cases n<;>simp[g9] at h ⊢<;>omega
   have e0:g9 (n+1) 0=1:=rfl;rw[e,e0];omega
 | n+1,k+1=>by
   have h1:=tW n k;have h2:=tW n (k+1)
   show(k+2)*(g9 (n+1) (k+1)+g9 (n+1) (k+2))=(n+2)*(g9 n k+g9 n (k+1))
   have e:g9 (n+1) (k+1)=g9 n k+g9 n (k+1):=rfl;rw[ag1,h2,show k+2=(k+1)+1 from rfl,agH,h1,e,ag1,ahH,show n+2=(n+1)+1 from rfl,agH (n+1),ahH,ag1];omega
def eL (f:Nat→Nat):Nat→Nat
 | 0=>0
 | n+1=>eL f n+f n
theorem p5 {f g:Nat→Nat}:∀n,(∀i,i<n→f i=g i)→eL f n=eL g n
 | 0,_=>rfl
 | n+1,h=>by
   show eL f n+f n=eL g n+g n;rw[p5 n (fun i hi=>h i zo),h n zo]
theorem lD (f:Nat→Nat):∀n,eL f (n+1)=f 0+eL (fun i=>f (i+1)) n
 | 0=>by simp[eL]
 | n+1=>by
   show eL f (n+1)+f (n+1)=f 0+(eL (fun i=>f (i+1)) n+f (n+1));rw[lD f n];omega
theorem vT (f g:Nat→Nat):∀n,eL (fun i=>f i+g i) n=eL f n+eL g n
 | 0=>rfl
 | n+1=>by
   show eL (fun i=>f i+g i) n+(f n+g n)=eL f n+f n+(eL g n+g n);rw[vT f g n];omega
theorem wY (a:Nat) (f:Nat→Nat):∀n,eL (fun i=>a*f i) n=a*eL f n
 | 0=>rfl
 | n+1=>by
   show eL (fun i=>a*f i) n+a*f n=a*(eL f n+f n);rw[wY a f n,ag1]
theorem Sv (a:Nat):∀n,(a+1)^n=eL (fun k=>g9 n k*a^k) (n+1)
 | 0=>by simp[eL,g9]
 | n+1=>by
   rw[agS,Sv a n,ag1,aid,lD (fun k=>g9 (n+1) k*a^k) (n+1)]
   have e1:eL (fun i=>g9 (n+1) (i+1)*a^(i+1)) (n+1)=eL (fun i=>a*(g9 n i*a^i)+g9 n (i+1)*a^(i+1)) (n+1):=p5 _ fun i _=>by
    show(g9 n i+g9 n (i+1))*a^(i+1)=_
    rw[agH,agS,agK a,agZ]
   have e2:eL (fun k=>g9 n k*a^k) (n+1)=1+eL (fun i=>g9 n (i+1)*a^(i+1)) n:=by
    rw[lD]
    cases n<;>simp[g9]
   have e3:eL (fun i=>g9 n (i+1)*a^(i+1)) (n+1)=eL (fun i=>g9 n (i+1)*a^(i+1)) n:=by
    show _+g9 n (n+1)*_=_;rw[tU n (n+1) zo];simp
   rw[e1,vT,wY,e3];have e4:g9 (n+1) 0*a^0=1:=by simp[g9]
   rw[e4,agK _ a];omega
theorem HD {p:Nat} {f:Nat→Nat}:∀n,(∀i,i<n→p∣f i)→p∣eL f n
 | 0,_=>Nat.dvd_zero _
 | n+1,h=>Nat.dvd_add (HD n fun i hi=>h i zo) (h n zo)
def pwm (a m:Nat):Nat→Nat→Nat
 | 0,_=>1%m
 | f+1,e=>if e=0 then 1%m else let h:=pwm a m f (e/2);if e%2=1 then h*h%m*a%m else h*h%m
def VN (q:Nat):Nat→Bool
 | 0=>true
 | 1=>true
 | 2=>true
 | d+1=>(q%d !=0)&&VN q d
open Go.Eng Go.Vx
set_option maxRecDepth 100000
theorem p8 {x y:Nat} (hx:x<18446744073709551616) (hy:y<18446744073709551616):aC Tryz.prog 193 [.lit (.int .u64 x),.lit (.int .u64 y)] [] (.tup [.lit (.int .u64 ((x*y/18446744073709551616:Nat):Int)),.lit (.int .u64 ((x*y%18446744073709551616:Nat):Int))]) []:=by
 refine zF pl Tryz.call193 Tryz.func193 [.tmp 4,.tmp 5] fun Q hQ=>?_;have hhi:=NY hx hy;have hlo:=w8 (x*y);rw[show(2:Nat)^64=18446744073709551616 from rfl] at hlo;have hxy:(x:Int)*(y:Int)=((x*y:Nat):Int):=by simp
 have e1:(x:Int)%4294967296=((x%4294967296:Nat):Int):=by omega
 have e2:(x:Int)/4294967296=((x/4294967296:Nat):Int):=by omega
 have e3:(y:Int)%4294967296=((y%4294967296:Nat):Int):=by omega
 have e4:(y:Int)/4294967296=((y/4294967296:Nat):Int):=by omega
 have l1:x%4294967296≤4294967295:=by omega
 have l2:x/4294967296≤4294967295:=by omega
 have l3:y%4294967296≤4294967295:=by omega
 have l4:y/4294967296≤4294967295:=by omega
 have p1:=agQ l1 l3;have p2:=agQ l1 l4;have p3:=agQ l2 l3;have p4:=agQ l2 l4;generalize x%4294967296=x0 at*
 generalize x/4294967296=x1 at*
 generalize y%4294967296=y0 at*
 generalize y/4294967296=y1 at*
 have m1:(x0:Int)*(y0:Int)=((x0*y0:Nat):Int):=by simp
 have m2:(x1:Int)*(y0:Int)=((x1*y0:Nat):Int):=by simp
 have m3:(x0:Int)*(y1:Int)=((x0*y1:Nat):Int):=by simp
 have m4:(x1:Int)*(y1:Int)=((x1*y1:Nat):Int):=by simp
 generalize x0*y0=s at*
 generalize x1*y0=q at*
 generalize x0*y1=r at*
 generalize x1*y1=p at*
 generalize x*y=z at*
 have d1:(s:Int)/4294967296=((s/4294967296:Nat):Int):=by omega
 have d2:((q:Int)+((s/4294967296:Nat):Int))%4294967296=(((q+s/4294967296)%4294967296:Nat):Int):=by omega
 have d3:((q:Int)+((s/4294967296:Nat):Int))/4294967296=(((q+s/4294967296)/4294967296:Nat):Int):=by omega
 have d4:((((q+s/4294967296)%4294967296:Nat):Int)+(r:Int))/4294967296=((((q+s/4294967296)%4294967296+r)/4294967296:Nat):Int):=by omega
 have d5:(p:Int)+(((q+s/4294967296)/4294967296:Nat):Int)+((((q+s/4294967296)%4294967296+r)/4294967296:Nat):Int)=((z/18446744073709551616:Nat):Int):=by omega
 have hz:z/18446744073709551616<18446744073709551616:=by omega
 simp(maxSteps:=1000000) (disch:=(first | omega | (simp only[dm,agr,ags,true_and,and_true];(try omega);done) | fail)) only[go_sem,hxy,hlo,e1,e2,e3,e4,m1,m2,m3,m4,d1,d2,d3,d4,d5,Int.reduceEq,Int.reduceToNat,Nat.reduceAdd,Nat.reduceMul,Nat.reduceEqDiff, ↓reduceIte]
 exact ak [] hQ
theorem C4 {p u c:Nat} (hp:p≤18446744073709551615*18446744073709551615) (hu:u<18446744073709551616) (hc:c<18446744073709551616):
 ((p%18446744073709551616+u+0)%18446744073709551616+c+0)%18446744073709551616=(u+c+p)%18446744073709551616∧
 p/18446744073709551616+(p%18446744073709551616+u+0)/18446744073709551616+((p%18446744073709551616+u+0)%18446744073709551616+c+0)/18446744073709551616=(u+c+p)/18446744073709551616∧
 (u+c+p)/18446744073709551616<18446744073709551616:=by
 have e:18446744073709551615*18446744073709551615=340282366920938463426481119284349108225:=by decide
 rw[e] at hp;refine⟨?_,?_,?_⟩<;>omega
set_option maxHeartbeats 4000000 in
theorem z7 {a b:Nat} (ha:(wg a).length≤1000000) (hb:(wg b).length≤1000000):aC Tryz.prog 198 [NV a,NV b] [] (NV (a*b)) []:=by
 refine zF pl Tryz.call198 Tryz.func198 [.cell 4 157] fun Q hQ=>?_;have hal:=eB a;have hbl:=eB b;have hav:=dU a;have hbv:=dU b;have hnA:=aD (wg a);have hnB:=aD (wg b);refine ae ?_
 refine aM (X:=Nat×List Nat) (st:=fun z=>([(2,.ref 0 0 0 0),(3,.ref 1 0 0 0),(4,.ref 2 0 0 0),(5,.sl 3 1 0 ((wg a).length+(wg b).length)),(23,.row 1 ((nl (wg a)).map (ie .u64))),(24,.lit (.int .i64 ((wg a).length:Int))),(25,.lit (.int .i64 (z.1:Int)))],
  [some (.cells [.row 1 ((nl (wg a)).map (ie .u64))]),some (.cells [.row 1 ((nl (wg b)).map (ie .u64))]),some (.cells [.lit (.slice none 0 0)]),some (.row 1 ((nl z.2).map (ie .u64)))]))
  (inv:=fun z=>z.1≤(wg a).length∧z.2.length=(wg a).length+(wg b).length∧(∀d∈z.2,d<18446744073709551616)∧aA 18446744073709551616 z.2=aA 18446744073709551616 ((wg a).take z.1)*b∧∀j,z.1+(wg b).length≤j→z.2.getD j 0=0)
  (m:=fun z=>(wg a).length-z.1) (0,List.replicate ((wg a).length+(wg b).length) 0) [some 0,some 1,some 2,some 3] rfl (by simp only[←lB];exact zM) zM
  ⟨by simp,by simp,fun d hd=>by rw[aib hd];decide,by simp[qJ,aA],fun j _=>by rw[ago,aiV];split<;>rfl⟩ ?_
 rintro ⟨i,O⟩ ⟨hi,hO,hOl,hv,hz0⟩;simp only at hi hO hOl hv hz0 ⊢;have hnO:=aD O
 by_cases h1:i<(wg a).length
 · have hxa:=cv zd hal i
   have hga:=bg (wg a) i;have hti:=cL (B:=18446744073709551616) (wg a) i;obtain ⟨x,hx⟩:∃x,(wg a).getD i 0=x:=⟨_,rfl⟩;rw[hx] at hxa hga hti;refine bh hga ?_
   refine aU (X:=Nat×Nat×List Nat) (st:=fun z=>([(2,.ref 0 0 0 0),(3,.ref 1 0 0 0),(4,.ref 2 0 0 0),(5,.sl 3 1 0 ((wg a).length+(wg b).length)),(23,.row 1 ((nl (wg a)).map (ie .u64))),(24,.lit (.int .i64 ((wg a).length:Int))),(25,.lit (.int .i64 (i:Int))),
    (6,.lit (.int .i64 (i:Int))),(7,.lit (.int .u64 (x:Int))),(8,.lit (.int .u64 (z.2.1:Int))),(31,.row 1 ((nl (wg b)).map (ie .u64))),(32,.lit (.int .i64 ((wg b).length:Int))),(33,.lit (.int .i64 (z.1:Int)))],
    [some (.cells [.row 1 ((nl (wg a)).map (ie .u64))]),some (.cells [.row 1 ((nl (wg b)).map (ie .u64))]),some (.cells [.lit (.slice none 0 0)]),some (.row 1 ((nl z.2.2).map (ie .u64)))]))
    (inv:=fun z=>z.1≤(wg b).length∧z.2.1<18446744073709551616∧z.2.2.length=(wg a).length+(wg b).length∧(∀d∈z.2.2,d<18446744073709551616)∧aA 18446744073709551616 z.2.2+18446744073709551616^(i+z.1)*z.2.1=aA 18446744073709551616 O+18446744073709551616^i*(x*aA 18446744073709551616 ((wg b).take z.1))∧∀j,i+(wg b).length≤j→z.2.2.getD j 0=0)
    (m:=fun z=>(wg b).length-z.1) (0,0,O) [some 0,some 1,some 2,some 3] ⟨by simp,by simp,hO,hOl,by simp[aA],hz0⟩ ?_
   rintro ⟨k,c,U⟩ ⟨hk,hc,hU,hUl,hw,hzU⟩;simp only at hk hc hU hUl hw hzU ⊢;have hnU:=aD U
   by_cases hkb:k<(wg b).length
   · have hxb:=cv zd hbl k
     have hxu:=cv zd hUl (i+k);have hgb:=bg (wg b) k;have hgu:=bg U (i+k);have htb:=cL (B:=18446744073709551616) (wg b) k;have hik:((i:Int)+(k:Int)).toNat=i+k:=by omega
     obtain ⟨y,hy⟩:∃y,(wg b).getD k 0=y:=⟨_,rfl⟩;rw[hy] at hxb hgb htb;obtain ⟨u,hu⟩:∃u,U.getD (i+k) 0=u:=⟨_,rfl⟩;have hxy:x*y≤18446744073709551615*18446744073709551615:=agQ zo zo;have hst:=CK (B:=18446744073709551616) (j:=i+k) (c:=c) (y:=x*y) (O:=U) zo;rw[hu] at hst hxu hgu;obtain ⟨hd1,hd2,hd3⟩:=C4 hxy hxu hc
     have hinv:aA 18446744073709551616 (U.set (i+k) ((u+c+x*y)%18446744073709551616))+18446744073709551616^(i+(k+1))*((u+c+x*y)/18446744073709551616)=aA 18446744073709551616 O+18446744073709551616^i*(x*aA 18446744073709551616 ((wg b).take (k+1))):=by
      rw[htb,show i+(k+1)=i+k+1 by omega,hst]
      have e:18446744073709551616^i*(x*(aA 18446744073709551616 ((wg b).take k)+18446744073709551616^k*y))=18446744073709551616^i*(x*aA 18446744073709551616 ((wg b).take k))+18446744073709551616^(i+k)*(x*y):=by
       rw[ag1,ag1,ahq]
       congr 1
       rw[ahZ x,←agZ]
      rw[e];generalize 18446744073709551616^(i+k)*c=A1 at*
      generalize 18446744073709551616^(i+k)*(x*y)=A2 at*
      generalize 18446744073709551616^i*(x*aA 18446744073709551616 ((wg b).take k))=A3 at*
      omega
     have hset:=fv U (i+k) ((u+c+x*y)%18446744073709551616);have hlen2:(U.set (i+k) ((u+c+x*y)%18446744073709551616)).length=(wg a).length+(wg b).length:=by rw[ag0,hU]
     have hall:=dS (B:=18446744073709551616) (x:=(u+c+x*y)%18446744073709551616) (i:=i+k) hUl (agJ _ zd)
     have hz2:∀j,i+(wg b).length≤j→(U.set (i+k) ((u+c+x*y)%18446744073709551616)).getD j 0=0:=fun j hj=>by
      rw[ago,ahw zo,←ago];exact hzU j hj
     have hm64:=p8 (x:=x) (y:=y) hxa hxb;generalize x*y=p at*
     generalize hsd:(u+c+p)%18446744073709551616=s at*
     generalize hcd:(u+c+p)/18446744073709551616=c' at*
     refine bh hgb ?_;refine az (hm64) rfl rfl ?_;refine dK hgu hik ?_;refine fo (c:=0) Tryz.func205 zk zk zk zk zo ?_;have hs1:(p%18446744073709551616+u+0)/18446744073709551616≤1:=by omega
     generalize (p%18446744073709551616+u+0)/18446744073709551616=c1 at*
     generalize (p%18446744073709551616+u+0)%18446744073709551616=l1 at*
     have hq1:((p/18446744073709551616:Nat):Int)+(c1:Int)=((p/18446744073709551616+c1:Nat):Int):=by omega
     refine bh hq1 ?_;refine fo (c:=0) Tryz.func205 zk zk zk zk zo ?_;rw[hd1];generalize (l1+c+0)/18446744073709551616=c2 at*
     have hq2:((p/18446744073709551616+c1:Nat):Int)+(c2:Int)=(c':Int):=by omega
     refine HU hik hq1 hq2 hset ?_;refine aO (k+1,c',U.set (i+k) s) [some 0,some 1,some 2,some 3] ⟨by simp only;omega,hd3,hlen2,hall,hinv,hz2⟩ (by simp only;omega)
   · obtain rfl:k=(wg b).length:=by omega
     have hfull:(wg b).take (wg b).length=wg b:=agB (agt _);rw[hfull,hbv] at hw;have hset:=fv U (i+(wg b).length) c;have hlen2:(U.set (i+(wg b).length) c).length=(wg a).length+(wg b).length:=by rw[ag0,hU]
     have hall:=dS (B:=18446744073709551616) (x:=c) (i:=i+(wg b).length) hUl hc
     have hz2:∀j,i+1+(wg b).length≤j→(U.set (i+(wg b).length) c).getD j 0=0:=fun j hj=>by
      rw[ago,ahw zo,←ago];exact hzU j zo
     have hvs:=qh (B:=18446744073709551616) (l:=U) (i:=i+(wg b).length) (x:=c) zo;rw[hzU _ (agt _),aiy,ahA,hw,hv] at hvs;have hik:((i:Int)+((wg b).length:Int)).toNat=i+(wg b).length:=by omega
     have hik2:((i:Int)+((nl (wg b)).length:Int)).toNat=i+(wg b).length:=by omega
     refine rD hik hik2 hset ?_;refine aO (i+1,U.set (i+(wg b).length) c) [some 0,some 1,some 2,some 3] ⟨by simp only;omega,hlen2,hall,by simp only;rw[hvs,hti,agH,agZ],hz2⟩ (by simp only;omega)
 · have hfull:(wg a).take i=wg a:=agB zo
   rw[hfull,hav] at hv;refine ae ?_;refine aV [] [3] (dc (l:=O) hOl zo) ?_;rw[hv];exact zE [] hQ
end Go.Proofs.YtcnlmelpnflhnaaGreat
