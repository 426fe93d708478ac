import Derived.Test.YtcnlmelpnflhnaaGreatD2
import Derived.Test.YtcnlmelpnflhnaaGreatD1
namespace Go.Proofs.YtcnlmelpnflhnaaGreat
open Go.Eng Go.Vx
set_option linter.unusedSimpArgs false
set_option linter.unusedVariables false
set_option maxRecDepth 100000
theorem G9 {B n V:Nat} (hB:0<B) (hV:V<B^(n+1)):V/B^n<B:=by
 rw[ajX (ajV hB),ajJ,←ajS];exact hV
theorem MG {B n V D N c:Nat} (hB:0<B) (hV:V<B^(n+1)) (h:N+B^n*c=V%B^n+D):N+B^n*((V/B^n+c)%B)+B^(n+1)*((V/B^n+c)/B)=V+D:=by
 have h1:=ajT V (B^n);have h2:=ajT (V/B^n+c) B;generalize V/B^n=w at*
 generalize V%B^n=x at*
 generalize (w+c)%B=a at*
 generalize (w+c)/B=b at*
 have h3:=congrArg (B^n* ·) h2;simp only[aj0,←ajZ] at h3;rw[ajS];generalize B^n*B*b=y1 at*
 generalize B^n*a=y2 at*
 generalize B^n*w=y3 at*
 generalize B^n*c=y4 at*
 omega
theorem L3 {P N T:List Nat} {a:Nat}:(iY P (N++[a]) T).getD (P.length+N.length) 0=a:=by
 unfold iY;rw[ajk,ajx zo,Nat.add_sub_cancel_left,ajw (by simp),ajx (ajp _),akz]
 rfl
theorem Dr {B n U D V g Nv a e:Nat} (hB:0<B) (hD0:0<D) (hD:D<B^n) (hN:Nv<B^n) (ha:a<B) (hg1:U/D<g) (hg2:g<B) (hV:V+g*D=U+B^(n+1)) (h:Nv+B^n*a+B^(n+1)*e=V+D):
 (a=0∧g-1=U/D∧Nv+B^n*a=U%D)∨(a≠0∧U/D<g-1∧(Nv+B^n*a)+(g-1)*D=U+B^(n+1)):=by
 have hP:0<B^n:=ajV hB;have hback:=fun h2=>GD (B:=B) (n:=n) (U:=U) (V:=Nv+B^n*a) (g:=g-1) hB hD zo h2;have hXe:B^n*B=B^(n+1):=(ajS ..).symm;generalize B^(n+1)=X at*
 generalize B^n=Y at*
 have hX:Nv+Y*a<X:=by
  have:=akk Y (show a+1≤B from ha)
  rw[hXe,aj0,ak6] at this;omega
 have hle:Y≤X:=by rw[←hXe];exact Nat.le_mul_of_pos_right _ hB
 by_cases hl:g=U/D+1
 · left
   have h1:=DD (D:=D) rfl hV hl;have hm:=ajI U hD0
   have he:e=1:=by
    rcases akT e 1 with h0 | h0
    · obtain rfl:e=0:=by omega
      rw[alB] at h;omega
    · rcases akT 1 e with h2 | h2
      · have:=akk X (show 2≤e from h2)
        omega
      · omega
   subst he;have hv:Nv+Y*a=U%D:=by omega
   refine⟨?_,Nat.sub_eq_of_eq_add hl,hv⟩;rcases ajW a with h0 | h0
   · exact h0
   · have:=akk Y (show 1≤a from h0)
     omega
 · right
   have hl2:U/D+1<g:=by omega
   obtain ⟨h1,h2⟩:=DF hD0 hl2 hV
   have he:e=0:=by
    rcases ajW e with h0 | h0
    · exact h0
    · have:=akk X (show 1≤e from h0)
      omega
   subst he;have hv:Nv+Y*a=V+D:=by omega
   rw[←hv] at h2;have h3:=hback h2;refine⟨?_,by omega,h2⟩;rintro rfl;omega
set_option maxHeartbeats 4000000 in
theorem I4 {P S dl:List Nat} {U n:Nat} (hn:dl.length=n) (hn0:0<n) (hdl:∀d∈dl,d<18446744073709551616) (hS:∀d∈S,d<18446744073709551616) (htop:dl.getD (n-1) 0≠0) (hU:U<aD 18446744073709551616 dl*18446744073709551616) (hsz:P.length+(n+1)+S.length≤4000000):
 aA Tryz.prog 204 [.sl 0 1 P.length (n+1),.row 1 ((nl dl).map (ie .u64))] [some (.row 1 ((nl (P++(fw 18446744073709551616 (n+1) U++S))).map (ie .u64)))]
 (.lit (.int .u64 ((U/aD 18446744073709551616 dl:Nat):Int))) [some (.row 1 ((nl (P++(fw 18446744073709551616 (n+1) (U%aD 18446744073709551616 dl)++S))).map (ie .u64)))]:=by
 have hDlt:aD 18446744073709551616 dl<18446744073709551616^n:=by have:=fU hdl;rwa [hn] at this
 have hdf:=xR (B:=18446744073709551616) hdl hn rfl;have hdw:=iS (B:=18446744073709551616) (k:=n) (i:=n-1) (aD 18446744073709551616 dl) zo;rw[hdf] at hdw;have hnd:=ay dl;have htk:=fun D:Nat=>Nk (P:=P) (S:=S) (dl:=dl) (U:=U) (t:=D) hn hdl hS;generalize hD:aD 18446744073709551616 dl=D at*
 have hU1:U<18446744073709551616^(n+1):=by
  rw[ajS];exact aj2 hU (ajP _ (al6 hDlt))
 obtain ⟨t1,t2,t3⟩:=agt (B:=18446744073709551616) zd hn0 hU1 hDlt;rw[t2] at hdw;rw[hdw] at htop;have htp:0<D/18446744073709551616^(n-1):=al1 htop;have hP0:0<18446744073709551616^(n-1):=ajV zd
 have hD0:0<D:=by
  rcases ajW D with h | h
  · rw[h,Nat.zero_div] at htp;omega
  · exact h
 have hge:=Hg (U:=U) (D:=D) hP0 htp;have hQlt:U/D<18446744073709551616:=by rw[ajX hD0,ajJ];exact hU
 have hTl:(fw 18446744073709551616 (n+1) U++S).length=n+1+S.length:=by rw[ajj,cI]
 have hu1:(P++(fw 18446744073709551616 (n+1) U++S)).getD (P.length+n) 0=U/18446744073709551616^n:=by
  have h1:=nA (P:=P) (N:=[]) (T:=fw 18446744073709551616 (n+1) U++S) (i:=n) (ajH _) zo;rw[ni] at h1;rw[h1,←t1,←iS (k:=n+1) U zo,ajk,ajw (by rw[cI];omega),←ajk]
 have hu2:(P++(fw 18446744073709551616 (n+1) U++S)).getD (P.length+(n-1)) 0=U/18446744073709551616^(n-1)%18446744073709551616:=by
  have h1:=nA (P:=P) (N:=[]) (T:=fw 18446744073709551616 (n+1) U++S) (i:=n-1) (ajH _) zo;rw[ni] at h1;rw[h1,←iS (k:=n+1) U zo,ajk,ajw (by rw[cI];omega),←ajk]
 have hnT:=ay (P++(fw 18446744073709551616 (n+1) U++S));rw[ajj,hTl] at hnT;have g1:=(bD (P++(fw 18446744073709551616 (n+1) U++S)) (P.length+n)).trans (by rw[hu1]);have g2:=(bD (P++(fw 18446744073709551616 (n+1) U++S)) (P.length+(n-1))).trans (by rw[hu2]);have g3:=(bD dl (n-1)).trans (by rw[hdw]);have hlo:U/18446744073709551616^(n-1)%18446744073709551616<18446744073709551616:=ajI _ zd;have hyl:D/18446744073709551616^(n-1)<18446744073709551616:=by rw[←t2];exact ajI _ zd
 have hul:U/18446744073709551616^n<18446744073709551616:=by rw[←t1];exact ajI _ zd
 have hdv:=fun h=>wT (hi:=U/18446744073709551616^n) (lo:=U/18446744073709551616^(n-1)%18446744073709551616) (y:=D/18446744073709551616^(n-1)) h hlo hyl;rw[t3] at hdv
 have hgl:U/18446744073709551616^n<D/18446744073709551616^(n-1)→U/18446744073709551616^(n-1)/(D/18446744073709551616^(n-1))<18446744073709551616:=fun h=>by
  rw[ajX htp]
  have:U/18446744073709551616^n*18446744073709551616+U/18446744073709551616^(n-1)%18446744073709551616<D/18446744073709551616^(n-1)*18446744073709551616:=by
   generalize U/18446744073709551616^n=x1 at*
   generalize U/18446744073709551616^(n-1)%18446744073709551616=x2 at*
   generalize D/18446744073709551616^(n-1)=x3 at*
   omega
  rw[t3,ajJ] at this;exact this
 have hidx:((n:Int)-1).toNat=n-1:=by omega
 have hnd':(nl dl).length=n:=by omega
 refine zF Ih Tryz.call204 Tryz.func204 [.tmp 4] fun Q hQ=>?_;refine PN hnd' hidx g1 g2 g3 ?_
 by_cases hlt:U/18446744073709551616^n<D/18446744073709551616^(n-1)
 case' pos=>
  have hg0:=hgl hlt;have hdv:=hdv hlt;generalize U/18446744073709551616^(n-1)/(D/18446744073709551616^(n-1))=g0 at*
  have hcd:decide (((U/18446744073709551616^n:Nat):Int)<((D/18446744073709551616^(n-1):Nat):Int))=true:=aju zo;refine vd hcd hnd' hidx g1 g2 g3 ?_;refine aB (hdv) rfl rfl ?_;refine vd hcd hnd' hidx g1 g2 g3 ?_
 case' neg=>
  have hcd:decide (((U/18446744073709551616^n:Nat):Int)<((D/18446744073709551616^(n-1):Nat):Int))=false:=ajn zo;refine vd hcd hnd' hidx g1 g2 g3 ?_;obtain ⟨g0,hg0e⟩:∃g0:Nat,g0=18446744073709551615:=⟨_,rfl⟩;have hg0i:(18446744073709551615:Int)=(g0:Int):=by omega
  rw[hg0i];have hg0:g0<18446744073709551616:=by omega
  have hge:U/D≤g0:=by omega
 all_goals
  have ht:=htk g0 hU1 hg0 hsz
  have hst:∃b V,(if U<g0*D then 1 else 0)=b∧U+18446744073709551616^(n+1)*(if U<g0*D then 1 else 0)-g0*D=V∧V<18446744073709551616^(n+1)∧((b=0∧g0=U/D∧V=U%D)∨(b=1∧U/D<g0∧g0<18446744073709551616∧V+g0*D=U+18446744073709551616^(n+1))):=by
   have hdm:=ajT U D;have hml:=ajI U hD0
   by_cases hb:U<g0*D
   · refine⟨1,_,if_pos hb,rfl,?_⟩
     rw[if_pos hb,ak6];have hq:U/D<g0:=by rw[ajX hD0];exact hb
     have hle:g0*D≤18446744073709551616^(n+1):=by
      rw[ajS,ajJ];exact ajO (al6 hDlt) (al6 hg0)
     generalize 18446744073709551616^(n+1)=X at*
     generalize g0*D=gd at*
     exact⟨by omega,.inr ⟨rfl,hq,hg0,by omega⟩⟩
   · refine⟨0,_,if_neg hb,rfl,?_⟩
     rw[if_neg hb,alB,aky];have hq:g0≤U/D:=by rw[akL hD0];omega
     have hqe:g0=U/D:=by omega
     have hv:U-g0*D=U%D:=by rw[hqe,ajJ];omega
     rw[hv];exact⟨aj9 (Nat.mod_le _ _) hU1,.inl ⟨rfl,hqe,rfl⟩⟩
  obtain ⟨b,V0,hb1,hb2,hb3,hb4⟩:=hst;rw[hb2,hb1] at ht;refine aF [some 0] [] (ht) ?_;refine br hnd' ?_
  refine aR (X:=Nat×Nat×Nat) (st:=fun z=>([(0,.sl 0 1 P.length (n+1)),(1,.row 1 ((nl dl).map (ie .u64))),(5,.lit (.int .i64 (n:Int))),(6,.lit (.int .u64 (z.1:Int))),(7,.lit (.int .i64 (z.2.2:Int)))],[some (.row 1 ((nl (P++(fw 18446744073709551616 (n+1) z.2.1++S))).map (ie .u64)))]))
   (inv:=fun z=>z.2.1<18446744073709551616^(n+1)∧((z.2.2=0∧z.1=U/D∧z.2.1=U%D)∨(z.2.2=1∧U/D<z.1∧z.1<18446744073709551616∧z.2.1+z.1*D=U+18446744073709551616^(n+1)))) (m:=fun z=>z.1) (g0,V0,b) [some 0] ⟨hb3,hb4⟩ ?_
  clear hb1 hb2 hb3 hb4 ht htk g1 g2 g3 hu1 hu2 hdv hgl hcd hnT hTl;rintro ⟨g,x0,tm⟩ ⟨hV1,hV2⟩;simp only at hV1 hV2 ⊢;rcases hV2 with⟨rfl,rfl,rfl⟩ | ⟨rfl,hg1,hg2,hV⟩
  · refine ae ?_
    exact ak [some 0] hQ
  · have hTl:=show(fw 18446744073709551616 (n+1) x0++S).length=n+1+S.length by rw[ajj,cI]
    have hTw:=Gi (U:=x0) (k:=n+1) zd hS
    have hTv:aD 18446744073709551616 ((fw 18446744073709551616 (n+1) x0++S).take n)=x0%18446744073709551616^n:=by
     rw[jI n 1,ajq,akv (cI n x0),ku zd]
    have hTn:(fw 18446744073709551616 (n+1) x0++S).getD n 0=x0/18446744073709551616^n:=by
     rw[ajk,ajw (by rw[cI];omega),←ajk,iS (k:=n+1) (i:=n) x0 zo,ajL (G9 zd hV1)]
    have hfull:=fun N=>yA (P:=P) (N:=N) (S:=S) (B:=18446744073709551616) (k:=n+1) (U:=x0);generalize hT:fw 18446744073709551616 (n+1) x0++S=T at*
    have hgp:0<g:=aj9 (ajH _) hg1;have hgm:(g:Int)-1=((g-1:Nat):Int):=by omega
    have hpT:=ay (P++T);rw[ajj] at hpT;refine ej hnd' hgm ?_
    refine aT (X:=List Nat×Nat) (st:=fun z=>([(0,.sl 0 1 P.length (n+1)),(1,.row 1 ((nl dl).map (ie .u64))),(5,.lit (.int .i64 (n:Int))),(6,.lit (.int .u64 ((g-1:Nat):Int))),(7,.lit (.int .i64 1)),(8,.lit (.int .u64 (z.2:Int))),(51,.row 1 ((nl dl).map (ie .u64))),(52,.lit (.int .i64 (n:Int))),(53,.lit (.int .i64 (z.1.length:Int)))],[some (.row 1 ((nl (iY P z.1 T)).map (ie .u64)))]))
     (inv:=fun z=>z.1.length≤n∧(∀d∈z.1,d<18446744073709551616)∧z.2≤1∧aD 18446744073709551616 z.1+18446744073709551616^z.1.length*z.2=aD 18446744073709551616 (T.take z.1.length)+aD 18446744073709551616 (dl.take z.1.length))
     (m:=fun z=>n-z.1.length) ([],0) [some 0] rfl (by simp only[ni];exact zM) zM ⟨by simp,by simp,by simp,by simp[aD]⟩ ?_
    rintro ⟨N,c⟩ ⟨hi,hN,hc,hv⟩;simp only at hi hN hc hv ⊢;have hprl:=n7 (P:=P) (N:=N) (T:=T) zo;have hnp:=ay (iY P N T);have hgu:=fun(i:Nat) (h:N.length≤i) (h2:i<T.length)=>(bD (iY P N T) (P.length+i)).trans (by rw[nA h h2]);have hset:∀x:Nat,(nl (iY P N T)).set (P.length+N.length) (x:Int)=nl (iY P (N++[x]) T):=fun x=>by rw[fT,vE zo]
    have hxu:=cL zd hTw N.length
    by_cases h1:N.length<n
    · have hgd:=bD dl N.length
      have hxd:=cL zd hdl N.length;have hgu:=hgu N.length (ajp _) zo;have hst:=xo hv;generalize T.getD N.length 0=u at*
      generalize dl.getD N.length 0=y at*
      have hcs:u+y+c=c+u+y:=by omega
      have hinv:(∀d∈N++[(c+u+y)%18446744073709551616],d<18446744073709551616)∧(c+u+y)/18446744073709551616≤1:=⟨jZ hN (ajI _ zd),by omega⟩;have hls:(N++[(c+u+y)%18446744073709551616]).length=N.length+1:=by simp
      refine ej hgd hgu ?_;refine fN Tryz.func205 zk zk zk zk zo ?_;rw[hcs];refine br hset ?_;refine aH (N++[(c+u+y)%18446744073709551616],(c+u+y)/18446744073709551616) [some 0] rfl (by rw[hls];exact zM) (by exact zM) ⟨by simp only;omega,hinv.1,hinv.2,by simp only[hls];exact hst⟩ (by simp only;omega)
    · have hNe:N.length=n:=by omega
      have hgu:=hgu N.length (ajp _) zo;rw[hNe] at hgu hset hv hxu;rw[hTn] at hgu hxu;have hdft:dl.take n=dl:=ajy zo;rw[hTv,hdft,hD] at hv;have hat:=MG (B:=18446744073709551616) zd hV1 hv;have hNl:=fU (B:=18446744073709551616) hN;rw[hNe] at hNl;have hal:=ajI (x0/18446744073709551616^n+c) (show 0<18446744073709551616 by decide)
      have hw:IntKind.u64.wrap (((x0/18446744073709551616^n:Nat):Int)+(c:Int))=(((x0/18446744073709551616^n+c)%18446744073709551616:Nat):Int):=by
       rw[jg];omega
      have hbs:=Dr (B:=18446744073709551616) zd hD0 hDlt hNl hal hg1 hg2 hV hat;obtain ⟨a,ha⟩:∃a,(x0/18446744073709551616^n+c)%18446744073709551616=a:=⟨_,rfl⟩;rw[ha] at hw hbs hal;have hx1:aD 18446744073709551616 (N++[a])=aD 18446744073709551616 N+18446744073709551616^n*a:=by rw[eo,hNe]
      rw[←hx1] at hbs;have hfw:=xR (B:=18446744073709551616) (l:=N++[a]) (k:=n+1) (jZ hN hal) (by simp;omega) rfl;have hvl:=fU (B:=18446744073709551616) (l:=N++[a]) (jZ hN hal);rw[show(N++[a]).length=n+1 by simp;omega] at hvl;have hend:iY P (N++[a]) T=P++(fw 18446744073709551616 (n+1) (aD 18446744073709551616 (N++[a]))++S):=by rw[hfw];exact hfull _ (by simp;omega)
      have htopa:(nl (iY P (N++[a]) T)).getD (P.length+n) 0=(a:Int):=by rw[bD,←hNe,L3]
      have hprl2:=n7 (P:=P) (N:=N++[a]) (T:=T) (by simp;omega);have hnp2:=ay (iY P (N++[a]) T);generalize aD 18446744073709551616 (N++[a])=x1 at*
      rcases hbs with⟨ha0,hb1,hb2⟩ | ⟨ha0,hb1,hb2⟩
      · have hda:decide ((a:Int)=0)=true:=aju zo
        refine XN hgu hw hset htopa hda (show(1:Int)+1=2 from rfl) (show(2:Int)-1=1 from rfl) ?_;refine aH (g-1,x1,0) [some 0] rfl (by simp only[hend];exact zM) zM ⟨hvl,.inl ⟨rfl,hb1,hb2⟩⟩ (by simp only;omega)
      · have hda:decide ((a:Int)=0)=false:=ajn zo
        have hwc:((x0/18446744073709551616^n:Nat):Int)+(c:Int)=(a:Int):=by omega
        refine PJ hgu hw hwc hset htopa hda (show(1:Int)+1=2 from rfl) (show(2:Int)-1=1 from rfl) ?_;refine aH (g-1,x1,1) [some 0] rfl (by simp only[hend];exact zM) zM ⟨hvl,.inr ⟨rfl,hb1,by simp only;omega,hb2⟩⟩ (by simp only;omega)
end Go.Proofs.YtcnlmelpnflhnaaGreat
